/- The functions that the law reaches, told as points of a program. Conditions: none. -/
import Derived.Test.YtmgkciadnmnbjaaMt3
import Derived.Test.YtmgkciadnmnbjaaProg
import Derived.KernelRfl
import Derived.Test.YtmgkciadnmnbjaaMo
/- Trees of values: what is told of the functions, and words for views and calls. -/
namespace Go.Tree.Q
open Go.Proofs
set_option linter.unusedVariables false
set_option maxRecDepth 20000
abbrev i64 (n : Int) : TV := .fl (.int .i64 n)
abbrev tb (b : Bool) : TV := .fl (.bool b)
abbrev tnil : TV := .fl (.pointer none)
abbrev sl (r : Bool) (k : Ek) (xs : List TV) : TV := .sl r k () xs
abbrev w64 (n : Int) : Int := IntKind.i64.wrap n
abbrev uns (n : Nat) : Env := List.replicate n .un
abbrev tab8 : ByteArray := ⟨#[0, 1, 2, 2, 3, 3, 3, 3, 4, 4, 4, 4, 4, 4, 4, 4, 5, 5, 5, 5, 5, 5, 5, 5, 5, 5, 5, 5, 5, 5, 5, 5, 6, 6, 6, 6, 6, 6, 6, 6, 6, 6, 6, 6, 6, 6, 6, 6, 6, 6, 6, 6, 6, 6, 6, 6, 6, 6, 6, 6, 6, 6, 6, 6, 7, 7, 7, 7, 7, 7, 7, 7, 7, 7, 7, 7, 7, 7, 7, 7, 7, 7, 7, 7, 7, 7, 7, 7, 7, 7, 7, 7, 7, 7, 7, 7, 7, 7, 7, 7, 7, 7, 7, 7, 7, 7, 7, 7, 7, 7, 7, 7, 7, 7, 7, 7, 7, 7, 7, 7, 7, 7, 7, 7, 7, 7, 7, 7, 8, 8, 8, 8, 8, 8, 8, 8, 8, 8, 8, 8, 8, 8, 8, 8, 8, 8, 8, 8, 8, 8, 8, 8, 8, 8, 8, 8, 8, 8, 8, 8, 8, 8, 8, 8, 8, 8, 8, 8, 8, 8, 8, 8, 8, 8, 8, 8, 8, 8, 8, 8, 8, 8, 8, 8, 8, 8, 8, 8, 8, 8, 8, 8, 8, 8, 8, 8, 8, 8, 8, 8, 8, 8, 8, 8, 8, 8, 8, 8, 8, 8, 8, 8, 8, 8, 8, 8, 8, 8, 8, 8, 8, 8, 8, 8, 8, 8, 8, 8, 8, 8, 8, 8, 8, 8, 8, 8, 8, 8, 8, 8, 8, 8, 8, 8, 8, 8, 8, 8, 8, 8, 8, 8, 8, 8, 8, 8]⟩
/-- A table. -/
def tab {β : Type} (d : β) : List (Nat × β) → Nat → β
  | [], _ => d
  | (k, v) :: l, n => bif Nat.beq k n then v else tab d l n
/-- What the evaluator is told of the functions: who writes what, what lives where. -/
noncomputable def cx : Ctx where
  P := Try.prog
  sig := tab ⟨[], [], [], false⟩ [(48, ⟨[true], [true], [], false⟩), (67, ⟨[true], [], [], false⟩), (68, ⟨[true], [true], [true], false⟩), (79, ⟨[true], [], [], false⟩), (81, ⟨[true], [], [], false⟩), (82, ⟨[true], [], [], false⟩), (83, ⟨[true], [], [], false⟩), (85, ⟨[true], [], [], false⟩), (86, ⟨[true], [], [], false⟩), (88, ⟨[true], [], [], false⟩), (89, ⟨[true], [], [], false⟩), (92, ⟨[true], [], [], false⟩), (94, ⟨[true], [], [], false⟩), (95, ⟨[false, false, true], [], [], false⟩), (96, ⟨[false, false, false, false, true], [], [], false⟩), (98, ⟨[false, false, false, true], [], [], false⟩)]
  given := fun f => bif Nat.beq f 49 then some O.g49 else none
  keep := fun f r => tab [] [(5005, [0, 1, 5]), (7003, [0, 3, 4]), (9004, [0, 1, 5]), (13002, [0, 5, 6, 7]), (14004, [0, 22, 23, 24]), (17004, [0, 15, 16, 17]), (19003, [1, 2, 7, 12, 13, 14]), (19006, [1, 2, 7, 8, 9, 12, 13, 14, 20, 21, 22]), (20004, [1, 3, 4, 17, 18]), (20008, [1, 3, 4, 5, 6, 17, 18, 24, 25, 26]), (21003, [2, 3, 9, 10, 11]), (21007, [2, 3, 6, 9, 10, 11, 16, 17, 18]), (22007, [4, 5, 39, 40, 41]), (22012, [4, 5, 55, 56, 57]), (22016, [4, 5, 9, 10, 11, 55, 56, 57, 67, 68, 69]), (24003, [0, 1, 5, 13, 14, 15]), (24006, [0, 1, 5, 6, 7, 13, 14, 15, 21, 22, 23]), (27002, [1, 2, 11, 12, 13]), (27008, [1, 2, 22, 23, 24]), (29003, [0, 3, 4]), (29006, [0, 3, 4, 24, 25, 26]), (29013, [3, 7, 39, 40, 41]), (30002, [0, 5, 6, 7]), (31002, [1, 2, 5]), (31004, [1, 2, 5, 6, 14, 15, 16]), (31008, [1, 2, 5, 6, 8, 9, 14, 15, 16, 24, 25, 26]), (32003, [0, 3, 4]), (33003, [0, 3, 4]), (39006, [0, 2, 7, 8]), (39009, [0, 2, 7, 8, 33, 34, 35]), (40003, [3, 9, 10, 11]), (42003, [2, 3, 10, 11, 12]), (43003, [0, 3, 4, 27, 28, 29]), (43006, [0, 3, 4, 5, 27, 28, 29, 34, 35, 36]), (43013, [4, 65, 66, 67]), (43016, [4, 10, 65, 66, 67, 74, 75, 76]), (44004, [0, 1, 5]), (45004, [0, 1, 5]), (46002, [1, 7, 8, 9]), (47005, [1, 2, 5, 6]), (47008, [1, 2, 5, 6, 25, 26, 27]), (48002, [0, 1, 5, 48]), (50003, [0, 3, 4, 16, 17]), (50008, [0, 3, 4, 27, 28, 29]), (50013, [0, 3, 4, 6, 8, 27, 28, 29, 41, 42]), (51003, [3, 7, 8, 9]), (57002, [0, 1, 7, 8]), (64002, [0, 1, 7, 8]), (68004, [0, 3, 61]), (68009, [0, 3, 4, 5, 61]), (72002, [0, 1, 7, 8]), (77002, [0, 1, 7, 8]), (78002, [0, 1, 7, 8]), (79002, [0, 1, 2, 3, 8, 9, 134]), (81001, [0, 1, 2, 6, 49]), (81004, [0, 1, 2, 6, 7, 49]), (82004, [0, 6, 7, 8, 9, 56]), (82008, [0, 6, 7, 10, 56]), (83005, [0, 1, 6, 7, 8, 9, 65]), (85002, [0, 6, 7, 32]), (86003, [0, 1, 2, 7, 8, 133]), (86005, [0, 1, 2, 7, 8, 133]), (86014, [0, 1, 2, 7, 8, 9, 133]), (86020, [0, 1, 2, 7, 8, 10, 133]), (88003, [0, 1, 9, 10, 84]), (88005, [0, 1, 9, 10, 84]), (89003, [0, 1, 10, 11, 168]), (89005, [0, 1, 10, 11, 168]), (89013, [0, 1, 10, 11, 168]), (89015, [0, 1, 10, 11, 168]), (92001, [0, 2, 3, 8, 76])] (f * 1000 + r)
  cut := fun f r => tab none [(20011, some [1, 3, 4, 5, 6, 8, 17, 18, 24, 25, 26, 38]), (22006, some [4, 5]), (39012, some [0, 2, 7, 8, 10, 33, 34, 35, 49]), (43002, some [0, 3, 4]), (50002, some [0, 3, 4]), (54008, some [1, 22, 43]), (73006, some [2, 4, 8]), (79010, some [0, 1, 2, 3, 8, 9, 10, 134]), (79015, some [0, 1, 2, 3, 8, 9, 10, 11, 12, 134]), (79017, some [0, 1, 2, 3, 8, 9, 10, 11, 134]), (79018, some [0, 1, 2, 3, 8, 9, 10, 11, 87, 134]), (83010, some [0, 1, 6, 7, 8, 9, 10, 65]), (84011, some [0, 9, 10, 11, 12]), (84012, some [9, 11]), (86018, some [0, 1, 2, 7, 8, 133]), (91004, some [0, 2]), (91007, some [0, 2]), (91010, some [0, 2]), (92005, some [0, 2, 3, 8, 9, 76])] (f * 1000 + r)
  pol := fun f => ⟨fun s i b => match tab 0 [(80810000000, 1), (110810000000, 1), (220810000000, 1), (240810000000, 1), (530810000000, 1)] ((f * 1000 + s) * 10000000 + i) with | 0 => !b | 1 => b | _ => true, fun t => tab false [(11049, true)] (f * 1000 + t)⟩
  inl := tab false []
  own := tab false [(50, true)]
theorem call_S {f g : FuncId} {args : List TV} {v : Res} {K : Res → Nd} {X : Option Res} (h : tw cx g args = some v) (e : S cx f (K v) = X) : S cx f (.call g args K) = X := by
  show Option.bind (tw cx g args) _ = X
  rw [h]
  exact e
noncomputable def C5 (B0 : List TV) (B1 : Int) (K : Int → Nd) : Nd := .call 5 [sl true ⟨4, true⟩ B0, i64 B1] fun R => .cons R.1 fun X0 X1 => .int .i64 X0 fun A0 => .nil X1 <| .nil R.2 <| K A0
theorem C5_S {f : FuncId} {B0 : List TV} {B1 : Int} {A0 : Int} {K : Int → Nd} (h : tw cx 5 [sl true ⟨4, true⟩ B0, i64 B1] = some ([i64 A0], [])) : S cx f (C5 B0 B1 K) = S cx f (K A0) := call_S h rfl
noncomputable def C7 (B0 : List TV) (K : (List TV) → Nd) : Nd := .call 7 [sl true ⟨4, true⟩ B0] fun R => .cons R.1 fun X0 X1 => .slO ⟨4, true⟩ X0 fun A0 => .nil X1 <| .nil R.2 <| K A0
theorem C7_S {f : FuncId} {B0 : List TV} {A0 : List TV} {K : (List TV) → Nd} (h : tw cx 7 [sl true ⟨4, true⟩ B0] = some ([sl false ⟨4, true⟩ A0], [])) : S cx f (C7 B0 K) = S cx f (K A0) := call_S h rfl
noncomputable def C6 (B0 : List TV) (K : Bool → Bool → Nd) : Nd := .call 6 [sl true ⟨4, true⟩ B0] fun R => .cons R.1 fun X0 X1 => .bool X0 fun A0 => .cons X1 fun X2 X3 => .bool X2 fun A1 => .nil X3 <| .nil R.2 <| K A0 A1
theorem C6_S {f : FuncId} {B0 : List TV} {A0 : Bool} {A1 : Bool} {K : Bool → Bool → Nd} (h : tw cx 6 [sl true ⟨4, true⟩ B0] = some ([tb A0, tb A1], [])) : S cx f (C6 B0 K) = S cx f (K A0 A1) := call_S h rfl
noncomputable def C8 (B0 : List TV) (K : Bool → Bool → Nd) : Nd := .call 8 [sl true ⟨4, true⟩ B0] fun R => .cons R.1 fun X0 X1 => .bool X0 fun A0 => .cons X1 fun X2 X3 => .bool X2 fun A1 => .nil X3 <| .nil R.2 <| K A0 A1
theorem C8_S {f : FuncId} {B0 : List TV} {A0 : Bool} {A1 : Bool} {K : Bool → Bool → Nd} (h : tw cx 8 [sl true ⟨4, true⟩ B0] = some ([tb A0, tb A1], [])) : S cx f (C8 B0 K) = S cx f (K A0 A1) := call_S h rfl
noncomputable def C9 (B0 : List TV) (B1 : List TV) (K : Bool → Nd) : Nd := .call 9 [sl true ⟨4, true⟩ B0, sl true ⟨4, true⟩ B1] fun R => .cons R.1 fun X0 X1 => .bool X0 fun A0 => .nil X1 <| .nil R.2 <| K A0
theorem C9_S {f : FuncId} {B0 : List TV} {B1 : List TV} {A0 : Bool} {K : Bool → Nd} (h : tw cx 9 [sl true ⟨4, true⟩ B0, sl true ⟨4, true⟩ B1] = some ([tb A0], [])) : S cx f (C9 B0 B1 K) = S cx f (K A0) := call_S h rfl
noncomputable def C10 (B0 : List TV) (B1 : Int) (K : Bool → Bool → Nd) : Nd := .call 10 [sl true ⟨4, true⟩ B0, i64 B1] fun R => .cons R.1 fun X0 X1 => .bool X0 fun A0 => .cons X1 fun X2 X3 => .bool X2 fun A1 => .nil X3 <| .nil R.2 <| K A0 A1
theorem C10_S {f : FuncId} {B0 : List TV} {B1 : Int} {A0 : Bool} {A1 : Bool} {K : Bool → Bool → Nd} (h : tw cx 10 [sl true ⟨4, true⟩ B0, i64 B1] = some ([tb A0, tb A1], [])) : S cx f (C10 B0 B1 K) = S cx f (K A0 A1) := call_S h rfl
noncomputable def C11 (B0 : List TV) (B1 : Int) (K : Bool → Bool → Nd) : Nd := .call 11 [sl true ⟨4, true⟩ B0, i64 B1] fun R => .cons R.1 fun X0 X1 => .bool X0 fun A0 => .cons X1 fun X2 X3 => .bool X2 fun A1 => .nil X3 <| .nil R.2 <| K A0 A1
theorem C11_S {f : FuncId} {B0 : List TV} {B1 : Int} {A0 : Bool} {A1 : Bool} {K : Bool → Bool → Nd} (h : tw cx 11 [sl true ⟨4, true⟩ B0, i64 B1] = some ([tb A0, tb A1], [])) : S cx f (C11 B0 B1 K) = S cx f (K A0 A1) := call_S h rfl
noncomputable def V4 (t : TV) (K : (List TV) → Int → Int → (List TV) → Nd) : Nd := .st t fun L => .cons L fun TV0 L0 => .slR ⟨6, false⟩ TV0 fun A0 => .cons L0 fun TV1 L1 => .int .i64 TV1 fun A1 => .cons L1 fun TV2 L2 => .int .i64 TV2 fun A2 => .cons L2 fun TV3 L3 => .slR ⟨1, false⟩ TV3 fun A3 => .nil L3 <| K A0 A1 A2 A3
theorem V4_S {f : FuncId} {A0 : List TV} {A1 : Int} {A2 : Int} {A3 : List TV} {q0 : Bool} {q1 : Bool} {K : (List TV) → Int → Int → (List TV) → Nd} : S cx f (V4 (.st [sl q0 ⟨6, false⟩ A0, i64 A1, i64 A2, sl q1 ⟨1, false⟩ A3]) K) = S cx f (K A0 A1 A2 A3) := rfl
noncomputable def C12 (B0 : List TV) (B1 : Int) (B2 : Int) (B3 : List TV) (B4 : Int) (K : Int → Nd) : Nd := .call 12 [.st [sl true ⟨6, false⟩ B0, i64 B1, i64 B2, sl true ⟨1, false⟩ B3], i64 B4] fun R => .cons R.1 fun X0 X1 => .int .i64 X0 fun A0 => .nil X1 <| .nil R.2 <| K A0
theorem C12_S {f : FuncId} {B0 : List TV} {B1 : Int} {B2 : Int} {B3 : List TV} {B4 : Int} {A0 : Int} {K : Int → Nd} (h : tw cx 12 [.st [sl true ⟨6, false⟩ B0, i64 B1, i64 B2, sl true ⟨1, false⟩ B3], i64 B4] = some ([i64 A0], [])) : S cx f (C12 B0 B1 B2 B3 B4 K) = S cx f (K A0) := call_S h rfl
noncomputable def C13 (B0 : List TV) (K : Bool → Nd) : Nd := .call 13 [sl true ⟨4, true⟩ B0] fun R => .cons R.1 fun X0 X1 => .bool X0 fun A0 => .nil X1 <| .nil R.2 <| K A0
theorem C13_S {f : FuncId} {B0 : List TV} {A0 : Bool} {K : Bool → Nd} (h : tw cx 13 [sl true ⟨4, true⟩ B0] = some ([tb A0], [])) : S cx f (C13 B0 K) = S cx f (K A0) := call_S h rfl
noncomputable def C14 (B0 : List TV) (K : Bool → Nd) : Nd := .call 14 [sl true ⟨4, true⟩ B0] fun R => .cons R.1 fun X0 X1 => .bool X0 fun A0 => .nil X1 <| .nil R.2 <| K A0
theorem C14_S {f : FuncId} {B0 : List TV} {A0 : Bool} {K : Bool → Nd} (h : tw cx 14 [sl true ⟨4, true⟩ B0] = some ([tb A0], [])) : S cx f (C14 B0 K) = S cx f (K A0) := call_S h rfl
noncomputable def C15 (B0 : List TV) (B1 : Int) (B2 : Int) (B3 : List TV) (K : (List TV) → Int → Int → (List TV) → Nd) : Nd := .call 15 [.st [sl true ⟨6, false⟩ B0, i64 B1, i64 B2, sl true ⟨1, false⟩ B3]] fun R => .cons R.1 fun X0 X1 => .st X0 fun X2 => .cons X2 fun X3 X4 => .slO ⟨6, false⟩ X3 fun A0 => .cons X4 fun X5 X6 => .int .i64 X5 fun A1 => .cons X6 fun X7 X8 => .int .i64 X7 fun A2 => .cons X8 fun X9 X10 => .slO ⟨1, false⟩ X9 fun A3 => .nil X10 <| .nil X1 <| .nil R.2 <| K A0 A1 A2 A3
theorem C15_S {f : FuncId} {B0 : List TV} {B1 : Int} {B2 : Int} {B3 : List TV} {A0 : List TV} {A1 : Int} {A2 : Int} {A3 : List TV} {K : (List TV) → Int → Int → (List TV) → Nd} (h : tw cx 15 [.st [sl true ⟨6, false⟩ B0, i64 B1, i64 B2, sl true ⟨1, false⟩ B3]] = some ([.st [sl false ⟨6, false⟩ A0, i64 A1, i64 A2, sl false ⟨1, false⟩ A3]], [])) : S cx f (C15 B0 B1 B2 B3 K) = S cx f (K A0 A1 A2 A3) := call_S h rfl
noncomputable def C16 (B0 : List TV) (K : Bool → Nd) : Nd := .call 16 [sl true ⟨4, true⟩ B0] fun R => .cons R.1 fun X0 X1 => .bool X0 fun A0 => .nil X1 <| .nil R.2 <| K A0
theorem C16_S {f : FuncId} {B0 : List TV} {A0 : Bool} {K : Bool → Nd} (h : tw cx 16 [sl true ⟨4, true⟩ B0] = some ([tb A0], [])) : S cx f (C16 B0 K) = S cx f (K A0) := call_S h rfl
noncomputable def C17 (B0 : List TV) (K : Bool → Nd) : Nd := .call 17 [sl true ⟨4, true⟩ B0] fun R => .cons R.1 fun X0 X1 => .bool X0 fun A0 => .nil X1 <| .nil R.2 <| K A0
theorem C17_S {f : FuncId} {B0 : List TV} {A0 : Bool} {K : Bool → Nd} (h : tw cx 17 [sl true ⟨4, true⟩ B0] = some ([tb A0], [])) : S cx f (C17 B0 K) = S cx f (K A0) := call_S h rfl
noncomputable def C18 (B0 : List TV) (B1 : Int) (B2 : Int) (B3 : List TV) (B4 : List TV) (B5 : Int) (B6 : Int) (B7 : List TV) (K : Bool → Nd) : Nd := .call 18 [.st [sl true ⟨6, false⟩ B0, i64 B1, i64 B2, sl true ⟨1, false⟩ B3], .st [sl true ⟨6, false⟩ B4, i64 B5, i64 B6, sl true ⟨1, false⟩ B7]] fun R => .cons R.1 fun X0 X1 => .bool X0 fun A0 => .nil X1 <| .nil R.2 <| K A0
theorem C18_S {f : FuncId} {B0 : List TV} {B1 : Int} {B2 : Int} {B3 : List TV} {B4 : List TV} {B5 : Int} {B6 : Int} {B7 : List TV} {A0 : Bool} {K : Bool → Nd} (h : tw cx 18 [.st [sl true ⟨6, false⟩ B0, i64 B1, i64 B2, sl true ⟨1, false⟩ B3], .st [sl true ⟨6, false⟩ B4, i64 B5, i64 B6, sl true ⟨1, false⟩ B7]] = some ([tb A0], [])) : S cx f (C18 B0 B1 B2 B3 B4 B5 B6 B7 K) = S cx f (K A0) := call_S h rfl
noncomputable def C21 (B0 : List TV) (K : (List TV) → Nd) : Nd := .call 21 [sl true ⟨4, true⟩ B0] fun R => .cons R.1 fun X0 X1 => .st X0 fun X2 => .cons X2 fun X3 X4 => .slO ⟨1, true⟩ X3 fun A0 => .nil X4 <| .nil X1 <| .nil R.2 <| K A0
theorem C21_S {f : FuncId} {B0 : List TV} {A0 : List TV} {K : (List TV) → Nd} (h : tw cx 21 [sl true ⟨4, true⟩ B0] = some ([.st [sl false ⟨1, true⟩ A0]], [])) : S cx f (C21 B0 K) = S cx f (K A0) := call_S h rfl
noncomputable def C20 (B0 : List TV) (K : (List TV) → Nd) : Nd := .call 20 [.st [sl true ⟨1, true⟩ B0]] fun R => .cons R.1 fun X0 X1 => .slO ⟨1, true⟩ X0 fun A0 => .nil X1 <| .nil R.2 <| K A0
theorem C20_S {f : FuncId} {B0 : List TV} {A0 : List TV} {K : (List TV) → Nd} (h : tw cx 20 [.st [sl true ⟨1, true⟩ B0]] = some ([sl false ⟨1, true⟩ A0], [])) : S cx f (C20 B0 K) = S cx f (K A0) := call_S h rfl
noncomputable def C19 (B0 : List TV) (B1 : List TV) (B2 : Int) (K : Bool → Nd) : Nd := .call 19 [sl true ⟨4, true⟩ B0, sl true ⟨1, true⟩ B1, i64 B2] fun R => .cons R.1 fun X0 X1 => .bool X0 fun A0 => .nil X1 <| .nil R.2 <| K A0
theorem C19_S {f : FuncId} {B0 : List TV} {B1 : List TV} {B2 : Int} {A0 : Bool} {K : Bool → Nd} (h : tw cx 19 [sl true ⟨4, true⟩ B0, sl true ⟨1, true⟩ B1, i64 B2] = some ([tb A0], [])) : S cx f (C19 B0 B1 B2 K) = S cx f (K A0) := call_S h rfl
noncomputable def V5 (t : TV) (K : (List TV) → (List TV) → (List TV) → (List TV) → (List TV) → Nd) : Nd := .st t fun L => .cons L fun TV0 L0 => .slS ⟨4, true⟩ TV0 fun A0 => .cons L0 fun TV1 L1 => .slO ⟨1, true⟩ TV1 fun A1 => .cons L1 fun TV2 L2 => .slO ⟨1, false⟩ TV2 fun A2 => .cons L2 fun TV3 L3 => .slO ⟨1, true⟩ TV3 fun A3 => .cons L3 fun TV4 L4 => .slO ⟨3, true⟩ TV4 fun A4 => .nil L4 <| K A0 A1 A2 A3 A4
noncomputable def C23 (B0 : Int) (B1 : Int) (B2 : Int) (K : Bool → Nd) : Nd := .call 23 [i64 B0, i64 B1, i64 B2] fun R => .cons R.1 fun X0 X1 => .bool X0 fun A0 => .nil X1 <| .nil R.2 <| K A0
theorem C23_S {f : FuncId} {B0 : Int} {B1 : Int} {B2 : Int} {A0 : Bool} {K : Bool → Nd} (h : tw cx 23 [i64 B0, i64 B1, i64 B2] = some ([tb A0], [])) : S cx f (C23 B0 B1 B2 K) = S cx f (K A0) := call_S h rfl
noncomputable def C24 (B0 : List TV) (B1 : List TV) (B2 : List TV) (B3 : List TV) (B4 : List TV) (B5 : Int) (K : Bool → Nd) : Nd := .call 24 [.pt true () (.st [sl true ⟨4, true⟩ B0, sl false ⟨1, true⟩ B1, sl false ⟨1, false⟩ B2, sl false ⟨1, true⟩ B3, sl false ⟨3, true⟩ B4]), i64 B5] fun R => .cons R.1 fun X0 X1 => .bool X0 fun A0 => .nil X1 <| .nil R.2 <| K A0
theorem C24_S {f : FuncId} {B0 : List TV} {B1 : List TV} {B2 : List TV} {B3 : List TV} {B4 : List TV} {B5 : Int} {A0 : Bool} {K : Bool → Nd} (h : tw cx 24 [.pt true () (.st [sl true ⟨4, true⟩ B0, sl false ⟨1, true⟩ B1, sl false ⟨1, false⟩ B2, sl false ⟨1, true⟩ B3, sl false ⟨3, true⟩ B4]), i64 B5] = some ([tb A0], [])) : S cx f (C24 B0 B1 B2 B3 B4 B5 K) = S cx f (K A0) := call_S h rfl
noncomputable def C25 (B0 : List TV) (B1 : Int) (K : Int → Nd) : Nd := .call 25 [sl true ⟨6, false⟩ B0, i64 B1] fun R => .cons R.1 fun X0 X1 => .int .i64 X0 fun A0 => .nil X1 <| .nil R.2 <| K A0
theorem C25_S {f : FuncId} {B0 : List TV} {B1 : Int} {A0 : Int} {K : Int → Nd} (h : tw cx 25 [sl true ⟨6, false⟩ B0, i64 B1] = some ([i64 A0], [])) : S cx f (C25 B0 B1 K) = S cx f (K A0) := call_S h rfl
noncomputable def C26 (B0 : List TV) (B1 : Int) (K : Int → Nd) : Nd := .call 26 [sl true ⟨1, false⟩ B0, i64 B1] fun R => .cons R.1 fun X0 X1 => .int .i64 X0 fun A0 => .nil X1 <| .nil R.2 <| K A0
theorem C26_S {f : FuncId} {B0 : List TV} {B1 : Int} {A0 : Int} {K : Int → Nd} (h : tw cx 26 [sl true ⟨1, false⟩ B0, i64 B1] = some ([i64 A0], [])) : S cx f (C26 B0 B1 K) = S cx f (K A0) := call_S h rfl
noncomputable def C27 (B0 : List TV) (B1 : Int) (B2 : Int) (B3 : List TV) (B4 : Int) (K : Bool → Nd) : Nd := .call 27 [.st [sl true ⟨6, false⟩ B0, i64 B1, i64 B2, sl true ⟨1, false⟩ B3], i64 B4] fun R => .cons R.1 fun X0 X1 => .bool X0 fun A0 => .nil X1 <| .nil R.2 <| K A0
theorem C27_S {f : FuncId} {B0 : List TV} {B1 : Int} {B2 : Int} {B3 : List TV} {B4 : Int} {A0 : Bool} {K : Bool → Nd} (h : tw cx 27 [.st [sl true ⟨6, false⟩ B0, i64 B1, i64 B2, sl true ⟨1, false⟩ B3], i64 B4] = some ([tb A0], [])) : S cx f (C27 B0 B1 B2 B3 B4 K) = S cx f (K A0) := call_S h rfl
noncomputable def C28 (B0 : Int) (B1 : Int) (B2 : Int) (K : Bool → Nd) : Nd := .call 28 [i64 B0, i64 B1, i64 B2] fun R => .cons R.1 fun X0 X1 => .bool X0 fun A0 => .nil X1 <| .nil R.2 <| K A0
theorem C28_S {f : FuncId} {B0 : Int} {B1 : Int} {B2 : Int} {A0 : Bool} {K : Bool → Nd} (h : tw cx 28 [i64 B0, i64 B1, i64 B2] = some ([tb A0], [])) : S cx f (C28 B0 B1 B2 K) = S cx f (K A0) := call_S h rfl
noncomputable def C29 (B0 : List TV) (K : (List TV) → Nd) : Nd := .call 29 [sl true ⟨4, true⟩ B0] fun R => .cons R.1 fun X0 X1 => .slO ⟨1, false⟩ X0 fun A0 => .nil X1 <| .nil R.2 <| K A0
theorem C29_S {f : FuncId} {B0 : List TV} {A0 : List TV} {K : (List TV) → Nd} (h : tw cx 29 [sl true ⟨4, true⟩ B0] = some ([sl false ⟨1, false⟩ A0], [])) : S cx f (C29 B0 K) = S cx f (K A0) := call_S h rfl
noncomputable def C31 (B0 : List TV) (B1 : List TV) (K : Bool → Nd) : Nd := .call 31 [.st [sl true ⟨1, true⟩ B0], sl true ⟨1, true⟩ B1] fun R => .cons R.1 fun X0 X1 => .bool X0 fun A0 => .nil X1 <| .nil R.2 <| K A0
theorem C31_S {f : FuncId} {B0 : List TV} {B1 : List TV} {A0 : Bool} {K : Bool → Nd} (h : tw cx 31 [.st [sl true ⟨1, true⟩ B0], sl true ⟨1, true⟩ B1] = some ([tb A0], [])) : S cx f (C31 B0 B1 K) = S cx f (K A0) := call_S h rfl
noncomputable def C30 (B0 : List TV) (K : Bool → Nd) : Nd := .call 30 [sl true ⟨6, false⟩ B0] fun R => .cons R.1 fun X0 X1 => .bool X0 fun A0 => .nil X1 <| .nil R.2 <| K A0
theorem C30_S {f : FuncId} {B0 : List TV} {A0 : Bool} {K : Bool → Nd} (h : tw cx 30 [sl true ⟨6, false⟩ B0] = some ([tb A0], [])) : S cx f (C30 B0 K) = S cx f (K A0) := call_S h rfl
noncomputable def C32 (B0 : List TV) (K : (List TV) → Nd) : Nd := .call 32 [sl true ⟨6, false⟩ B0] fun R => .cons R.1 fun X0 X1 => .slO ⟨6, false⟩ X0 fun A0 => .nil X1 <| .nil R.2 <| K A0
theorem C32_S {f : FuncId} {B0 : List TV} {A0 : List TV} {K : (List TV) → Nd} (h : tw cx 32 [sl true ⟨6, false⟩ B0] = some ([sl false ⟨6, false⟩ A0], [])) : S cx f (C32 B0 K) = S cx f (K A0) := call_S h rfl
noncomputable def C33 (B0 : List TV) (K : (List TV) → Nd) : Nd := .call 33 [sl true ⟨1, false⟩ B0] fun R => .cons R.1 fun X0 X1 => .slO ⟨1, false⟩ X0 fun A0 => .nil X1 <| .nil R.2 <| K A0
theorem C33_S {f : FuncId} {B0 : List TV} {A0 : List TV} {K : (List TV) → Nd} (h : tw cx 33 [sl true ⟨1, false⟩ B0] = some ([sl false ⟨1, false⟩ A0], [])) : S cx f (C33 B0 K) = S cx f (K A0) := call_S h rfl
noncomputable def C34 (B0 : List TV) (B1 : List TV) (K : Bool → Nd) : Nd := .call 34 [sl true ⟨4, true⟩ B0, .cl 35 [.pt true () (sl true ⟨4, true⟩ B1)]] fun R => .cons R.1 fun X0 X1 => .bool X0 fun A0 => .nil X1 <| .nil R.2 <| K A0
theorem C34_S {f : FuncId} {B0 : List TV} {B1 : List TV} {A0 : Bool} {K : Bool → Nd} (h : tw cx 34 [sl true ⟨4, true⟩ B0, .cl 35 [.pt true () (sl true ⟨4, true⟩ B1)]] = some ([tb A0], [])) : S cx f (C34 B0 B1 K) = S cx f (K A0) := call_S h rfl
noncomputable def C40 (B0 : List TV) (K : (List TV) → Nd) : Nd := .call 40 [sl true ⟨4, true⟩ B0] fun R => .cons R.1 fun X0 X1 => .slO ⟨1, true⟩ X0 fun A0 => .nil X1 <| .nil R.2 <| K A0
theorem C40_S {f : FuncId} {B0 : List TV} {A0 : List TV} {K : (List TV) → Nd} (h : tw cx 40 [sl true ⟨4, true⟩ B0] = some ([sl false ⟨1, true⟩ A0], [])) : S cx f (C40 B0 K) = S cx f (K A0) := call_S h rfl
noncomputable def C39 (B0 : List TV) (B1 : Int) (B2 : List TV) (K : (List TV) → Nd) : Nd := .call 39 [sl true ⟨1, true⟩ B0, i64 B1, sl true ⟨1, false⟩ B2] fun R => .cons R.1 fun X0 X1 => .slO ⟨1, false⟩ X0 fun A0 => .nil X1 <| .nil R.2 <| K A0
theorem C39_S {f : FuncId} {B0 : List TV} {B1 : Int} {B2 : List TV} {A0 : List TV} {K : (List TV) → Nd} (h : tw cx 39 [sl true ⟨1, true⟩ B0, i64 B1, sl true ⟨1, false⟩ B2] = some ([sl false ⟨1, false⟩ A0], [])) : S cx f (C39 B0 B1 B2 K) = S cx f (K A0) := call_S h rfl
noncomputable def C38 (B0 : List TV) (B1 : Bool) (K : Bool → Nd) : Nd := .call 38 [sl true ⟨1, false⟩ B0, tb B1] fun R => .cons R.1 fun X0 X1 => .bool X0 fun A0 => .nil X1 <| .nil R.2 <| K A0
theorem C38_S {f : FuncId} {B0 : List TV} {B1 : Bool} {A0 : Bool} {K : Bool → Nd} (h : tw cx 38 [sl true ⟨1, false⟩ B0, tb B1] = some ([tb A0], [])) : S cx f (C38 B0 B1 K) = S cx f (K A0) := call_S h rfl
noncomputable def C41 (B0 : List TV) (K : Bool → Nd) : Nd := .call 41 [sl true ⟨6, false⟩ B0] fun R => .cons R.1 fun X0 X1 => .bool X0 fun A0 => .nil X1 <| .nil R.2 <| K A0
theorem C41_S {f : FuncId} {B0 : List TV} {A0 : Bool} {K : Bool → Nd} (h : tw cx 41 [sl true ⟨6, false⟩ B0] = some ([tb A0], [])) : S cx f (C41 B0 K) = S cx f (K A0) := call_S h rfl
noncomputable def C42 (B0 : List TV) (K : (List TV) → Nd) : Nd := .call 42 [sl true ⟨1, true⟩ B0] fun R => .cons R.1 fun X0 X1 => .st X0 fun X2 => .cons X2 fun X3 X4 => .slO ⟨1, true⟩ X3 fun A0 => .nil X4 <| .nil X1 <| .nil R.2 <| K A0
theorem C42_S {f : FuncId} {B0 : List TV} {A0 : List TV} {K : (List TV) → Nd} (h : tw cx 42 [sl true ⟨1, true⟩ B0] = some ([.st [sl false ⟨1, true⟩ A0]], [])) : S cx f (C42 B0 K) = S cx f (K A0) := call_S h rfl
noncomputable def C43 (B0 : List TV) (K : Bool → Nd) : Nd := .call 43 [.pt true () (.st [sl false ⟨1, true⟩ B0])] fun R => .cons R.1 fun X0 X1 => .bool X0 fun A0 => .nil X1 <| .nil R.2 <| K A0
theorem C43_S {f : FuncId} {B0 : List TV} {A0 : Bool} {K : Bool → Nd} (h : tw cx 43 [.pt true () (.st [sl false ⟨1, true⟩ B0])] = some ([tb A0], [])) : S cx f (C43 B0 K) = S cx f (K A0) := call_S h rfl
noncomputable def C44 (B0 : List TV) (B1 : List TV) (K : Bool → Nd) : Nd := .call 44 [sl true ⟨6, false⟩ B0, sl true ⟨6, false⟩ B1] fun R => .cons R.1 fun X0 X1 => .bool X0 fun A0 => .nil X1 <| .nil R.2 <| K A0
theorem C44_S {f : FuncId} {B0 : List TV} {B1 : List TV} {A0 : Bool} {K : Bool → Nd} (h : tw cx 44 [sl true ⟨6, false⟩ B0, sl true ⟨6, false⟩ B1] = some ([tb A0], [])) : S cx f (C44 B0 B1 K) = S cx f (K A0) := call_S h rfl
noncomputable def C45 (B0 : List TV) (B1 : List TV) (K : Bool → Nd) : Nd := .call 45 [sl true ⟨1, false⟩ B0, sl true ⟨1, false⟩ B1] fun R => .cons R.1 fun X0 X1 => .bool X0 fun A0 => .nil X1 <| .nil R.2 <| K A0
theorem C45_S {f : FuncId} {B0 : List TV} {B1 : List TV} {A0 : Bool} {K : Bool → Nd} (h : tw cx 45 [sl true ⟨1, false⟩ B0, sl true ⟨1, false⟩ B1] = some ([tb A0], [])) : S cx f (C45 B0 B1 K) = S cx f (K A0) := call_S h rfl
noncomputable def C46 (B0 : List TV) (B1 : Int) (K : Bool → Nd) : Nd := .call 46 [sl true ⟨1, false⟩ B0, i64 B1] fun R => .cons R.1 fun X0 X1 => .bool X0 fun A0 => .nil X1 <| .nil R.2 <| K A0
theorem C46_S {f : FuncId} {B0 : List TV} {B1 : Int} {A0 : Bool} {K : Bool → Nd} (h : tw cx 46 [sl true ⟨1, false⟩ B0, i64 B1] = some ([tb A0], [])) : S cx f (C46 B0 B1 K) = S cx f (K A0) := call_S h rfl
noncomputable def C47 (B0 : List TV) (B1 : Int) (K : (List TV) → Nd) : Nd := .call 47 [.st [sl true ⟨1, true⟩ B0], i64 B1] fun R => .cons R.1 fun X0 X1 => .slO ⟨1, false⟩ X0 fun A0 => .nil X1 <| .nil R.2 <| K A0
theorem C47_S {f : FuncId} {B0 : List TV} {B1 : Int} {A0 : List TV} {K : (List TV) → Nd} (h : tw cx 47 [.st [sl true ⟨1, true⟩ B0], i64 B1] = some ([sl false ⟨1, false⟩ A0], [])) : S cx f (C47 B0 B1 K) = S cx f (K A0) := call_S h rfl
noncomputable def C48 (B0 : List TV) (B1 : Int) (K : (List TV) → Nd) : Nd := .call 48 [sl false ⟨1, false⟩ B0, i64 B1] fun R => .cons R.1 fun X0 X1 => .slO ⟨1, false⟩ X0 fun A0 => .nil X1 <| .nil R.2 <| K A0
theorem C48_S {f : FuncId} {B0 : List TV} {B1 : Int} {A0 : List TV} {K : (List TV) → Nd} (h : tw cx 48 [sl false ⟨1, false⟩ B0, i64 B1] = some ([sl false ⟨1, false⟩ A0], [])) : S cx f (C48 B0 B1 K) = S cx f (K A0) := call_S h rfl
noncomputable def C50 (B0 : List TV) (K : (List TV) → Nd) : Nd := .call 50 [sl true ⟨1, true⟩ B0] fun R => .cons R.1 fun X0 X1 => .slO ⟨1, true⟩ X0 fun A0 => .nil X1 <| .nil R.2 <| K A0
theorem C50_S {f : FuncId} {B0 : List TV} {A0 : List TV} {K : (List TV) → Nd} (h : tw cx 50 [sl true ⟨1, true⟩ B0] = some ([sl false ⟨1, true⟩ A0], [])) : S cx f (C50 B0 K) = S cx f (K A0) := call_S h rfl
noncomputable def C49 (B0 : List TV) (K : (List TV) → Nd) : Nd := .call 49 [.pt true () (.st [sl false ⟨1, true⟩ B0])] fun R => .cons R.1 fun X0 X1 => .slO ⟨1, false⟩ X0 fun A0 => .nil X1 <| .nil R.2 <| K A0
theorem C49_S {f : FuncId} {B0 : List TV} {A0 : List TV} {K : (List TV) → Nd} (h : tw cx 49 [.pt true () (.st [sl false ⟨1, true⟩ B0])] = some ([sl false ⟨1, false⟩ A0], [])) : S cx f (C49 B0 K) = S cx f (K A0) := call_S h rfl
noncomputable def C51 (B0 : List TV) (K : (List TV) → Nd) : Nd := .call 51 [sl true ⟨1, false⟩ B0] fun R => .cons R.1 fun X0 X1 => .slO ⟨1, false⟩ X0 fun A0 => .nil X1 <| .nil R.2 <| K A0
theorem C51_S {f : FuncId} {B0 : List TV} {A0 : List TV} {K : (List TV) → Nd} (h : tw cx 51 [sl true ⟨1, false⟩ B0] = some ([sl false ⟨1, false⟩ A0], [])) : S cx f (C51 B0 K) = S cx f (K A0) := call_S h rfl
noncomputable def C53 (B0 : List TV) (B1 : List TV) (B2 : List TV) (B3 : List TV) (B4 : List TV) (B5 : Int) (B6 : Int) (K : Bool → Nd) : Nd := .call 53 [.pt true () (.st [sl true ⟨4, true⟩ B0, sl false ⟨1, true⟩ B1, sl false ⟨1, false⟩ B2, sl false ⟨1, true⟩ B3, sl false ⟨3, true⟩ B4]), i64 B5, i64 B6] fun R => .cons R.1 fun X0 X1 => .bool X0 fun A0 => .nil X1 <| .nil R.2 <| K A0
theorem C53_S {f : FuncId} {B0 : List TV} {B1 : List TV} {B2 : List TV} {B3 : List TV} {B4 : List TV} {B5 : Int} {B6 : Int} {A0 : Bool} {K : Bool → Nd} (h : tw cx 53 [.pt true () (.st [sl true ⟨4, true⟩ B0, sl false ⟨1, true⟩ B1, sl false ⟨1, false⟩ B2, sl false ⟨1, true⟩ B3, sl false ⟨3, true⟩ B4]), i64 B5, i64 B6] = some ([tb A0], [])) : S cx f (C53 B0 B1 B2 B3 B4 B5 B6 K) = S cx f (K A0) := call_S h rfl
noncomputable def C52 (B0 : Bool) (K : Int → Nd) : Nd := .call 52 [tb B0] fun R => .cons R.1 fun X0 X1 => .int .i64 X0 fun A0 => .nil X1 <| .nil R.2 <| K A0
theorem C52_S {f : FuncId} {B0 : Bool} {A0 : Int} {K : Int → Nd} (h : tw cx 52 [tb B0] = some ([i64 A0], [])) : S cx f (C52 B0 K) = S cx f (K A0) := call_S h rfl
noncomputable def V6 (t : TV) (K : Int → Int → Int → Int → Int → Int → Nd) : Nd := .st t fun L => .cons L fun TV0 L0 => .int .i64 TV0 fun A0 => .cons L0 fun TV1 L1 => .int .i64 TV1 fun A1 => .cons L1 fun TV2 L2 => .int .i64 TV2 fun A2 => .cons L2 fun TV3 L3 => .int .i64 TV3 fun A3 => .cons L3 fun TV4 L4 => .int .i64 TV4 fun A4 => .cons L4 fun TV5 L5 => .int .i64 TV5 fun A5 => .nil L5 <| K A0 A1 A2 A3 A4 A5
theorem V6_S {f : FuncId} {A0 : Int} {A1 : Int} {A2 : Int} {A3 : Int} {A4 : Int} {A5 : Int} {K : Int → Int → Int → Int → Int → Int → Nd} : S cx f (V6 (.st [i64 A0, i64 A1, i64 A2, i64 A3, i64 A4, i64 A5]) K) = S cx f (K A0 A1 A2 A3 A4 A5) := rfl
noncomputable def C54 (B0 : Int) (B1 : Int) (B2 : Int) (B3 : Int) (B4 : Int) (B5 : Int) (K : Bool → Nd) : Nd := .call 54 [.st [i64 B0, i64 B1, i64 B2, i64 B3, i64 B4, i64 B5]] fun R => .cons R.1 fun X0 X1 => .bool X0 fun A0 => .nil X1 <| .nil R.2 <| K A0
theorem C54_S {f : FuncId} {B0 : Int} {B1 : Int} {B2 : Int} {B3 : Int} {B4 : Int} {B5 : Int} {A0 : Bool} {K : Bool → Nd} (h : tw cx 54 [.st [i64 B0, i64 B1, i64 B2, i64 B3, i64 B4, i64 B5]] = some ([tb A0], [])) : S cx f (C54 B0 B1 B2 B3 B4 B5 K) = S cx f (K A0) := call_S h rfl
noncomputable def C55 (B0 : Int) (K : Bool → Nd) : Nd := .call 55 [i64 B0] fun R => .cons R.1 fun X0 X1 => .bool X0 fun A0 => .nil X1 <| .nil R.2 <| K A0
theorem C55_S {f : FuncId} {B0 : Int} {A0 : Bool} {K : Bool → Nd} (h : tw cx 55 [i64 B0] = some ([tb A0], [])) : S cx f (C55 B0 K) = S cx f (K A0) := call_S h rfl
noncomputable def C56 (B0 : Int) (B1 : Int) (B2 : Int) (B3 : Int) (B4 : Int) (B5 : Int) (K : Int → Int → Int → Int → Int → Int → Nd) : Nd := .call 56 [.st [i64 B0, i64 B1, i64 B2, i64 B3, i64 B4, i64 B5]] fun R => .cons R.1 fun X0 X1 => .st X0 fun X2 => .cons X2 fun X3 X4 => .int .i64 X3 fun A0 => .cons X4 fun X5 X6 => .int .i64 X5 fun A1 => .cons X6 fun X7 X8 => .int .i64 X7 fun A2 => .cons X8 fun X9 X10 => .int .i64 X9 fun A3 => .cons X10 fun X11 X12 => .int .i64 X11 fun A4 => .cons X12 fun X13 X14 => .int .i64 X13 fun A5 => .nil X14 <| .nil X1 <| .nil R.2 <| K A0 A1 A2 A3 A4 A5
theorem C56_S {f : FuncId} {B0 : Int} {B1 : Int} {B2 : Int} {B3 : Int} {B4 : Int} {B5 : Int} {A0 : Int} {A1 : Int} {A2 : Int} {A3 : Int} {A4 : Int} {A5 : Int} {K : Int → Int → Int → Int → Int → Int → Nd} (h : tw cx 56 [.st [i64 B0, i64 B1, i64 B2, i64 B3, i64 B4, i64 B5]] = some ([.st [i64 A0, i64 A1, i64 A2, i64 A3, i64 A4, i64 A5]], [])) : S cx f (C56 B0 B1 B2 B3 B4 B5 K) = S cx f (K A0 A1 A2 A3 A4 A5) := call_S h rfl
noncomputable def C57 (B0 : List TV) (B1 : List TV) (K : Int → Nd) : Nd := .call 57 [sl true ⟨4, true⟩ B0, .cl 35 [.pt true () (sl true ⟨4, true⟩ B1)]] fun R => .cons R.1 fun X0 X1 => .int .i64 X0 fun A0 => .nil X1 <| .nil R.2 <| K A0
theorem C57_S {f : FuncId} {B0 : List TV} {B1 : List TV} {A0 : Int} {K : Int → Nd} (h : tw cx 57 [sl true ⟨4, true⟩ B0, .cl 35 [.pt true () (sl true ⟨4, true⟩ B1)]] = some ([i64 A0], [])) : S cx f (C57 B0 B1 K) = S cx f (K A0) := call_S h rfl
noncomputable def C36 (B0 : List TV) (B1 : Int) (K : Bool → Nd) : Nd := .call 36 [sl true ⟨6, false⟩ B0, i64 B1] fun R => .cons R.1 fun X0 X1 => .bool X0 fun A0 => .nil X1 <| .nil R.2 <| K A0
theorem C36_S {f : FuncId} {B0 : List TV} {B1 : Int} {A0 : Bool} {K : Bool → Nd} (h : tw cx 36 [sl true ⟨6, false⟩ B0, i64 B1] = some ([tb A0], [])) : S cx f (C36 B0 B1 K) = S cx f (K A0) := call_S h rfl
noncomputable def C37 (B0 : Int) (B1 : Int) (B2 : List TV) (B3 : Int) (B4 : Int) (K : Bool → Nd) : Nd := .call 37 [i64 B0, i64 B1, sl true ⟨1, false⟩ B2, i64 B3, i64 B4] fun R => .cons R.1 fun X0 X1 => .bool X0 fun A0 => .nil X1 <| .nil R.2 <| K A0
theorem C37_S {f : FuncId} {B0 : Int} {B1 : Int} {B2 : List TV} {B3 : Int} {B4 : Int} {A0 : Bool} {K : Bool → Nd} (h : tw cx 37 [i64 B0, i64 B1, sl true ⟨1, false⟩ B2, i64 B3, i64 B4] = some ([tb A0], [])) : S cx f (C37 B0 B1 B2 B3 B4 K) = S cx f (K A0) := call_S h rfl
noncomputable def C58 (B0 : List TV) (B1 : Int) (K : Bool → Nd) : Nd := .call 58 [sl true ⟨6, false⟩ B0, .cl 59 [.pt true () (i64 B1)]] fun R => .cons R.1 fun X0 X1 => .bool X0 fun A0 => .nil X1 <| .nil R.2 <| K A0
theorem C58_S {f : FuncId} {B0 : List TV} {B1 : Int} {A0 : Bool} {K : Bool → Nd} (h : tw cx 58 [sl true ⟨6, false⟩ B0, .cl 59 [.pt true () (i64 B1)]] = some ([tb A0], [])) : S cx f (C58 B0 B1 K) = S cx f (K A0) := call_S h rfl
noncomputable def C62 (B0 : List TV) (B1 : Int) (K : Bool → Nd) : Nd := .call 62 [sl true ⟨1, false⟩ B0, .cl 63 [.pt true () (i64 B1)]] fun R => .cons R.1 fun X0 X1 => .bool X0 fun A0 => .nil X1 <| .nil R.2 <| K A0
theorem C62_S {f : FuncId} {B0 : List TV} {B1 : Int} {A0 : Bool} {K : Bool → Nd} (h : tw cx 62 [sl true ⟨1, false⟩ B0, .cl 63 [.pt true () (i64 B1)]] = some ([tb A0], [])) : S cx f (C62 B0 B1 K) = S cx f (K A0) := call_S h rfl
noncomputable def C61 (B0 : Int) (K : Bool → Nd) : Nd := .call 61 [i64 B0] fun R => .cons R.1 fun X0 X1 => .bool X0 fun A0 => .nil X1 <| .nil R.2 <| K A0
theorem C61_S {f : FuncId} {B0 : Int} {A0 : Bool} {K : Bool → Nd} (h : tw cx 61 [i64 B0] = some ([tb A0], [])) : S cx f (C61 B0 K) = S cx f (K A0) := call_S h rfl
noncomputable def C64 (B0 : List TV) (B1 : Bool) (K : Int → Nd) : Nd := .call 64 [sl true ⟨1, false⟩ B0, tb B1] fun R => .cons R.1 fun X0 X1 => .int .i64 X0 fun A0 => .nil X1 <| .nil R.2 <| K A0
theorem C64_S {f : FuncId} {B0 : List TV} {B1 : Bool} {A0 : Int} {K : Int → Nd} (h : tw cx 64 [sl true ⟨1, false⟩ B0, tb B1] = some ([i64 A0], [])) : S cx f (C64 B0 B1 K) = S cx f (K A0) := call_S h rfl
noncomputable def C65 (B0 : List TV) (B1 : Int) (K : Bool → Nd) : Nd := .call 65 [sl true ⟨1, false⟩ B0, i64 B1] fun R => .cons R.1 fun X0 X1 => .bool X0 fun A0 => .nil X1 <| .nil R.2 <| K A0
theorem C65_S {f : FuncId} {B0 : List TV} {B1 : Int} {A0 : Bool} {K : Bool → Nd} (h : tw cx 65 [sl true ⟨1, false⟩ B0, i64 B1] = some ([tb A0], [])) : S cx f (C65 B0 B1 K) = S cx f (K A0) := call_S h rfl
noncomputable def C68 (B0 : List TV) (K : (List TV) → Nd) : Nd := .call 68 [sl false ⟨1, false⟩ B0] fun R => .cons R.1 fun X0 X1 => .slR ⟨1, false⟩ X0 fun A0 => .nil X1 <| .nil R.2 <| K A0
theorem C68_S {f : FuncId} {B0 : List TV} {A0 : List TV} {q0 : Bool} {K : (List TV) → Nd} (h : tw cx 68 [sl false ⟨1, false⟩ B0] = some ([sl q0 ⟨1, false⟩ A0], [])) : S cx f (C68 B0 K) = S cx f (K A0) := call_S h rfl
noncomputable def C66 (B0 : List TV) (K : (List TV) → Nd) : Nd := .call 66 [sl true ⟨1, false⟩ B0] fun R => .cons R.1 fun X0 X1 => .slO ⟨1, false⟩ X0 fun A0 => .nil X1 <| .nil R.2 <| K A0
theorem C66_S {f : FuncId} {B0 : List TV} {A0 : List TV} {K : (List TV) → Nd} (h : tw cx 66 [sl true ⟨1, false⟩ B0] = some ([sl false ⟨1, false⟩ A0], [])) : S cx f (C66 B0 K) = S cx f (K A0) := call_S h rfl
noncomputable def C67 (B0 : List TV) (K : (List TV) → Nd) : Nd := .call 67 [sl false ⟨1, false⟩ B0] fun R => .nil R.1 <| .cons R.2 fun X0 X1 => .slO ⟨1, false⟩ X0 fun A0 => .nil X1 <| K A0
theorem C67_S {f : FuncId} {B0 : List TV} {A0 : List TV} {K : (List TV) → Nd} (h : tw cx 67 [sl false ⟨1, false⟩ B0] = some ([], [sl false ⟨1, false⟩ A0])) : S cx f (C67 B0 K) = S cx f (K A0) := call_S h rfl
noncomputable def C69 (B0 : Int) (B1 : Int) (B2 : Int) (B3 : Int) (B4 : Int) (B5 : Int) (B6 : Int) (B7 : Int) (B8 : Int) (B9 : Int) (B10 : Int) (B11 : Int) (K : Bool → Nd) : Nd := .call 69 [.st [i64 B0, i64 B1, i64 B2, i64 B3, i64 B4, i64 B5], .st [i64 B6, i64 B7, i64 B8, i64 B9, i64 B10, i64 B11]] fun R => .cons R.1 fun X0 X1 => .bool X0 fun A0 => .nil X1 <| .nil R.2 <| K A0
theorem C69_S {f : FuncId} {B0 : Int} {B1 : Int} {B2 : Int} {B3 : Int} {B4 : Int} {B5 : Int} {B6 : Int} {B7 : Int} {B8 : Int} {B9 : Int} {B10 : Int} {B11 : Int} {A0 : Bool} {K : Bool → Nd} (h : tw cx 69 [.st [i64 B0, i64 B1, i64 B2, i64 B3, i64 B4, i64 B5], .st [i64 B6, i64 B7, i64 B8, i64 B9, i64 B10, i64 B11]] = some ([tb A0], [])) : S cx f (C69 B0 B1 B2 B3 B4 B5 B6 B7 B8 B9 B10 B11 K) = S cx f (K A0) := call_S h rfl
noncomputable def C35 (B0 : List TV) (B1 : Int) (B2 : Int) (B3 : List TV) (B4 : List TV) (K : Bool → Nd) : Nd := .call 35 [.st [sl true ⟨6, false⟩ B0, i64 B1, i64 B2, sl true ⟨1, false⟩ B3], .pt true () (sl true ⟨4, true⟩ B4)] fun R => .cons R.1 fun X0 X1 => .bool X0 fun A0 => .nil X1 <| .nil R.2 <| K A0
theorem C35_S {f : FuncId} {B0 : List TV} {B1 : Int} {B2 : Int} {B3 : List TV} {B4 : List TV} {A0 : Bool} {K : Bool → Nd} (h : tw cx 35 [.st [sl true ⟨6, false⟩ B0, i64 B1, i64 B2, sl true ⟨1, false⟩ B3], .pt true () (sl true ⟨4, true⟩ B4)] = some ([tb A0], [])) : S cx f (C35 B0 B1 B2 B3 B4 K) = S cx f (K A0) := call_S h rfl
noncomputable def C72 (B0 : List TV) (B1 : Int) (K : Int → Nd) : Nd := .call 72 [sl true ⟨6, false⟩ B0, .cl 59 [.pt true () (i64 B1)]] fun R => .cons R.1 fun X0 X1 => .int .i64 X0 fun A0 => .nil X1 <| .nil R.2 <| K A0
theorem C72_S {f : FuncId} {B0 : List TV} {B1 : Int} {A0 : Int} {K : Int → Nd} (h : tw cx 72 [sl true ⟨6, false⟩ B0, .cl 59 [.pt true () (i64 B1)]] = some ([i64 A0], [])) : S cx f (C72 B0 B1 K) = S cx f (K A0) := call_S h rfl
noncomputable def C60 (B0 : Int) (B1 : Int) (B2 : Int) (B3 : Int) (B4 : Int) (B5 : Int) (B6 : Int) (K : Bool → Nd) : Nd := .call 60 [.st [i64 B0, i64 B1, i64 B2, i64 B3, i64 B4, i64 B5], i64 B6] fun R => .cons R.1 fun X0 X1 => .bool X0 fun A0 => .nil X1 <| .nil R.2 <| K A0
theorem C60_S {f : FuncId} {B0 : Int} {B1 : Int} {B2 : Int} {B3 : Int} {B4 : Int} {B5 : Int} {B6 : Int} {A0 : Bool} {K : Bool → Nd} (h : tw cx 60 [.st [i64 B0, i64 B1, i64 B2, i64 B3, i64 B4, i64 B5], i64 B6] = some ([tb A0], [])) : S cx f (C60 B0 B1 B2 B3 B4 B5 B6 K) = S cx f (K A0) := call_S h rfl
noncomputable def C76 (B0 : Int) (K : Bool → Nd) : Nd := .call 76 [i64 B0] fun R => .cons R.1 fun X0 X1 => .bool X0 fun A0 => .nil X1 <| .nil R.2 <| K A0
theorem C76_S {f : FuncId} {B0 : Int} {A0 : Bool} {K : Bool → Nd} (h : tw cx 76 [i64 B0] = some ([tb A0], [])) : S cx f (C76 B0 K) = S cx f (K A0) := call_S h rfl
noncomputable def C73 (B0 : Int) (K : Bool → Bool → Bool → Bool → Bool → Bool → Nd) : Nd := .call 73 [i64 B0] fun R => .cons R.1 fun X0 X1 => .st X0 fun X2 => .cons X2 fun X3 X4 => .bool X3 fun A0 => .cons X4 fun X5 X6 => .bool X5 fun A1 => .cons X6 fun X7 X8 => .bool X7 fun A2 => .cons X8 fun X9 X10 => .bool X9 fun A3 => .cons X10 fun X11 X12 => .bool X11 fun A4 => .nil X12 <| .cons X1 fun X13 X14 => .bool X13 fun A5 => .nil X14 <| .nil R.2 <| K A0 A1 A2 A3 A4 A5
theorem C73_S {f : FuncId} {B0 : Int} {A0 : Bool} {A1 : Bool} {A2 : Bool} {A3 : Bool} {A4 : Bool} {A5 : Bool} {K : Bool → Bool → Bool → Bool → Bool → Bool → Nd} (h : tw cx 73 [i64 B0] = some ([.st [tb A0, tb A1, tb A2, tb A3, tb A4], tb A5], [])) : S cx f (C73 B0 K) = S cx f (K A0 A1 A2 A3 A4 A5) := call_S h rfl
noncomputable def C74 (B0 : Bool) (B1 : Int) (B2 : Int) (K : Bool → Nd) : Nd := .call 74 [tb B0, i64 B1, .pt true () (i64 B2)] fun R => .cons R.1 fun X0 X1 => .bool X0 fun A0 => .nil X1 <| .nil R.2 <| K A0
theorem C74_S {f : FuncId} {B0 : Bool} {B1 : Int} {B2 : Int} {A0 : Bool} {K : Bool → Nd} (h : tw cx 74 [tb B0, i64 B1, .pt true () (i64 B2)] = some ([tb A0], [])) : S cx f (C74 B0 B1 B2 K) = S cx f (K A0) := call_S h rfl
noncomputable def C75 (B0 : Int) (K : Bool → Nd) : Nd := .call 75 [i64 B0] fun R => .cons R.1 fun X0 X1 => .bool X0 fun A0 => .nil X1 <| .nil R.2 <| K A0
theorem C75_S {f : FuncId} {B0 : Int} {A0 : Bool} {K : Bool → Nd} (h : tw cx 75 [i64 B0] = some ([tb A0], [])) : S cx f (C75 B0 K) = S cx f (K A0) := call_S h rfl
noncomputable def C77 (B0 : List TV) (B1 : Int) (K : Int → Nd) : Nd := .call 77 [sl true ⟨1, false⟩ B0, .cl 63 [.pt true () (i64 B1)]] fun R => .cons R.1 fun X0 X1 => .int .i64 X0 fun A0 => .nil X1 <| .nil R.2 <| K A0
theorem C77_S {f : FuncId} {B0 : List TV} {B1 : Int} {A0 : Int} {K : Int → Nd} (h : tw cx 77 [sl true ⟨1, false⟩ B0, .cl 63 [.pt true () (i64 B1)]] = some ([i64 A0], [])) : S cx f (C77 B0 B1 K) = S cx f (K A0) := call_S h rfl
noncomputable def C78 (B0 : List TV) (B1 : Int) (K : Int → Nd) : Nd := .call 78 [sl true ⟨1, false⟩ B0, i64 B1] fun R => .cons R.1 fun X0 X1 => .int .i64 X0 fun A0 => .nil X1 <| .nil R.2 <| K A0
theorem C78_S {f : FuncId} {B0 : List TV} {B1 : Int} {A0 : Int} {K : Int → Nd} (h : tw cx 78 [sl true ⟨1, false⟩ B0, i64 B1] = some ([i64 A0], [])) : S cx f (C78 B0 B1 K) = S cx f (K A0) := call_S h rfl
noncomputable def C80 (B0 : Int) (K : Int → Nd) : Nd := .call 80 [.fl (.int .u64 B0)] fun R => .cons R.1 fun X0 X1 => .int .i64 X0 fun A0 => .nil X1 <| .nil R.2 <| K A0
theorem C80_S {f : FuncId} {B0 : Int} {A0 : Int} {K : Int → Nd} (h : tw cx 80 [.fl (.int .u64 B0)] = some ([i64 A0], [])) : S cx f (C80 B0 K) = S cx f (K A0) := call_S h rfl
noncomputable def C79 (B0 : List TV) (B1 : Int) (B2 : Int) (B3 : Int) (K : (List TV) → Nd) : Nd := .call 79 [sl false ⟨1, false⟩ B0, i64 B1, i64 B2, i64 B3] fun R => .nil R.1 <| .cons R.2 fun X0 X1 => .slO ⟨1, false⟩ X0 fun A0 => .nil X1 <| K A0
theorem C79_S {f : FuncId} {B0 : List TV} {B1 : Int} {B2 : Int} {B3 : Int} {A0 : List TV} {K : (List TV) → Nd} (h : tw cx 79 [sl false ⟨1, false⟩ B0, i64 B1, i64 B2, i64 B3] = some ([], [sl false ⟨1, false⟩ A0])) : S cx f (C79 B0 B1 B2 B3 K) = S cx f (K A0) := call_S h rfl
noncomputable def C59 (B0 : Int) (B1 : Int) (B2 : Int) (B3 : Int) (B4 : Int) (B5 : Int) (B6 : Int) (K : Bool → Nd) : Nd := .call 59 [.st [i64 B0, i64 B1, i64 B2, i64 B3, i64 B4, i64 B5], .pt true () (i64 B6)] fun R => .cons R.1 fun X0 X1 => .bool X0 fun A0 => .nil X1 <| .nil R.2 <| K A0
theorem C59_S {f : FuncId} {B0 : Int} {B1 : Int} {B2 : Int} {B3 : Int} {B4 : Int} {B5 : Int} {B6 : Int} {A0 : Bool} {K : Bool → Nd} (h : tw cx 59 [.st [i64 B0, i64 B1, i64 B2, i64 B3, i64 B4, i64 B5], .pt true () (i64 B6)] = some ([tb A0], [])) : S cx f (C59 B0 B1 B2 B3 B4 B5 B6 K) = S cx f (K A0) := call_S h rfl
noncomputable def C63 (B0 : Int) (B1 : Int) (K : Bool → Nd) : Nd := .call 63 [i64 B0, .pt true () (i64 B1)] fun R => .cons R.1 fun X0 X1 => .bool X0 fun A0 => .nil X1 <| .nil R.2 <| K A0
theorem C63_S {f : FuncId} {B0 : Int} {B1 : Int} {A0 : Bool} {K : Bool → Nd} (h : tw cx 63 [i64 B0, .pt true () (i64 B1)] = some ([tb A0], [])) : S cx f (C63 B0 B1 K) = S cx f (K A0) := call_S h rfl
noncomputable def C81 (B0 : List TV) (B1 : Int) (B2 : Int) (K : (List TV) → Nd) : Nd := .call 81 [sl false ⟨1, false⟩ B0, i64 B1, i64 B2] fun R => .nil R.1 <| .cons R.2 fun X0 X1 => .slO ⟨1, false⟩ X0 fun A0 => .nil X1 <| K A0
theorem C81_S {f : FuncId} {B0 : List TV} {B1 : Int} {B2 : Int} {A0 : List TV} {K : (List TV) → Nd} (h : tw cx 81 [sl false ⟨1, false⟩ B0, i64 B1, i64 B2] = some ([], [sl false ⟨1, false⟩ A0])) : S cx f (C81 B0 B1 B2 K) = S cx f (K A0) := call_S h rfl
noncomputable def C82 (B0 : List TV) (B1 : Int) (B2 : Int) (K : (List TV) → Nd) : Nd := .call 82 [sl false ⟨1, false⟩ B0, i64 B1, i64 B2] fun R => .nil R.1 <| .cons R.2 fun X0 X1 => .slO ⟨1, false⟩ X0 fun A0 => .nil X1 <| K A0
noncomputable def C83 (B0 : List TV) (B1 : Int) (B2 : Int) (K : (List TV) → Nd) : Nd := .call 83 [sl false ⟨1, false⟩ B0, i64 B1, i64 B2] fun R => .nil R.1 <| .cons R.2 fun X0 X1 => .slO ⟨1, false⟩ X0 fun A0 => .nil X1 <| K A0
noncomputable def C87 (B0 : Int) (B1 : Int) (K : Bool → Nd) : Nd := .call 87 [i64 B0, i64 B1] fun R => .cons R.1 fun X0 X1 => .bool X0 fun A0 => .nil X1 <| .nil R.2 <| K A0
theorem C87_S {f : FuncId} {B0 : Int} {B1 : Int} {A0 : Bool} {K : Bool → Nd} (h : tw cx 87 [i64 B0, i64 B1] = some ([tb A0], [])) : S cx f (C87 B0 B1 K) = S cx f (K A0) := call_S h rfl
noncomputable def C91 (B0 : Int) (K : Int → Nd) : Nd := .call 91 [.fl (.int .u64 B0)] fun R => .cons R.1 fun X0 X1 => .int .i64 X0 fun A0 => .nil X1 <| .nil R.2 <| K A0
theorem C91_S {f : FuncId} {B0 : Int} {A0 : Int} {K : Int → Nd} (h : tw cx 91 [.fl (.int .u64 B0)] = some ([i64 A0], [])) : S cx f (C91 B0 K) = S cx f (K A0) := call_S h rfl
noncomputable def C97 (B0 : Int) (K : Bool → Nd) : Nd := .call 97 [i64 B0] fun R => .cons R.1 fun X0 X1 => .bool X0 fun A0 => .nil X1 <| .nil R.2 <| K A0
theorem C97_S {f : FuncId} {B0 : Int} {A0 : Bool} {K : Bool → Nd} (h : tw cx 97 [i64 B0] = some ([tb A0], [])) : S cx f (C97 B0 K) = S cx f (K A0) := call_S h rfl
end Go.Tree.Q

/- Trees of values: program points of functions. -/
namespace Go.Tree.Q
open Go.Proofs
set_option linter.unusedVariables false
set_option maxRecDepth 20000
noncomputable def N3 (aF_0 : List TV) : Nd :=
  C5 aF_0 1048576 fun v_f57e =>
  .bif (decide (v_f57e < 0))
  (.ret [tb true] [])
  (C7 aF_0 fun vs_06c6 =>
    C6 vs_06c6 fun v_4f58 v_e8cc =>
    C7 aF_0 fun vs_edeb =>
    C8 vs_edeb fun v_17c2 v_7cd3 =>
    .bif ((!(v_17c2 == v_4f58)))
    (.ret [tb false] [])
    (.bif ((!(v_7cd3 == v_e8cc)))
      (.ret [tb false] [])
      (C7 aF_0 fun vs_87bd =>
        C9 vs_edeb vs_87bd fun v_0916 =>
        .bif ((!v_0916))
        (.ret [tb false] [])
        (.ret [tb true] []))))
theorem e3 {aF_0 : List TV} {r : Res} (h : S cx 3 (N3 aF_0) = some r) : tw cx 3 [sl true ⟨4, true⟩ aF_0] = some r :=
  tw_of (fun call hd hb pt rg => by kernel_rfl) h
noncomputable def N4 (aF_0 : List TV) (aK_1 : Int) : Nd :=
  C5 aF_0 1048576 fun v_f57e =>
  .bif (decide (v_f57e < 0))
  (.ret [tb true] [])
  (C7 aF_0 fun vs_06c6 =>
    C10 vs_06c6 aK_1 fun v_af05 v_0f55 =>
    C7 aF_0 fun vs_edeb =>
    C11 vs_edeb aK_1 fun v_79ad v_27ad =>
    .bif ((!(v_79ad == v_af05)))
    (.ret [tb false] [])
    (.bif ((!(v_27ad == v_0f55)))
      (.ret [tb false] [])
      (C7 aF_0 fun vs_87bd =>
        C9 vs_edeb vs_87bd fun v_0916 =>
        .bif ((!v_0916))
        (.ret [tb false] [])
        (.ret [tb true] []))))
theorem e4 {aF_0 : List TV} {aK_1 : Int} {r : Res} (h : S cx 4 (N4 aF_0 aK_1) = some r) : tw cx 4 [sl true ⟨4, true⟩ aF_0, i64 aK_1] = some r :=
  tw_of (fun call hd hb pt rg => by kernel_rfl) h
noncomputable def EH5_0 (a_0 : List TV) (left_1 : Int) (i_2 : Int) : Env := [.val [] (sl true ⟨4, true⟩ a_0), .val [] (i64 left_1), .un, .un, .un, .val [] (i64 i_2)] ++ uns 23
noncomputable abbrev H5_0 (a_0 : List TV) (left_1 : Int) (i_2 : Int) : Nd := .head [1, 1, 1, 0, 1, 2] (EH5_0 a_0 left_1 i_2)
noncomputable abbrev B5_0 (a_0 : List TV) (left_1 : Int) (i_2 : Int) : Nd := .back [1, 1, 1, 0, 1, 2] (EH5_0 a_0 left_1 i_2)
noncomputable def N5 (a_0 : List TV) (left_1 : Int) : Nd :=
  .bif (decide (w64 (left_1 - ((a_0.length : Nat) : Int)) < 0))
  (.ret [i64 (-1)] [])
  (H5_0 a_0 (w64 (left_1 - ((a_0.length : Nat) : Int))) 0)
theorem e5 {a_0 : List TV} {left_1 : Int} {r : Res} (h : S cx 5 (N5 a_0 left_1) = some r) : tw cx 5 [sl true ⟨4, true⟩ a_0, i64 left_1] = some r :=
  tw_of (fun call hd hb pt rg => by kernel_rfl) h
noncomputable def NH5_0 (a_0 : List TV) (left_1 : Int) (i_2 : Int) : Nd :=
  .bif (decide (i_2 < ((a_0.length : Nat) : Int)))
  (.ck (decide ((0 : Int) ≤ i_2) && decide (i_2 < ((a_0.length : Nat) : Int))) <|
    V4 (a_0.getD (0 + i_2.toNat) (.dead ())) fun codes_64db go_fd89 test_a015 nexts_9545 =>
    C12 codes_64db go_fd89 test_a015 nexts_9545 left_1 fun v_a669 =>
    .bif (decide (v_a669 < 0))
    (.ret [i64 (-1)] [])
    (B5_0 a_0 v_a669 (w64 (i_2 + 1))))
  (.ret [i64 left_1] [])
theorem eH5_0 {a_0 : List TV} {left_1 : Int} {i_2 : Int} {r : Res} (h : S cx 5 (NH5_0 a_0 left_1 i_2) = some r) : S cx 5 (H5_0 a_0 left_1 i_2) = some r :=
  hw_of (fun call hd hb pt rg => by kernel_rfl) h
noncomputable def N6 (f_0 : List TV) : Nd :=
  C13 f_0 fun v_7d4c =>
  .bif ((!v_7d4c))
  (.ret [tb false, tb false] [])
  (C14 f_0 fun v_a1ff =>
    .ret [tb v_a1ff, tb true] [])
theorem e6 {f_0 : List TV} {r : Res} (h : S cx 6 (N6 f_0) = some r) : tw cx 6 [sl true ⟨4, true⟩ f_0] = some r :=
  tw_of (fun call hd hb pt rg => by kernel_rfl) h
noncomputable def EH7_0 (a_0 : List TV) (out_1 : List TV) (i_2 : Int) : Env := [.val [] (sl true ⟨4, true⟩ a_0), .un, .un, .val [] (sl false ⟨4, true⟩ out_1), .val [] (i64 i_2)] ++ uns 19
noncomputable abbrev H7_0 (a_0 : List TV) (out_1 : List TV) (i_2 : Int) : Nd := .head [1, 1, 0, 1, 2] (EH7_0 a_0 out_1 i_2)
noncomputable abbrev B7_0 (a_0 : List TV) (out_1 : List TV) (i_2 : Int) : Nd := .back [1, 1, 0, 1, 2] (EH7_0 a_0 out_1 i_2)
noncomputable def N7 (a_0 : List TV) : Nd :=
  .ck (decide ((0 : Int) ≤ ((a_0.length : Nat) : Int)) && decide (((a_0.length : Nat) : Int) ≤ ((a_0.length : Nat) : Int)) && decide (((a_0.length : Nat) : Int) * 64 < (lim : Int)) && decide (((a_0.length : Nat) : Int) < 9223372036854775807) && true && true) <|
  H7_0 a_0 (List.replicate (((a_0.length : Nat) : Int).toNat) (.st [sl false ⟨6, false⟩ ([]), i64 0, i64 0, sl false ⟨1, false⟩ ([])])) 0
theorem e7 {a_0 : List TV} {r : Res} (h : S cx 7 (N7 a_0) = some r) : tw cx 7 [sl true ⟨4, true⟩ a_0] = some r :=
  tw_of (fun call hd hb pt rg => by kernel_rfl) h
noncomputable def NH7_0 (a_0 : List TV) (out_1 : List TV) (i_2 : Int) : Nd :=
  .bif (decide (i_2 < ((a_0.length : Nat) : Int)))
  (.ck (decide ((0 : Int) ≤ i_2) && decide (i_2 < ((a_0.length : Nat) : Int))) <|
    V4 (a_0.getD (0 + i_2.toNat) (.dead ())) fun codes_64db go_fd89 test_a015 nexts_9545 =>
    C15 codes_64db go_fd89 test_a015 nexts_9545 fun codes_7bf3 go_0759 test_e5fe nexts_543b =>
    .ck (decide ((0 : Int) ≤ i_2) && decide (i_2 < ((out_1.length : Nat) : Int))) <|
    B7_0 a_0 (out_1.set (0 + i_2.toNat) (.st [sl false ⟨6, false⟩ codes_7bf3, i64 go_0759, i64 test_e5fe, sl false ⟨1, false⟩ nexts_543b])) (w64 (i_2 + 1)))
  (.ret [sl false ⟨4, true⟩ out_1] [])
theorem eH7_0 {a_0 : List TV} {out_1 : List TV} {i_2 : Int} {r : Res} (h : S cx 7 (NH7_0 a_0 out_1 i_2) = some r) : S cx 7 (H7_0 a_0 out_1 i_2) = some r :=
  hw_of (fun call hd hb pt rg => by kernel_rfl) h
noncomputable def N8 (f_0 : List TV) : Nd :=
  C16 f_0 fun v_8b21 =>
  .bif ((!v_8b21))
  (.ret [tb false, tb false] [])
  (C17 f_0 fun v_ec50 =>
    .ret [tb v_ec50, tb true] [])
theorem e8 {f_0 : List TV} {r : Res} (h : S cx 8 (N8 f_0) = some r) : tw cx 8 [sl true ⟨4, true⟩ f_0] = some r :=
  tw_of (fun call hd hb pt rg => by kernel_rfl) h
noncomputable def EH9_0 (a_0 : List TV) (b_1 : List TV) (i_2 : Int) : Env := [.val [] (sl true ⟨4, true⟩ a_0), .val [] (sl true ⟨4, true⟩ b_1), .un, .un, .un, .val [] (i64 i_2)] ++ uns 23
noncomputable abbrev H9_0 (a_0 : List TV) (b_1 : List TV) (i_2 : Int) : Nd := .head [1, 1, 0, 1, 2] (EH9_0 a_0 b_1 i_2)
noncomputable abbrev B9_0 (a_0 : List TV) (b_1 : List TV) (i_2 : Int) : Nd := .back [1, 1, 0, 1, 2] (EH9_0 a_0 b_1 i_2)
noncomputable def N9 (a_0 : List TV) (b_1 : List TV) : Nd :=
  .bif ((((a_0.length : Nat) : Int) != ((b_1.length : Nat) : Int)))
  (.ret [tb false] [])
  (H9_0 a_0 b_1 0)
theorem e9 {a_0 : List TV} {b_1 : List TV} {r : Res} (h : S cx 9 (N9 a_0 b_1) = some r) : tw cx 9 [sl true ⟨4, true⟩ a_0, sl true ⟨4, true⟩ b_1] = some r :=
  tw_of (fun call hd hb pt rg => by kernel_rfl) h
noncomputable def NH9_0 (a_0 : List TV) (b_1 : List TV) (i_2 : Int) : Nd :=
  .bif (decide (i_2 < ((a_0.length : Nat) : Int)))
  (.ck (decide ((0 : Int) ≤ i_2) && decide (i_2 < ((a_0.length : Nat) : Int))) <|
    V4 (a_0.getD (0 + i_2.toNat) (.dead ())) fun codes_64db go_fd89 test_a015 nexts_9545 =>
    .ck (decide ((0 : Int) ≤ i_2) && decide (i_2 < ((b_1.length : Nat) : Int))) <|
    V4 (b_1.getD (0 + i_2.toNat) (.dead ())) fun codes_ed26 go_85a0 test_4ba2 nexts_322c =>
    C18 codes_64db go_fd89 test_a015 nexts_9545 codes_ed26 go_85a0 test_4ba2 nexts_322c fun v_512d =>
    .bif ((!v_512d))
    (.ret [tb false] [])
    (B9_0 a_0 b_1 (w64 (i_2 + 1))))
  (.ret [tb true] [])
theorem eH9_0 {a_0 : List TV} {b_1 : List TV} {i_2 : Int} {r : Res} (h : S cx 9 (NH9_0 a_0 b_1 i_2) = some r) : S cx 9 (H9_0 a_0 b_1 i_2) = some r :=
  hw_of (fun call hd hb pt rg => by kernel_rfl) h
noncomputable def N10 (f_0 : List TV) (k_1 : Int) : Nd :=
  C14 f_0 fun v_a1ff =>
  .bif ((!v_a1ff))
  (.ret [tb false, tb false] [])
  (.bif (decide (k_1 < 0))
    (.ret [tb false, tb false] [])
    (.bif (decide (k_1 ≥ ((f_0.length : Nat) : Int)))
      (.ret [tb false, tb false] [])
      (C21 f_0 fun nexts_6930 =>
        C20 nexts_6930 fun vs_f947 =>
        C19 f_0 vs_f947 k_1 fun v_1840 =>
        .ret [tb v_1840, tb true] [])))
theorem e10 {f_0 : List TV} {k_1 : Int} {r : Res} (h : S cx 10 (N10 f_0 k_1) = some r) : tw cx 10 [sl true ⟨4, true⟩ f_0, i64 k_1] = some r :=
  tw_of (fun call hd hb pt rg => by kernel_rfl) h
noncomputable def N11 (f_0 : List TV) (k_1 : Int) : Nd :=
  .call 22 [sl true ⟨4, true⟩ f_0] fun r_569b =>
  .cons r_569b.1 fun t_9148 ts_a256 =>
  .ptO t_9148 (.nil ts_a256 <|
    .nil r_569b.2 <|
    .ret [tb false, tb false] []) fun p_6db8 =>
  V5 p_6db8 fun fs_66e2 doms_10c8 ranks_05a1 kidss_d1e8 outs_a739 =>
  .nil ts_a256 <|
  .nil r_569b.2 <|
  C23 k_1 0 (w64 (((f_0.length : Nat) : Int) - 1)) fun v_f442 =>
  .bif ((!v_f442))
  (.ret [tb false, tb false] [])
  (C24 fs_66e2 doms_10c8 ranks_05a1 kidss_d1e8 outs_a739 k_1 fun v_8407 =>
    .ret [tb v_8407, tb true] [])
theorem e11 {f_0 : List TV} {k_1 : Int} {r : Res} (h : S cx 11 (N11 f_0 k_1) = some r) : tw cx 11 [sl true ⟨4, true⟩ f_0, i64 k_1] = some r :=
  tw_of (fun call hd hb pt rg => by kernel_rfl) h
noncomputable def N12 (a_0 : List TV) (a_1 : Int) (a_2 : Int) (a_3 : List TV) (left_4 : Int) : Nd :=
  C25 a_0 left_4 fun v_ff25 =>
  .bif (decide (v_ff25 < 0))
  (.ret [i64 (-1)] [])
  (C26 a_3 v_ff25 fun v_0487 =>
    .bif (decide (v_0487 < 0))
    (.ret [i64 (-1)] [])
    (.ret [i64 v_0487] []))
theorem e12 {a_0 : List TV} {a_1 : Int} {a_2 : Int} {a_3 : List TV} {left_4 : Int} {r : Res} (h : S cx 12 (N12 a_0 a_1 a_2 a_3 left_4) = some r) : tw cx 12 [.st [sl true ⟨6, false⟩ a_0, i64 a_1, i64 a_2, sl true ⟨1, false⟩ a_3], i64 left_4] = some r :=
  tw_of (fun call hd hb pt rg => by kernel_rfl) h
noncomputable def EH13_0 (f_0 : List TV) (v_1 : Int) : Env := [.val [] (sl true ⟨4, true⟩ f_0), .un, .un, .un, .un, .val [] (sl true ⟨4, true⟩ f_0), .val [] (i64 ((f_0.length : Nat) : Int)), .val [] (i64 v_1)] ++ uns 13
noncomputable abbrev H13_0 (f_0 : List TV) (v_1 : Int) : Nd := .head [1, 0, 1, 2] (EH13_0 f_0 v_1)
noncomputable abbrev B13_0 (f_0 : List TV) (v_1 : Int) : Nd := .back [1, 0, 1, 2] (EH13_0 f_0 v_1)
noncomputable def N13 (f_0 : List TV) : Nd :=
  H13_0 f_0 0
theorem e13 {f_0 : List TV} {r : Res} (h : S cx 13 (N13 f_0) = some r) : tw cx 13 [sl true ⟨4, true⟩ f_0] = some r :=
  tw_of (fun call hd hb pt rg => by kernel_rfl) h
noncomputable def NH13_0 (f_0 : List TV) (v_1 : Int) : Nd :=
  .bif (decide (v_1 < ((f_0.length : Nat) : Int)))
  (.ck (decide ((0 : Int) ≤ v_1) && decide (v_1 < ((f_0.length : Nat) : Int))) <|
    V4 (f_0.getD (0 + v_1.toNat) (.dead ())) fun codes_4fee go_d0b0 test_d8b3 nexts_a1b5 =>
    C27 codes_4fee go_d0b0 test_d8b3 nexts_a1b5 ((f_0.length : Nat) : Int) fun v_dd4b =>
    .bif ((!v_dd4b))
    (.ret [tb false] [])
    (B13_0 f_0 (w64 (v_1 + 1))))
  (C28 ((f_0.length : Nat) : Int) 1 64 fun v_e4c9 =>
    .ret [tb v_e4c9] [])
theorem eH13_0 {f_0 : List TV} {v_1 : Int} {r : Res} (h : S cx 13 (NH13_0 f_0 v_1) = some r) : S cx 13 (H13_0 f_0 v_1) = some r :=
  hw_of (fun call hd hb pt rg => by kernel_rfl) h
noncomputable def EH14_0 (f_0 : List TV) (v_1 : Int) : Env := [.val [] (sl true ⟨4, true⟩ f_0)] ++ uns 21 ++ [.val [] (sl true ⟨4, true⟩ f_0), .val [] (i64 ((f_0.length : Nat) : Int)), .val [] (i64 v_1)] ++ uns 21
noncomputable abbrev H14_0 (f_0 : List TV) (v_1 : Int) : Nd := .head [1, 1, 0, 1, 2] (EH14_0 f_0 v_1)
noncomputable abbrev B14_0 (f_0 : List TV) (v_1 : Int) : Nd := .back [1, 1, 0, 1, 2] (EH14_0 f_0 v_1)
noncomputable def N14 (f_0 : List TV) : Nd :=
  C13 f_0 fun v_7d4c =>
  .bif ((!v_7d4c))
  (.ret [tb false] [])
  (.bif (decide (((f_0.length : Nat) : Int) > 12))
    (.ret [tb false] [])
    (C29 f_0 fun vs_556d =>
      .bif ((((vs_556d.length : Nat) : Int) != ((f_0.length : Nat) : Int)))
      (.ret [tb false] [])
      (H14_0 f_0 0)))
theorem e14 {f_0 : List TV} {r : Res} (h : S cx 14 (N14 f_0) = some r) : tw cx 14 [sl true ⟨4, true⟩ f_0] = some r :=
  tw_of (fun call hd hb pt rg => by kernel_rfl) h
noncomputable def NH14_0_s0 (nexts_6930 : List TV) : Nd :=
  C20 nexts_6930 fun vs_f947 =>
  C31 nexts_6930 vs_f947 fun v_1754 =>
  .ret [tb (!v_1754)] []
noncomputable def NH14_0 (f_0 : List TV) (v_1 : Int) : Nd :=
  .bif (decide (v_1 < ((f_0.length : Nat) : Int)))
  (.ck (decide ((0 : Int) ≤ v_1) && decide (v_1 < ((f_0.length : Nat) : Int))) <|
    V4 (f_0.getD (0 + v_1.toNat) (.dead ())) fun codes_4fee go_d0b0 test_d8b3 nexts_a1b5 =>
    C30 codes_4fee fun v_8e62 =>
    .bif ((!v_8e62))
    (.ret [tb false] [])
    (.bif (decide (test_d8b3 ≥ 8))
      (.ret [tb false] [])
      (B14_0 f_0 (w64 (v_1 + 1)))))
  (C21 f_0 fun nexts_6930 =>
    .amb2 
    (NH14_0_s0 nexts_6930) 
    (NH14_0_s0 nexts_6930))
theorem eH14_0 {f_0 : List TV} {v_1 : Int} {r : Res} (h : S cx 14 (NH14_0 f_0 v_1) = some r) : S cx 14 (H14_0 f_0 v_1) = some r :=
  hw_of (fun call hd hb pt rg => by kernel_rfl) h
noncomputable def N15 (a_0 : List TV) (a_1 : Int) (a_2 : Int) (a_3 : List TV) : Nd :=
  C32 a_0 fun vs_b9e7 =>
  C33 a_3 fun vs_b3c5 =>
  .ret [.st [sl false ⟨6, false⟩ vs_b9e7, i64 a_1, i64 a_2, sl false ⟨1, false⟩ vs_b3c5]] []
theorem e15 {a_0 : List TV} {a_1 : Int} {a_2 : Int} {a_3 : List TV} {r : Res} (h : S cx 15 (N15 a_0 a_1 a_2 a_3) = some r) : tw cx 15 [.st [sl true ⟨6, false⟩ a_0, i64 a_1, i64 a_2, sl true ⟨1, false⟩ a_3]] = some r :=
  tw_of (fun call hd hb pt rg => by kernel_rfl) h
noncomputable def N16 (f_0 : List TV) : Nd :=
  C23 ((f_0.length : Nat) : Int) 1 64 fun v_d1d2 =>
  .bif ((!v_d1d2))
  (.ret [tb false] [])
  (C34 f_0 f_0 fun v_84c2 =>
    .ret [tb (!v_84c2)] [])
theorem e16 {f_0 : List TV} {r : Res} (h : S cx 16 (N16 f_0) = some r) : tw cx 16 [sl true ⟨4, true⟩ f_0] = some r :=
  tw_of (fun call hd hb pt rg => by kernel_rfl) h
noncomputable def EH17_0 (f_0 : List TV) (v_1 : Int) : Env := [.val [] (sl true ⟨4, true⟩ f_0)] ++ uns 14 ++ [.val [] (sl true ⟨4, true⟩ f_0), .val [] (i64 ((f_0.length : Nat) : Int)), .val [] (i64 v_1)] ++ uns 18
noncomputable abbrev H17_0 (f_0 : List TV) (v_1 : Int) : Nd := .head [1, 1, 0, 1, 2] (EH17_0 f_0 v_1)
noncomputable abbrev B17_0 (f_0 : List TV) (v_1 : Int) : Nd := .back [1, 1, 0, 1, 2] (EH17_0 f_0 v_1)
noncomputable def N17 (f_0 : List TV) : Nd :=
  .bif (decide (((f_0.length : Nat) : Int) > 12))
  (.ret [tb false] [])
  (C40 f_0 fun vs_edc4 =>
    C39 vs_edc4 0 ([]) fun vs_343b =>
    C38 vs_343b false fun v_9f4e =>
    .bif (v_9f4e)
    (.ret [tb false] [])
    (H17_0 f_0 0))
theorem e17 {f_0 : List TV} {r : Res} (h : S cx 17 (N17 f_0) = some r) : tw cx 17 [sl true ⟨4, true⟩ f_0] = some r :=
  tw_of (fun call hd hb pt rg => by kernel_rfl) h
noncomputable def NH17_0 (f_0 : List TV) (v_1 : Int) : Nd :=
  .bif (decide (v_1 < ((f_0.length : Nat) : Int)))
  (.ck (decide ((0 : Int) ≤ v_1) && decide (v_1 < ((f_0.length : Nat) : Int))) <|
    V4 (f_0.getD (0 + v_1.toNat) (.dead ())) fun codes_4fee go_d0b0 test_d8b3 nexts_a1b5 =>
    C41 codes_4fee fun v_6a25 =>
    .bif ((!v_6a25))
    (.ret [tb false] [])
    (.bif (decide (test_d8b3 ≥ 8))
      (.ret [tb false] [])
      (B17_0 f_0 (w64 (v_1 + 1)))))
  (C40 f_0 fun vs_edc4 =>
    C42 vs_edc4 fun nexts_ad97 =>
    C43 nexts_ad97 fun v_4044 =>
    .ret [tb v_4044] [])
theorem eH17_0 {f_0 : List TV} {v_1 : Int} {r : Res} (h : S cx 17 (NH17_0 f_0 v_1) = some r) : S cx 17 (H17_0 f_0 v_1) = some r :=
  hw_of (fun call hd hb pt rg => by kernel_rfl) h
noncomputable def N18 (a_0 : List TV) (a_1 : Int) (a_2 : Int) (a_3 : List TV) (b_4 : List TV) (b_5 : Int) (b_6 : Int) (b_7 : List TV) : Nd :=
  C44 a_0 b_4 fun v_1594 =>
  .bif ((!v_1594))
  (.ret [tb false] [])
  (.bif ((a_1 != b_5))
    (.ret [tb false] [])
    (.bif ((a_2 != b_6))
      (.ret [tb false] [])
      (C45 a_3 b_7 fun v_5543 =>
        .bif ((!v_5543))
        (.ret [tb false] [])
        (.ret [tb true] []))))
theorem e18 {a_0 : List TV} {a_1 : Int} {a_2 : Int} {a_3 : List TV} {b_4 : List TV} {b_5 : Int} {b_6 : Int} {b_7 : List TV} {r : Res} (h : S cx 18 (N18 a_0 a_1 a_2 a_3 b_4 b_5 b_6 b_7) = some r) : tw cx 18 [.st [sl true ⟨6, false⟩ a_0, i64 a_1, i64 a_2, sl true ⟨1, false⟩ a_3], .st [sl true ⟨6, false⟩ b_4, i64 b_5, i64 b_6, sl true ⟨1, false⟩ b_7]] = some r :=
  tw_of (fun call hd hb pt rg => by kernel_rfl) h
noncomputable def EH19_0 (dom_0 : List TV) (k_1 : Int) (n_4 : Int) (v_2 : List TV) (v_3 : Int) : Env := [.un, .val [] (sl true ⟨1, true⟩ dom_0), .val [] (i64 k_1), .un, .un, .un, .un, .val [] (i64 n_4), .un, .un, .un, .un, .val [] (sl true ⟨4, true⟩ v_2), .val [] (i64 ((v_2.length : Nat) : Int)), .val [] (i64 v_3)] ++ uns 40
noncomputable abbrev H19_0 (dom_0 : List TV) (k_1 : Int) (n_4 : Int) (v_2 : List TV) (v_3 : Int) : Nd := .head [1, 1, 0, 1, 2] (EH19_0 dom_0 k_1 n_4 v_2 v_3)
noncomputable abbrev B19_0 (dom_0 : List TV) (k_1 : Int) (n_4 : Int) (v_2 : List TV) (v_3 : Int) : Nd := .back [1, 1, 0, 1, 2] (EH19_0 dom_0 k_1 n_4 v_2 v_3)
noncomputable def EH19_1 (dom_0 : List TV) (k_1 : Int) (n_7 : Int) (q_9 : Int) (b_2 : List TV) (b_3 : Int) (b_4 : Int) (b_5 : List TV) (v_6 : List TV) (v_10 : Int) (v_8 : Int) : Env := [.un, .val [] (sl true ⟨1, true⟩ dom_0), .val [] (i64 k_1), .un, .un, .un, .un, .val [] (i64 n_7), .val [] (i64 q_9), .val [] (.pt false () (.st [sl true ⟨6, false⟩ b_2, i64 b_3, i64 b_4, sl true ⟨1, false⟩ b_5])), .un, .un, .val [] (sl true ⟨4, true⟩ v_6), .val [] (i64 ((v_6.length : Nat) : Int)), .val [] (i64 v_10), .un, .un, .un, .un, .un, .val [] (sl true ⟨1, false⟩ b_5), .val [] (i64 ((b_5.length : Nat) : Int)), .val [] (i64 v_8)] ++ uns 32
noncomputable abbrev H19_1 (dom_0 : List TV) (k_1 : Int) (n_7 : Int) (q_9 : Int) (b_2 : List TV) (b_3 : Int) (b_4 : Int) (b_5 : List TV) (v_6 : List TV) (v_10 : Int) (v_8 : Int) : Nd := .head [1, 1, 0, 1, 2, 5, 1, 1, 0, 2, 1, 1, 2] (EH19_1 dom_0 k_1 n_7 q_9 b_2 b_3 b_4 b_5 v_6 v_10 v_8)
noncomputable abbrev B19_1 (dom_0 : List TV) (k_1 : Int) (n_7 : Int) (q_9 : Int) (b_2 : List TV) (b_3 : Int) (b_4 : Int) (b_5 : List TV) (v_6 : List TV) (v_10 : Int) (v_8 : Int) : Nd := .back [1, 1, 0, 1, 2, 5, 1, 1, 0, 2, 1, 1, 2] (EH19_1 dom_0 k_1 n_7 q_9 b_2 b_3 b_4 b_5 v_6 v_10 v_8)
noncomputable def N19 (f_0 : List TV) (dom_1 : List TV) (k_2 : Int) : Nd :=
  H19_0 dom_1 k_2 0 f_0 0
theorem e19 {f_0 : List TV} {dom_1 : List TV} {k_2 : Int} {r : Res} (h : S cx 19 (N19 f_0 dom_1 k_2) = some r) : tw cx 19 [sl true ⟨4, true⟩ f_0, sl true ⟨1, true⟩ dom_1, i64 k_2] = some r :=
  tw_of (fun call hd hb pt rg => by kernel_rfl) h
noncomputable def NH19_0 (dom_0 : List TV) (k_1 : Int) (n_4 : Int) (v_2 : List TV) (v_3 : Int) : Nd :=
  .bif (decide (v_3 < ((v_2.length : Nat) : Int)))
  (.ck (decide ((0 : Int) ≤ v_3) && decide (v_3 < ((v_2.length : Nat) : Int))) <|
    V4 (v_2.getD (0 + v_3.toNat) (.dead ())) fun codes_8e79 go_d1c0 test_d2a8 nexts_05d8 =>
    H19_1 dom_0 k_1 n_4 v_3 codes_8e79 go_d1c0 test_d2a8 nexts_05d8 v_2 v_3 0)
  (.ret [tb (decide (n_4 > 1))] [])
theorem eH19_0 {dom_0 : List TV} {k_1 : Int} {n_4 : Int} {v_2 : List TV} {v_3 : Int} {r : Res} (h : S cx 19 (NH19_0 dom_0 k_1 n_4 v_2 v_3) = some r) : S cx 19 (H19_0 dom_0 k_1 n_4 v_2 v_3) = some r :=
  hw_of (fun call hd hb pt rg => by kernel_rfl) h
noncomputable def NH19_1_s0 (dom_0 : List TV) (k_1 : Int) (n_7 : Int) (q_9 : Int) (b_2 : List TV) (b_3 : Int) (b_4 : Int) (b_5 : List TV) (v_6 : List TV) (v_10 : Int) (v_8 : Int) (x_7dea : Int) : Nd :=
  .bif ((x_7dea == k_1))
  (.ck (decide ((0 : Int) ≤ q_9) && decide (q_9 < ((dom_0.length : Nat) : Int))) <|
    .slR ⟨1, false⟩ (dom_0.getD (0 + q_9.toNat) (.dead ())) fun xs_04d4 =>
    C46 xs_04d4 k_1 fun v_2fb0 =>
    .bif ((!v_2fb0))
    (B19_1 dom_0 k_1 (w64 (n_7 + 1)) q_9 b_2 b_3 b_4 b_5 v_6 v_10 (w64 (v_8 + 1)))
    (B19_1 dom_0 k_1 n_7 q_9 b_2 b_3 b_4 b_5 v_6 v_10 (w64 (v_8 + 1))))
  (B19_1 dom_0 k_1 n_7 q_9 b_2 b_3 b_4 b_5 v_6 v_10 (w64 (v_8 + 1)))
noncomputable def NH19_1 (dom_0 : List TV) (k_1 : Int) (n_7 : Int) (q_9 : Int) (b_2 : List TV) (b_3 : Int) (b_4 : Int) (b_5 : List TV) (v_6 : List TV) (v_10 : Int) (v_8 : Int) : Nd :=
  .bif (decide (v_8 < ((b_5.length : Nat) : Int)))
  (.ck (decide ((0 : Int) ≤ v_8) && decide (v_8 < ((b_5.length : Nat) : Int))) <|
    .int .i64 (b_5.getD (0 + v_8.toNat) (.dead ())) fun x_7dea =>
    .bif ((x_7dea == k_1))
    (.bif ((b_3 == 5))
      (.ret [tb true] [])
      (NH19_1_s0 dom_0 k_1 n_7 q_9 b_2 b_3 b_4 b_5 v_6 v_10 v_8 x_7dea))
    (NH19_1_s0 dom_0 k_1 n_7 q_9 b_2 b_3 b_4 b_5 v_6 v_10 v_8 x_7dea))
  (B19_0 dom_0 k_1 n_7 v_6 (w64 (v_10 + 1)))
theorem eH19_1 {dom_0 : List TV} {k_1 : Int} {n_7 : Int} {q_9 : Int} {b_2 : List TV} {b_3 : Int} {b_4 : Int} {b_5 : List TV} {v_6 : List TV} {v_10 : Int} {v_8 : Int} {r : Res} (h : S cx 19 (NH19_1 dom_0 k_1 n_7 q_9 b_2 b_3 b_4 b_5 v_6 v_10 v_8) = some r) : S cx 19 (H19_1 dom_0 k_1 n_7 q_9 b_2 b_3 b_4 b_5 v_6 v_10 v_8) = some r :=
  hw_of (fun call hd hb pt rg => by kernel_rfl) h
noncomputable def EH20_0 (g_0 : List TV) (out_3 : List TV) (reach_1 : List TV) (v_2 : Int) : Env := [.un, .val [] (.pt false () (.st [sl true ⟨1, true⟩ g_0])), .un, .val [] (sl false ⟨1, true⟩ out_3), .val [] (sl false ⟨1, false⟩ reach_1)] ++ uns 12 ++ [.val [] (i64 ((g_0.length : Nat) : Int)), .val [] (i64 v_2)] ++ uns 33
noncomputable abbrev H20_0 (g_0 : List TV) (out_3 : List TV) (reach_1 : List TV) (v_2 : Int) : Nd := .head [1, 1, 1, 0, 1, 2] (EH20_0 g_0 out_3 reach_1 v_2)
noncomputable abbrev B20_0 (g_0 : List TV) (out_3 : List TV) (reach_1 : List TV) (v_2 : Int) : Nd := .back [1, 1, 1, 0, 1, 2] (EH20_0 g_0 out_3 reach_1 v_2)
noncomputable def EH20_1 (g_0 : List TV) (out_3 : List TV) (reach_1 : List TV) (d_5 : Int) (left_2 : List TV) (v_6 : Int) (v_4 : Int) : Env := [.un, .val [] (.pt false () (.st [sl true ⟨1, true⟩ g_0])), .un, .val [] (sl false ⟨1, true⟩ out_3), .val [] (sl false ⟨1, false⟩ reach_1), .val [] (i64 d_5), .val [] (sl false ⟨1, false⟩ left_2)] ++ uns 10 ++ [.val [] (i64 ((g_0.length : Nat) : Int)), .val [] (i64 v_6), .un, .un, .un, .un, .un, .ref 4 [] none 34 false, .val [] (i64 ((reach_1.length : Nat) : Int)), .val [] (i64 v_4)] ++ uns 25
noncomputable abbrev H20_1 (g_0 : List TV) (out_3 : List TV) (reach_1 : List TV) (d_5 : Int) (left_2 : List TV) (v_6 : Int) (v_4 : Int) : Nd := .head [1, 1, 1, 0, 1, 2, 5, 1, 1, 0, 2, 1, 1, 1, 2] (EH20_1 g_0 out_3 reach_1 d_5 left_2 v_6 v_4)
noncomputable abbrev B20_1 (g_0 : List TV) (out_3 : List TV) (reach_1 : List TV) (d_5 : Int) (left_2 : List TV) (v_6 : Int) (v_4 : Int) : Nd := .back [1, 1, 1, 0, 1, 2, 5, 1, 1, 0, 2, 1, 1, 1, 2] (EH20_1 g_0 out_3 reach_1 d_5 left_2 v_6 v_4)
noncomputable def EG20_2 (g_0 : List TV) (out_5 : List TV) (reach_1 : List TV) (d_6 : Int) (left_2 : List TV) (k_3 : Int) (v_7 : Int) (v_8 : Int) (v_4 : Bool) : Env := [.un, .val [] (.pt false () (.st [sl true ⟨1, true⟩ g_0])), .un, .val [] (sl false ⟨1, true⟩ out_5), .val [] (sl false ⟨1, false⟩ reach_1), .val [] (i64 d_6), .val [] (sl false ⟨1, false⟩ left_2), .un, .val [] (i64 k_3)] ++ uns 8 ++ [.val [] (i64 ((g_0.length : Nat) : Int)), .val [] (i64 v_7), .un, .un, .un, .un, .un, .ref 4 [] none 34 false, .val [] (i64 ((reach_1.length : Nat) : Int)), .val [] (i64 v_8)] ++ uns 11 ++ [.val [] (tb v_4)] ++ uns 13
noncomputable abbrev G20_2 (g_0 : List TV) (out_5 : List TV) (reach_1 : List TV) (d_6 : Int) (left_2 : List TV) (k_3 : Int) (v_7 : Int) (v_8 : Int) (v_4 : Bool) : Nd := .go [1, 1, 1, 0, 1, 2, 5, 1, 1, 0, 2, 1, 1, 1, 2, 5, 1, 1, 0, 2, 1, 1] (EG20_2 g_0 out_5 reach_1 d_6 left_2 k_3 v_7 v_8 v_4)
noncomputable def N20 (g_0 : List TV) : Nd :=
  .ck (decide ((0 : Int) ≤ ((g_0.length : Nat) : Int)) && decide (((g_0.length : Nat) : Int) ≤ ((g_0.length : Nat) : Int)) && decide (((g_0.length : Nat) : Int) * 24 < (lim : Int)) && decide (((g_0.length : Nat) : Int) < 9223372036854775807) && true && true) <|
  C47 g_0 (-1) fun vs_618e =>
  H20_0 g_0 (List.replicate (((g_0.length : Nat) : Int).toNat) (sl false ⟨1, false⟩ ([]))) vs_618e 0
theorem e20 {g_0 : List TV} {r : Res} (h : S cx 20 (N20 g_0) = some r) : tw cx 20 [.st [sl true ⟨1, true⟩ g_0]] = some r :=
  tw_of (fun call hd hb pt rg => by kernel_rfl) h
noncomputable def NH20_0 (g_0 : List TV) (out_3 : List TV) (reach_1 : List TV) (v_2 : Int) : Nd :=
  .bif (decide (v_2 < ((g_0.length : Nat) : Int)))
  (C47 g_0 v_2 fun vs_99e1 =>
    H20_1 g_0 out_3 reach_1 v_2 vs_99e1 v_2 0)
  (.ret [sl false ⟨1, true⟩ out_3] [])
theorem eH20_0 {g_0 : List TV} {out_3 : List TV} {reach_1 : List TV} {v_2 : Int} {r : Res} (h : S cx 20 (NH20_0 g_0 out_3 reach_1 v_2) = some r) : S cx 20 (H20_0 g_0 out_3 reach_1 v_2) = some r :=
  hw_of (fun call hd hb pt rg => by kernel_rfl) h
noncomputable def NH20_1 (g_0 : List TV) (out_3 : List TV) (reach_1 : List TV) (d_5 : Int) (left_2 : List TV) (v_6 : Int) (v_4 : Int) : Nd :=
  .bif (decide (v_4 < ((reach_1.length : Nat) : Int)))
  (.ck (decide ((0 : Int) ≤ v_4) && decide (v_4 < ((reach_1.length : Nat) : Int))) <|
    .int .i64 (reach_1.getD (0 + v_4.toNat) (.dead ())) fun x_8b64 =>
    C46 reach_1 d_5 fun v_2ff9 =>
    .bif (v_2ff9)
    (C46 left_2 x_8b64 fun v_4f51 =>
      G20_2 g_0 out_3 reach_1 d_5 left_2 x_8b64 v_6 v_4 (!v_4f51))
    (G20_2 g_0 out_3 reach_1 d_5 left_2 x_8b64 v_6 v_4 false))
  (B20_0 g_0 out_3 reach_1 (w64 (v_6 + 1)))
theorem eH20_1 {g_0 : List TV} {out_3 : List TV} {reach_1 : List TV} {d_5 : Int} {left_2 : List TV} {v_6 : Int} {v_4 : Int} {r : Res} (h : S cx 20 (NH20_1 g_0 out_3 reach_1 d_5 left_2 v_6 v_4) = some r) : S cx 20 (H20_1 g_0 out_3 reach_1 d_5 left_2 v_6 v_4) = some r :=
  hw_of (fun call hd hb pt rg => by kernel_rfl) h
noncomputable def NG20_2 (g_0 : List TV) (out_5 : List TV) (reach_1 : List TV) (d_6 : Int) (left_2 : List TV) (k_3 : Int) (v_7 : Int) (v_8 : Int) (v_4 : Bool) : Nd :=
  .bif (v_4)
  (.ck (decide ((0 : Int) ≤ k_3) && decide (k_3 < ((out_5.length : Nat) : Int))) <|
    .slO ⟨1, false⟩ (out_5.getD (0 + k_3.toNat) (.dead ())) fun vs_9ce8 =>
    .slO ⟨1, false⟩ (out_5.getD (0 + k_3.toNat) (.dead ())) fun vs_9ce8_2 =>
    C48 vs_9ce8_2 d_6 fun vs_72b8 =>
    .ck (decide ((0 : Int) ≤ k_3) && decide (k_3 < (((out_5.set (0 + k_3.toNat) (.dead ())).length : Nat) : Int))) <|
    B20_1 g_0 ((out_5.set (0 + k_3.toNat) (.dead ())).set (0 + k_3.toNat) (sl false ⟨1, false⟩ vs_72b8)) reach_1 d_6 left_2 v_7 (w64 (v_8 + 1)))
  (B20_1 g_0 out_5 reach_1 d_6 left_2 v_7 (w64 (v_8 + 1)))
theorem eG20_2 {g_0 : List TV} {out_5 : List TV} {reach_1 : List TV} {d_6 : Int} {left_2 : List TV} {k_3 : Int} {v_7 : Int} {v_8 : Int} {v_4 : Bool} {r : Res} (h : S cx 20 (NG20_2 g_0 out_5 reach_1 d_6 left_2 k_3 v_7 v_8 v_4) = some r) : S cx 20 (G20_2 g_0 out_5 reach_1 d_6 left_2 k_3 v_7 v_8 v_4) = some r :=
  pw_of (fun call hd hb pt rg => by kernel_rfl) h
noncomputable def EH21_0 (g_1 : List TV) (v_0 : List TV) (v_2 : Int) : Env := [.un, .un, .val [] (.pt false () (.st [sl false ⟨1, true⟩ ([])])), .val [] (.pt false () (.st [sl false ⟨1, true⟩ g_1])), .un, .un, .un, .un, .un, .val [] (sl true ⟨4, true⟩ v_0), .val [] (i64 ((v_0.length : Nat) : Int)), .val [] (i64 v_2)] ++ uns 23
noncomputable abbrev H21_0 (g_1 : List TV) (v_0 : List TV) (v_2 : Int) : Nd := .head [1, 1, 0, 1, 2] (EH21_0 g_1 v_0 v_2)
noncomputable abbrev B21_0 (g_1 : List TV) (v_0 : List TV) (v_2 : Int) : Nd := .back [1, 1, 0, 1, 2] (EH21_0 g_1 v_0 v_2)
noncomputable def EH21_1 (g_4 : List TV) (l_2 : List TV) (v_0 : List TV) (v_5 : Int) (v_1 : List TV) (v_3 : Int) : Env := [.un, .un, .val [] (.pt false () (.st [sl false ⟨1, true⟩ ([])])), .val [] (.pt false () (.st [sl false ⟨1, true⟩ g_4])), .un, .un, .val [] (sl false ⟨1, false⟩ l_2), .un, .un, .val [] (sl true ⟨4, true⟩ v_0), .val [] (i64 ((v_0.length : Nat) : Int)), .val [] (i64 v_5), .un, .un, .un, .un, .val [] (sl true ⟨1, false⟩ v_1), .val [] (i64 ((v_1.length : Nat) : Int)), .val [] (i64 v_3)] ++ uns 16
noncomputable abbrev H21_1 (g_4 : List TV) (l_2 : List TV) (v_0 : List TV) (v_5 : Int) (v_1 : List TV) (v_3 : Int) : Nd := .head [1, 1, 0, 1, 2, 5, 1, 1, 0, 2, 1, 1, 0, 1, 2] (EH21_1 g_4 l_2 v_0 v_5 v_1 v_3)
noncomputable abbrev B21_1 (g_4 : List TV) (l_2 : List TV) (v_0 : List TV) (v_5 : Int) (v_1 : List TV) (v_3 : Int) : Nd := .back [1, 1, 0, 1, 2, 5, 1, 1, 0, 2, 1, 1, 0, 1, 2] (EH21_1 g_4 l_2 v_0 v_5 v_1 v_3)
noncomputable def N21 (f_0 : List TV) : Nd :=
  H21_0 ([]) f_0 0
theorem e21 {f_0 : List TV} {r : Res} (h : S cx 21 (N21 f_0) = some r) : tw cx 21 [sl true ⟨4, true⟩ f_0] = some r :=
  tw_of (fun call hd hb pt rg => by kernel_rfl) h
noncomputable def NH21_0 (g_1 : List TV) (v_0 : List TV) (v_2 : Int) : Nd :=
  .bif (decide (v_2 < ((v_0.length : Nat) : Int)))
  (.ck (decide ((0 : Int) ≤ v_2) && decide (v_2 < ((v_0.length : Nat) : Int))) <|
    V4 (v_0.getD (0 + v_2.toNat) (.dead ())) fun codes_cad5 go_acbc test_a22b nexts_e1c3 =>
    H21_1 g_1 ([]) v_0 v_2 nexts_e1c3 0)
  (.ret [.st [sl false ⟨1, true⟩ g_1]] [])
theorem eH21_0 {g_1 : List TV} {v_0 : List TV} {v_2 : Int} {r : Res} (h : S cx 21 (NH21_0 g_1 v_0 v_2) = some r) : S cx 21 (H21_0 g_1 v_0 v_2) = some r :=
  hw_of (fun call hd hb pt rg => by kernel_rfl) h
noncomputable def NH21_1 (g_4 : List TV) (l_2 : List TV) (v_0 : List TV) (v_5 : Int) (v_1 : List TV) (v_3 : Int) : Nd :=
  .bif (decide (v_3 < ((v_1.length : Nat) : Int)))
  (.ck (decide ((0 : Int) ≤ v_3) && decide (v_3 < ((v_1.length : Nat) : Int))) <|
    .int .i64 (v_1.getD (0 + v_3.toNat) (.dead ())) fun x_c303 =>
    C48 l_2 x_c303 fun vs_f0bd =>
    B21_1 g_4 vs_f0bd v_0 v_5 v_1 (w64 (v_3 + 1)))
  (.ck (decide ((g_4.length + ([sl false ⟨1, false⟩ l_2] : List TV).length) * 24 < lim)) <|
    B21_0 (g_4 ++ ([sl false ⟨1, false⟩ l_2])) v_0 (w64 (v_5 + 1)))
theorem eH21_1 {g_4 : List TV} {l_2 : List TV} {v_0 : List TV} {v_5 : Int} {v_1 : List TV} {v_3 : Int} {r : Res} (h : S cx 21 (NH21_1 g_4 l_2 v_0 v_5 v_1 v_3) = some r) : S cx 21 (H21_1 g_4 l_2 v_0 v_5 v_1 v_3) = some r :=
  hw_of (fun call hd hb pt rg => by kernel_rfl) h
noncomputable def EG22_0 (order_0 : List TV) (s_1 : List TV) (s_2 : List TV) : Env := [.un, .un, .un, .un, .val [] (sl false ⟨1, false⟩ order_0), .val [] (.pt false () (.st [sl true ⟨4, true⟩ s_1, sl false ⟨1, true⟩ s_2, sl false ⟨1, false⟩ (List.replicate (((s_1.length : Nat) : Int).toNat) (i64 0)), sl false ⟨1, true⟩ (List.replicate (((s_1.length : Nat) : Int).toNat) (sl false ⟨1, false⟩ ([]))), sl false ⟨3, true⟩ ([])]))] ++ uns 110
noncomputable abbrev G22_0 (order_0 : List TV) (s_1 : List TV) (s_2 : List TV) : Nd := .go [1, 1, 1, 1, 1] (EG22_0 order_0 s_1 s_2)
noncomputable def EH22_1 (order_0 : List TV) (s_1 : List TV) (s_2 : List TV) (s_3 : List TV) (v_4 : Int) : Env := [.un, .un, .un, .un, .val [] (sl false ⟨1, false⟩ order_0), .val [] (.pt false () (.st [sl true ⟨4, true⟩ s_1, sl false ⟨1, true⟩ s_2, sl false ⟨1, false⟩ s_3, sl false ⟨1, true⟩ (List.replicate (((s_1.length : Nat) : Int).toNat) (sl false ⟨1, false⟩ ([]))), sl false ⟨3, true⟩ ([])]))] ++ uns 33 ++ [.ref 4 [] none 34 false, .val [] (i64 ((order_0.length : Nat) : Int)), .val [] (i64 v_4)] ++ uns 74
noncomputable abbrev H22_1 (order_0 : List TV) (s_1 : List TV) (s_2 : List TV) (s_3 : List TV) (v_4 : Int) : Nd := .head [1, 1, 1, 1, 1, 0, 1, 2] (EH22_1 order_0 s_1 s_2 s_3 v_4)
noncomputable abbrev B22_1 (order_0 : List TV) (s_1 : List TV) (s_2 : List TV) (s_3 : List TV) (v_4 : Int) : Nd := .back [1, 1, 1, 1, 1, 0, 1, 2] (EH22_1 order_0 s_1 s_2 s_3 v_4)
noncomputable def EH22_2 (order_0 : List TV) (s_1 : List TV) (s_2 : List TV) (s_5 : List TV) (s_3 : List TV) (v_4 : Int) : Env := [.un, .un, .un, .un, .val [] (sl false ⟨1, false⟩ order_0), .val [] (.pt false () (.st [sl true ⟨4, true⟩ s_1, sl false ⟨1, true⟩ s_2, sl false ⟨1, false⟩ s_5, sl false ⟨1, true⟩ s_3, sl false ⟨3, true⟩ ([])]))] ++ uns 49 ++ [.ref 4 [] (some (1, (((order_0.length : Nat) : Int) - 1).toNat)) 34 false, .val [] (i64 (((((order_0.length : Nat) : Int) - 1).toNat : Nat) : Int)), .val [] (i64 v_4)] ++ uns 58
noncomputable abbrev H22_2 (order_0 : List TV) (s_1 : List TV) (s_2 : List TV) (s_5 : List TV) (s_3 : List TV) (v_4 : Int) : Nd := .head [1, 1, 1, 1, 1, 1, 0, 1, 2] (EH22_2 order_0 s_1 s_2 s_5 s_3 v_4)
noncomputable abbrev B22_2 (order_0 : List TV) (s_1 : List TV) (s_2 : List TV) (s_5 : List TV) (s_3 : List TV) (v_4 : Int) : Nd := .back [1, 1, 1, 1, 1, 1, 0, 1, 2] (EH22_2 order_0 s_1 s_2 s_5 s_3 v_4)
noncomputable def EH22_3 (order_0 : List TV) (s_1 : List TV) (s_2 : List TV) (s_7 : List TV) (s_8 : List TV) (k_3 : Int) (near_10 : Int) (most_5 : Int) (v_9 : Int) (v_4 : Int) (v_6 : Int) : Env := [.un, .un, .un, .un, .val [] (sl false ⟨1, false⟩ order_0), .val [] (.pt false () (.st [sl true ⟨4, true⟩ s_1, sl false ⟨1, true⟩ s_2, sl false ⟨1, false⟩ s_7, sl false ⟨1, true⟩ s_8, sl false ⟨3, true⟩ ([])])), .un, .un, .un, .val [] (i64 k_3), .val [] (i64 near_10), .val [] (i64 most_5)] ++ uns 43 ++ [.ref 4 [] (some (1, (((order_0.length : Nat) : Int) - 1).toNat)) 34 false, .val [] (i64 (((((order_0.length : Nat) : Int) - 1).toNat : Nat) : Int)), .val [] (i64 v_9)] ++ uns 9 ++ [.ref 5 [.d 81, .f 81 1, .i 66 (0 + k_3.toNat)] none 66 false, .val [] (i64 v_4), .val [] (i64 v_6)] ++ uns 46
noncomputable abbrev H22_3 (order_0 : List TV) (s_1 : List TV) (s_2 : List TV) (s_7 : List TV) (s_8 : List TV) (k_3 : Int) (near_10 : Int) (most_5 : Int) (v_9 : Int) (v_4 : Int) (v_6 : Int) : Nd := .head [1, 1, 1, 1, 1, 1, 0, 1, 2, 5, 1, 1, 0, 2, 1, 1, 0, 1, 2] (EH22_3 order_0 s_1 s_2 s_7 s_8 k_3 near_10 most_5 v_9 v_4 v_6)
noncomputable abbrev B22_3 (order_0 : List TV) (s_1 : List TV) (s_2 : List TV) (s_7 : List TV) (s_8 : List TV) (k_3 : Int) (near_10 : Int) (most_5 : Int) (v_9 : Int) (v_4 : Int) (v_6 : Int) : Nd := .back [1, 1, 1, 1, 1, 1, 0, 1, 2, 5, 1, 1, 0, 2, 1, 1, 0, 1, 2] (EH22_3 order_0 s_1 s_2 s_7 s_8 k_3 near_10 most_5 v_9 v_4 v_6)
noncomputable def N22_s0 (f_0 : List TV) (nexts_ad97 : List TV) (vs_5d35 : List TV) : Nd :=
  C50 nexts_ad97 fun vs_4057 =>
  .ck (deepL [sl false ⟨1, true⟩ vs_4057]) <|
  G22_0 vs_5d35 f_0 vs_4057
noncomputable def N22_s1 (f_0 : List TV) (nexts_ad97 : List TV) (vs_5d35 : List TV) : Nd :=
  .ck (decide ((0 : Int) ≤ ((f_0.length : Nat) : Int)) && decide (((f_0.length : Nat) : Int) ≤ ((f_0.length : Nat) : Int)) && decide (((f_0.length : Nat) : Int) * 24 < (lim : Int)) && decide (((f_0.length : Nat) : Int) < 9223372036854775807) && true && true) <|
  N22_s0 f_0 nexts_ad97 vs_5d35
noncomputable def N22_s2 (f_0 : List TV) (nexts_ad97 : List TV) (vs_5d35 : List TV) : Nd :=
  .amb2 
  (C50 nexts_ad97 fun vs_4057 =>
    .ck (deepL [sl false ⟨1, true⟩ vs_4057]) <|
    .ck (decide ((0 : Int) ≤ ((f_0.length : Nat) : Int)) && decide (((f_0.length : Nat) : Int) ≤ ((f_0.length : Nat) : Int)) && decide (((f_0.length : Nat) : Int) * 24 < (lim : Int)) && decide (((f_0.length : Nat) : Int) < 9223372036854775807) && true && true) <|
    G22_0 vs_5d35 f_0 vs_4057) 
  (N22_s1 f_0 nexts_ad97 vs_5d35)
noncomputable def N22_s3 (f_0 : List TV) (nexts_ad97 : List TV) (vs_5d35 : List TV) : Nd :=
  .ck (decide ((0 : Int) ≤ ((f_0.length : Nat) : Int)) && decide (((f_0.length : Nat) : Int) ≤ ((f_0.length : Nat) : Int)) && decide (((f_0.length : Nat) : Int) * 8 < (lim : Int)) && decide (((f_0.length : Nat) : Int) < 9223372036854775807) && true && true) <|
  N22_s0 f_0 nexts_ad97 vs_5d35
noncomputable def N22_s4 (f_0 : List TV) (nexts_ad97 : List TV) (vs_5d35 : List TV) : Nd :=
  .amb2 
  (C50 nexts_ad97 fun vs_4057 =>
    .ck (deepL [sl false ⟨1, true⟩ vs_4057]) <|
    .ck (decide ((0 : Int) ≤ ((f_0.length : Nat) : Int)) && decide (((f_0.length : Nat) : Int) ≤ ((f_0.length : Nat) : Int)) && decide (((f_0.length : Nat) : Int) * 8 < (lim : Int)) && decide (((f_0.length : Nat) : Int) < 9223372036854775807) && true && true) <|
    G22_0 vs_5d35 f_0 vs_4057) 
  (N22_s3 f_0 nexts_ad97 vs_5d35)
noncomputable def N22 (f_0 : List TV) : Nd :=
  C16 f_0 fun v_8b21 =>
  .bif ((!v_8b21))
  (.ret [tnil] [])
  (C17 f_0 fun v_ec50 =>
    .bif ((!v_ec50))
    (.ret [tnil] [])
    (C40 f_0 fun vs_edc4 =>
      C42 vs_edc4 fun nexts_ad97 =>
      C49 nexts_ad97 fun vs_5d35 =>
      .amb3 
      (.amb3 
        (C50 nexts_ad97 fun vs_4057 =>
          .ck (deepL [sl false ⟨1, true⟩ vs_4057]) <|
          .amb2 
          (.ck (decide ((0 : Int) ≤ ((f_0.length : Nat) : Int)) && decide (((f_0.length : Nat) : Int) ≤ ((f_0.length : Nat) : Int)) && decide (((f_0.length : Nat) : Int) * 8 < (lim : Int)) && decide (((f_0.length : Nat) : Int) < 9223372036854775807) && true && true) <|
            .ck (decide ((0 : Int) ≤ ((f_0.length : Nat) : Int)) && decide (((f_0.length : Nat) : Int) ≤ ((f_0.length : Nat) : Int)) && decide (((f_0.length : Nat) : Int) * 24 < (lim : Int)) && decide (((f_0.length : Nat) : Int) < 9223372036854775807) && true && true) <|
            G22_0 vs_5d35 f_0 vs_4057) 
          (.ck (decide ((0 : Int) ≤ ((f_0.length : Nat) : Int)) && decide (((f_0.length : Nat) : Int) ≤ ((f_0.length : Nat) : Int)) && decide (((f_0.length : Nat) : Int) * 24 < (lim : Int)) && decide (((f_0.length : Nat) : Int) < 9223372036854775807) && true && true) <|
            .ck (decide ((0 : Int) ≤ ((f_0.length : Nat) : Int)) && decide (((f_0.length : Nat) : Int) ≤ ((f_0.length : Nat) : Int)) && decide (((f_0.length : Nat) : Int) * 8 < (lim : Int)) && decide (((f_0.length : Nat) : Int) < 9223372036854775807) && true && true) <|
            G22_0 vs_5d35 f_0 vs_4057)) 
        (.ck (decide ((0 : Int) ≤ ((f_0.length : Nat) : Int)) && decide (((f_0.length : Nat) : Int) ≤ ((f_0.length : Nat) : Int)) && decide (((f_0.length : Nat) : Int) * 8 < (lim : Int)) && decide (((f_0.length : Nat) : Int) < 9223372036854775807) && true && true) <|
          N22_s2 f_0 nexts_ad97 vs_5d35) 
        (.ck (decide ((0 : Int) ≤ ((f_0.length : Nat) : Int)) && decide (((f_0.length : Nat) : Int) ≤ ((f_0.length : Nat) : Int)) && decide (((f_0.length : Nat) : Int) * 24 < (lim : Int)) && decide (((f_0.length : Nat) : Int) < 9223372036854775807) && true && true) <|
          N22_s4 f_0 nexts_ad97 vs_5d35)) 
      (.ck (decide ((0 : Int) ≤ ((f_0.length : Nat) : Int)) && decide (((f_0.length : Nat) : Int) ≤ ((f_0.length : Nat) : Int)) && decide (((f_0.length : Nat) : Int) * 8 < (lim : Int)) && decide (((f_0.length : Nat) : Int) < 9223372036854775807) && true && true) <|
        .amb2 
        (N22_s2 f_0 nexts_ad97 vs_5d35) 
        (N22_s1 f_0 nexts_ad97 vs_5d35)) 
      (.ck (decide ((0 : Int) ≤ ((f_0.length : Nat) : Int)) && decide (((f_0.length : Nat) : Int) ≤ ((f_0.length : Nat) : Int)) && decide (((f_0.length : Nat) : Int) * 24 < (lim : Int)) && decide (((f_0.length : Nat) : Int) < 9223372036854775807) && true && true) <|
        .amb2 
        (N22_s4 f_0 nexts_ad97 vs_5d35) 
        (N22_s3 f_0 nexts_ad97 vs_5d35))))
theorem e22 {f_0 : List TV} {r : Res} (h : S cx 22 (N22 f_0) = some r) : tw cx 22 [sl true ⟨4, true⟩ f_0] = some r :=
  tw_of (fun call hd hb pt rg => by kernel_rfl) h
noncomputable def NG22_0 (order_0 : List TV) (s_1 : List TV) (s_2 : List TV) : Nd :=
  H22_1 order_0 s_1 s_2 (List.replicate (((s_1.length : Nat) : Int).toNat) (i64 0)) 0
theorem eG22_0 {order_0 : List TV} {s_1 : List TV} {s_2 : List TV} {r : Res} (h : S cx 22 (NG22_0 order_0 s_1 s_2) = some r) : S cx 22 (G22_0 order_0 s_1 s_2) = some r :=
  pw_of (fun call hd hb pt rg => by kernel_rfl) h
noncomputable def NH22_1 (order_0 : List TV) (s_1 : List TV) (s_2 : List TV) (s_3 : List TV) (v_4 : Int) : Nd :=
  .bif (decide (v_4 < ((order_0.length : Nat) : Int)))
  (.ck (decide ((0 : Int) ≤ v_4) && decide (v_4 < ((order_0.length : Nat) : Int))) <|
    .int .i64 (order_0.getD (0 + v_4.toNat) (.dead ())) fun x_8212 =>
    .ck (decide ((0 : Int) ≤ x_8212) && decide (x_8212 < ((s_3.length : Nat) : Int))) <|
    B22_1 order_0 s_1 s_2 (s_3.set (0 + x_8212.toNat) (i64 v_4)) (w64 (v_4 + 1)))
  (.ck (decide ((1 : Int) ≤ ((order_0.length : Nat) : Int)) && decide (((order_0.length : Nat) : Int) ≤ ((order_0.length : Nat) : Int))) <|
    H22_2 order_0 s_1 s_2 s_3 (List.replicate (((s_1.length : Nat) : Int).toNat) (sl false ⟨1, false⟩ ([]))) 0)
theorem eH22_1 {order_0 : List TV} {s_1 : List TV} {s_2 : List TV} {s_3 : List TV} {v_4 : Int} {r : Res} (h : S cx 22 (NH22_1 order_0 s_1 s_2 s_3 v_4) = some r) : S cx 22 (H22_1 order_0 s_1 s_2 s_3 v_4) = some r :=
  hw_of (fun call hd hb pt rg => by kernel_rfl) h
noncomputable def NH22_2 (order_0 : List TV) (s_1 : List TV) (s_2 : List TV) (s_5 : List TV) (s_3 : List TV) (v_4 : Int) : Nd :=
  .bif (decide (v_4 < (((((order_0.length : Nat) : Int) - 1).toNat : Nat) : Int)))
  (.ck (decide ((0 : Int) ≤ v_4) && decide (v_4 < (((((order_0.length : Nat) : Int) - 1).toNat : Nat) : Int))) <|
    .int .i64 (order_0.getD (1 + v_4.toNat) (.dead ())) fun x_fab6 =>
    .ck (decide ((0 : Int) ≤ x_fab6) && decide (x_fab6 < ((s_2.length : Nat) : Int))) <|
    .slO ⟨1, false⟩ (s_2.getD (0 + x_fab6.toNat) (.dead ())) fun vs_67ef =>
    .slB ⟨1, false⟩ (s_2.getD (0 + x_fab6.toNat) (.dead ())) fun r xs_351d => bif r then 
    (H22_3 order_0 s_1 s_2 s_5 s_3 x_fab6 0 0 v_4 ((xs_351d.length : Nat) : Int) 0)
    else (H22_3 order_0 s_1 s_2 s_5 s_3 x_fab6 0 0 v_4 ((xs_351d.length : Nat) : Int) 0))
  (.ret [.pt false () (.st [sl true ⟨4, true⟩ s_1, sl false ⟨1, true⟩ s_2, sl false ⟨1, false⟩ s_5, sl false ⟨1, true⟩ s_3, sl false ⟨3, true⟩ ([])])] [])
theorem eH22_2 {order_0 : List TV} {s_1 : List TV} {s_2 : List TV} {s_5 : List TV} {s_3 : List TV} {v_4 : Int} {r : Res} (h : S cx 22 (NH22_2 order_0 s_1 s_2 s_5 s_3 v_4) = some r) : S cx 22 (H22_2 order_0 s_1 s_2 s_5 s_3 v_4) = some r :=
  hw_of (fun call hd hb pt rg => by kernel_rfl) h
noncomputable def NH22_3_s0 (order_0 : List TV) (s_1 : List TV) (s_2 : List TV) (s_7 : List TV) (s_8 : List TV) (k_3 : Int) (near_10 : Int) (most_5 : Int) (v_9 : Int) (v_4 : Int) (v_6 : Int) (xs_41d0_2 : List TV) : Nd :=
  .bool (xs_41d0_2.getD (0 + v_6.toNat) (.dead ())) fun x_6c5c =>
  .ck (decide ((0 : Int) ≤ v_6) && decide (v_6 < ((s_2.length : Nat) : Int))) <|
  .slO ⟨1, false⟩ (s_2.getD (0 + v_6.toNat) (.dead ())) fun vs_c3ff =>
  .slO ⟨1, false⟩ (s_2.getD (0 + v_6.toNat) (.dead ())) fun vs_c3ff_2 =>
  C51 vs_c3ff_2 fun vs_9822 =>
  .bif (x_6c5c)
  (.bif ((v_6 != k_3))
    (.bif (decide (((vs_9822.length : Nat) : Int) > most_5))
      (B22_3 order_0 s_1 s_2 s_7 s_8 k_3 v_6 ((vs_9822.length : Nat) : Int) v_9 v_4 (w64 (v_6 + 1)))
      (B22_3 order_0 s_1 s_2 s_7 s_8 k_3 near_10 most_5 v_9 v_4 (w64 (v_6 + 1))))
    (B22_3 order_0 s_1 s_2 s_7 s_8 k_3 near_10 most_5 v_9 v_4 (w64 (v_6 + 1))))
  (B22_3 order_0 s_1 s_2 s_7 s_8 k_3 near_10 most_5 v_9 v_4 (w64 (v_6 + 1)))
noncomputable def NH22_3_s1 (order_0 : List TV) (s_1 : List TV) (s_2 : List TV) (s_7 : List TV) (s_8 : List TV) (k_3 : Int) (near_10 : Int) (most_5 : Int) (v_9 : Int) (v_4 : Int) (v_6 : Int) (xs_41d0 : List TV) : Nd :=
  .ck (decide ((0 : Int) ≤ v_6) && decide (v_6 < ((xs_41d0.length : Nat) : Int))) <|
  .slB ⟨1, false⟩ (s_2.getD (0 + k_3.toNat) (.dead ())) fun r xs_41d0_2 => bif r then 
  (NH22_3_s0 order_0 s_1 s_2 s_7 s_8 k_3 near_10 most_5 v_9 v_4 v_6 xs_41d0_2)
  else (NH22_3_s0 order_0 s_1 s_2 s_7 s_8 k_3 near_10 most_5 v_9 v_4 v_6 xs_41d0_2)
noncomputable def NH22_3_s2 (order_0 : List TV) (s_1 : List TV) (s_2 : List TV) (s_7 : List TV) (s_8 : List TV) (k_3 : Int) (near_10 : Int) (v_9 : Int) : Nd :=
  .slO ⟨1, false⟩ (s_8.getD (0 + near_10.toNat) (.dead ())) fun vs_0756_2 =>
  .ck (decide ((vs_0756_2.length + ([i64 k_3] : List TV).length) * 8 < lim)) <|
  .ck (decide ((0 : Int) ≤ near_10) && decide (near_10 < (((s_8.set (0 + near_10.toNat) (.dead ())).length : Nat) : Int))) <|
  B22_2 order_0 s_1 s_2 s_7 ((s_8.set (0 + near_10.toNat) (.dead ())).set (0 + near_10.toNat) (sl false ⟨1, false⟩ (vs_0756_2 ++ ([i64 k_3])))) (w64 (v_9 + 1))
noncomputable def NH22_3 (order_0 : List TV) (s_1 : List TV) (s_2 : List TV) (s_7 : List TV) (s_8 : List TV) (k_3 : Int) (near_10 : Int) (most_5 : Int) (v_9 : Int) (v_4 : Int) (v_6 : Int) : Nd :=
  .bif (decide (v_6 < v_4))
  (.slB ⟨1, false⟩ (s_2.getD (0 + k_3.toNat) (.dead ())) fun r xs_41d0 => bif r then 
    (NH22_3_s1 order_0 s_1 s_2 s_7 s_8 k_3 near_10 most_5 v_9 v_4 v_6 xs_41d0)
    else (NH22_3_s1 order_0 s_1 s_2 s_7 s_8 k_3 near_10 most_5 v_9 v_4 v_6 xs_41d0))
  (.ck (decide ((0 : Int) ≤ near_10) && decide (near_10 < ((s_8.length : Nat) : Int))) <|
    .slO ⟨1, false⟩ (s_8.getD (0 + near_10.toNat) (.dead ())) fun vs_0756 =>
    .amb2 
    (NH22_3_s2 order_0 s_1 s_2 s_7 s_8 k_3 near_10 v_9) 
    (.amb2 
      (NH22_3_s2 order_0 s_1 s_2 s_7 s_8 k_3 near_10 v_9) 
      (NH22_3_s2 order_0 s_1 s_2 s_7 s_8 k_3 near_10 v_9)))
theorem eH22_3 {order_0 : List TV} {s_1 : List TV} {s_2 : List TV} {s_7 : List TV} {s_8 : List TV} {k_3 : Int} {near_10 : Int} {most_5 : Int} {v_9 : Int} {v_4 : Int} {v_6 : Int} {r : Res} (h : S cx 22 (NH22_3 order_0 s_1 s_2 s_7 s_8 k_3 near_10 most_5 v_9 v_4 v_6) = some r) : S cx 22 (H22_3 order_0 s_1 s_2 s_7 s_8 k_3 near_10 most_5 v_9 v_4 v_6) = some r :=
  hw_of (fun call hd hb pt rg => by kernel_rfl) h
noncomputable def N23 (n_0 : Int) (low_1 : Int) (high_2 : Int) : Nd :=
  .bif (decide (n_0 ≥ low_1))
  (.ret [tb (decide (n_0 ≤ high_2))] [])
  (.ret [tb false] [])
theorem e23 {n_0 : Int} {low_1 : Int} {high_2 : Int} {r : Res} (h : S cx 23 (N23 n_0 low_1 high_2) = some r) : tw cx 23 [i64 n_0, i64 low_1, i64 high_2] = some r :=
  tw_of (fun call hd hb pt rg => by kernel_rfl) h
noncomputable def EH24_0 (s_0 : List TV) (s_1 : List TV) (s_2 : List TV) (s_3 : List TV) (s_4 : List TV) (k_5 : Int) (many_7 : Int) (v_6 : Int) : Env := [.val [] (.pt true () (.st [sl true ⟨4, true⟩ s_0, sl false ⟨1, true⟩ s_1, sl false ⟨1, false⟩ s_2, sl false ⟨1, true⟩ s_3, sl false ⟨3, true⟩ s_4])), .val [] (i64 k_5), .un, .un, .un, .val [] (i64 many_7)] ++ uns 7 ++ [.val [] (sl true ⟨4, true⟩ s_0), .val [] (i64 ((s_0.length : Nat) : Int)), .val [] (i64 v_6)] ++ uns 31
noncomputable abbrev H24_0 (s_0 : List TV) (s_1 : List TV) (s_2 : List TV) (s_3 : List TV) (s_4 : List TV) (k_5 : Int) (many_7 : Int) (v_6 : Int) : Nd := .head [1, 1, 0, 1, 2] (EH24_0 s_0 s_1 s_2 s_3 s_4 k_5 many_7 v_6)
noncomputable abbrev B24_0 (s_0 : List TV) (s_1 : List TV) (s_2 : List TV) (s_3 : List TV) (s_4 : List TV) (k_5 : Int) (many_7 : Int) (v_6 : Int) : Nd := .back [1, 1, 0, 1, 2] (EH24_0 s_0 s_1 s_2 s_3 s_4 k_5 many_7 v_6)
noncomputable def EH24_1 (s_0 : List TV) (s_1 : List TV) (s_2 : List TV) (s_3 : List TV) (s_4 : List TV) (k_5 : Int) (many_11 : Int) (from_12 : Int) (b_6 : List TV) (b_7 : Int) (b_8 : Int) (b_9 : List TV) (v_13 : Int) (v_10 : Int) : Env := [.val [] (.pt true () (.st [sl true ⟨4, true⟩ s_0, sl false ⟨1, true⟩ s_1, sl false ⟨1, false⟩ s_2, sl false ⟨1, true⟩ s_3, sl false ⟨3, true⟩ s_4])), .val [] (i64 k_5), .un, .un, .un, .val [] (i64 many_11), .val [] (i64 from_12), .val [] (.pt false () (.st [sl true ⟨6, false⟩ b_6, i64 b_7, i64 b_8, sl true ⟨1, false⟩ b_9])), .un, .un, .un, .un, .un, .val [] (sl true ⟨4, true⟩ s_0), .val [] (i64 ((s_0.length : Nat) : Int)), .val [] (i64 v_13), .un, .un, .un, .un, .un, .val [] (sl true ⟨1, false⟩ b_9), .val [] (i64 ((b_9.length : Nat) : Int)), .val [] (i64 v_10)] ++ uns 23
noncomputable abbrev H24_1 (s_0 : List TV) (s_1 : List TV) (s_2 : List TV) (s_3 : List TV) (s_4 : List TV) (k_5 : Int) (many_11 : Int) (from_12 : Int) (b_6 : List TV) (b_7 : Int) (b_8 : Int) (b_9 : List TV) (v_13 : Int) (v_10 : Int) : Nd := .head [1, 1, 0, 1, 2, 5, 1, 1, 0, 2, 1, 1, 2] (EH24_1 s_0 s_1 s_2 s_3 s_4 k_5 many_11 from_12 b_6 b_7 b_8 b_9 v_13 v_10)
noncomputable abbrev B24_1 (s_0 : List TV) (s_1 : List TV) (s_2 : List TV) (s_3 : List TV) (s_4 : List TV) (k_5 : Int) (many_11 : Int) (from_12 : Int) (b_6 : List TV) (b_7 : Int) (b_8 : Int) (b_9 : List TV) (v_13 : Int) (v_10 : Int) : Nd := .back [1, 1, 0, 1, 2, 5, 1, 1, 0, 2, 1, 1, 2] (EH24_1 s_0 s_1 s_2 s_3 s_4 k_5 many_11 from_12 b_6 b_7 b_8 b_9 v_13 v_10)
noncomputable def N24 (s_0 : List TV) (s_1 : List TV) (s_2 : List TV) (s_3 : List TV) (s_4 : List TV) (k_5 : Int) : Nd :=
  H24_0 s_0 s_1 s_2 s_3 s_4 k_5 0 0
theorem e24 {s_0 : List TV} {s_1 : List TV} {s_2 : List TV} {s_3 : List TV} {s_4 : List TV} {k_5 : Int} {r : Res} (h : S cx 24 (N24 s_0 s_1 s_2 s_3 s_4 k_5) = some r) : tw cx 24 [.pt true () (.st [sl true ⟨4, true⟩ s_0, sl false ⟨1, true⟩ s_1, sl false ⟨1, false⟩ s_2, sl false ⟨1, true⟩ s_3, sl false ⟨3, true⟩ s_4]), i64 k_5] = some r :=
  tw_of (fun call hd hb pt rg => by kernel_rfl) h
noncomputable def NH24_0 (s_0 : List TV) (s_1 : List TV) (s_2 : List TV) (s_3 : List TV) (s_4 : List TV) (k_5 : Int) (many_7 : Int) (v_6 : Int) : Nd :=
  .bif (decide (v_6 < ((s_0.length : Nat) : Int)))
  (.ck (decide ((0 : Int) ≤ v_6) && decide (v_6 < ((s_0.length : Nat) : Int))) <|
    V4 (s_0.getD (0 + v_6.toNat) (.dead ())) fun codes_deb6 go_f378 test_b630 nexts_477b =>
    H24_1 s_0 s_1 s_2 s_3 s_4 k_5 many_7 v_6 codes_deb6 go_f378 test_b630 nexts_477b v_6 0)
  (.ret [tb (decide (many_7 > 1))] [])
theorem eH24_0 {s_0 : List TV} {s_1 : List TV} {s_2 : List TV} {s_3 : List TV} {s_4 : List TV} {k_5 : Int} {many_7 : Int} {v_6 : Int} {r : Res} (h : S cx 24 (NH24_0 s_0 s_1 s_2 s_3 s_4 k_5 many_7 v_6) = some r) : S cx 24 (H24_0 s_0 s_1 s_2 s_3 s_4 k_5 many_7 v_6) = some r :=
  hw_of (fun call hd hb pt rg => by kernel_rfl) h
noncomputable def NH24_1 (s_0 : List TV) (s_1 : List TV) (s_2 : List TV) (s_3 : List TV) (s_4 : List TV) (k_5 : Int) (many_11 : Int) (from_12 : Int) (b_6 : List TV) (b_7 : Int) (b_8 : Int) (b_9 : List TV) (v_13 : Int) (v_10 : Int) : Nd :=
  .bif (decide (v_10 < ((b_9.length : Nat) : Int)))
  (.ck (decide ((0 : Int) ≤ v_10) && decide (v_10 < ((b_9.length : Nat) : Int))) <|
    .int .i64 (b_9.getD (0 + v_10.toNat) (.dead ())) fun x_c47a =>
    .bif ((x_c47a != k_5))
    (B24_1 s_0 s_1 s_2 s_3 s_4 k_5 many_11 from_12 b_6 b_7 b_8 b_9 v_13 (w64 (v_10 + 1)))
    (.bif ((b_7 == 5))
      (.ret [tb true] [])
      (C53 s_0 s_1 s_2 s_3 s_4 from_12 k_5 fun v_45d5 =>
        C52 (!v_45d5) fun v_5c96 =>
        B24_1 s_0 s_1 s_2 s_3 s_4 k_5 (w64 (many_11 + v_5c96)) from_12 b_6 b_7 b_8 b_9 v_13 (w64 (v_10 + 1)))))
  (B24_0 s_0 s_1 s_2 s_3 s_4 k_5 many_11 (w64 (v_13 + 1)))
theorem eH24_1 {s_0 : List TV} {s_1 : List TV} {s_2 : List TV} {s_3 : List TV} {s_4 : List TV} {k_5 : Int} {many_11 : Int} {from_12 : Int} {b_6 : List TV} {b_7 : Int} {b_8 : Int} {b_9 : List TV} {v_13 : Int} {v_10 : Int} {r : Res} (h : S cx 24 (NH24_1 s_0 s_1 s_2 s_3 s_4 k_5 many_11 from_12 b_6 b_7 b_8 b_9 v_13 v_10) = some r) : S cx 24 (H24_1 s_0 s_1 s_2 s_3 s_4 k_5 many_11 from_12 b_6 b_7 b_8 b_9 v_13 v_10) = some r :=
  hw_of (fun call hd hb pt rg => by kernel_rfl) h
noncomputable def N25 (a_0 : List TV) (left_1 : Int) : Nd :=
  .bif (decide (w64 (left_1 - ((a_0.length : Nat) : Int)) < 0))
  (.ret [i64 (-1)] [])
  (.ret [i64 (w64 (left_1 - ((a_0.length : Nat) : Int)))] [])
theorem e25 {a_0 : List TV} {left_1 : Int} {r : Res} (h : S cx 25 (N25 a_0 left_1) = some r) : tw cx 25 [sl true ⟨6, false⟩ a_0, i64 left_1] = some r :=
  tw_of (fun call hd hb pt rg => by kernel_rfl) h
noncomputable def N26 (a_0 : List TV) (left_1 : Int) : Nd :=
  .bif (decide (w64 (left_1 - ((a_0.length : Nat) : Int)) < 0))
  (.ret [i64 (-1)] [])
  (.ret [i64 (w64 (left_1 - ((a_0.length : Nat) : Int)))] [])
theorem e26 {a_0 : List TV} {left_1 : Int} {r : Res} (h : S cx 26 (N26 a_0 left_1) = some r) : tw cx 26 [sl true ⟨1, false⟩ a_0, i64 left_1] = some r :=
  tw_of (fun call hd hb pt rg => by kernel_rfl) h
noncomputable def EH27_0 (many_0 : Int) (b_1 : List TV) (b_2 : Int) (b_3 : Int) (b_4 : List TV) (v_5 : Int) : Env := [.un, .val [] (i64 many_0), .val [] (.pt false () (.st [sl true ⟨6, false⟩ b_1, i64 b_2, i64 b_3, sl true ⟨1, false⟩ b_4]))] ++ uns 8 ++ [.val [] (sl true ⟨6, false⟩ b_1), .val [] (i64 ((b_1.length : Nat) : Int)), .val [] (i64 v_5)] ++ uns 92
noncomputable abbrev H27_0 (many_0 : Int) (b_1 : List TV) (b_2 : Int) (b_3 : Int) (b_4 : List TV) (v_5 : Int) : Nd := .head [1, 0, 1, 2] (EH27_0 many_0 b_1 b_2 b_3 b_4 v_5)
noncomputable abbrev B27_0 (many_0 : Int) (b_1 : List TV) (b_2 : Int) (b_3 : Int) (b_4 : List TV) (v_5 : Int) : Nd := .back [1, 0, 1, 2] (EH27_0 many_0 b_1 b_2 b_3 b_4 v_5)
noncomputable def EH27_1 (many_0 : Int) (b_1 : List TV) (b_2 : Int) (b_3 : Int) (b_4 : List TV) (v_5 : Int) : Env := [.un, .val [] (i64 many_0), .val [] (.pt false () (.st [sl true ⟨6, false⟩ b_1, i64 b_2, i64 b_3, sl true ⟨1, false⟩ b_4]))] ++ uns 19 ++ [.val [] (sl true ⟨1, false⟩ b_4), .val [] (i64 ((b_4.length : Nat) : Int)), .val [] (i64 v_5)] ++ uns 81
noncomputable abbrev H27_1 (many_0 : Int) (b_1 : List TV) (b_2 : Int) (b_3 : Int) (b_4 : List TV) (v_5 : Int) : Nd := .head [1, 1, 0, 1, 2] (EH27_1 many_0 b_1 b_2 b_3 b_4 v_5)
noncomputable abbrev B27_1 (many_0 : Int) (b_1 : List TV) (b_2 : Int) (b_3 : Int) (b_4 : List TV) (v_5 : Int) : Nd := .back [1, 1, 0, 1, 2] (EH27_1 many_0 b_1 b_2 b_3 b_4 v_5)
noncomputable def N27 (b_0 : List TV) (b_1 : Int) (b_2 : Int) (b_3 : List TV) (many_4 : Int) : Nd :=
  H27_0 many_4 b_0 b_1 b_2 b_3 0
theorem e27 {b_0 : List TV} {b_1 : Int} {b_2 : Int} {b_3 : List TV} {many_4 : Int} {r : Res} (h : S cx 27 (N27 b_0 b_1 b_2 b_3 many_4) = some r) : tw cx 27 [.st [sl true ⟨6, false⟩ b_0, i64 b_1, i64 b_2, sl true ⟨1, false⟩ b_3], i64 many_4] = some r :=
  tw_of (fun call hd hb pt rg => by kernel_rfl) h
noncomputable def NH27_0 (many_0 : Int) (b_1 : List TV) (b_2 : Int) (b_3 : Int) (b_4 : List TV) (v_5 : Int) : Nd :=
  .bif (decide (v_5 < ((b_1.length : Nat) : Int)))
  (.ck (decide ((0 : Int) ≤ v_5) && decide (v_5 < ((b_1.length : Nat) : Int))) <|
    V6 (b_1.getD (0 + v_5.toNat) (.dead ())) fun op_8687 do_4265 dst_27ee a_051b b_f5b0 n_6b6c =>
    C54 op_8687 do_4265 dst_27ee a_051b b_f5b0 n_6b6c fun v_9b14 =>
    .bif ((!v_9b14))
    (.ret [tb false] [])
    (B27_0 many_0 b_1 b_2 b_3 b_4 (w64 (v_5 + 1))))
  (H27_1 many_0 b_1 b_2 b_3 b_4 0)
theorem eH27_0 {many_0 : Int} {b_1 : List TV} {b_2 : Int} {b_3 : Int} {b_4 : List TV} {v_5 : Int} {r : Res} (h : S cx 27 (NH27_0 many_0 b_1 b_2 b_3 b_4 v_5) = some r) : S cx 27 (H27_0 many_0 b_1 b_2 b_3 b_4 v_5) = some r :=
  hw_of (fun call hd hb pt rg => by kernel_rfl) h
noncomputable def NH27_1_s0 (b_1 : List TV) (b_3 : Int) : Nd :=
  C55 b_3 fun v_a55a =>
  .bif (v_a55a)
  (.ret [tb (decide (((b_1.length : Nat) : Int) ≤ 60))] [])
  (.ret [tb false] [])
noncomputable def NH27_1 (many_0 : Int) (b_1 : List TV) (b_2 : Int) (b_3 : Int) (b_4 : List TV) (v_5 : Int) : Nd :=
  .bif (decide (v_5 < ((b_4.length : Nat) : Int)))
  (.ck (decide ((0 : Int) ≤ v_5) && decide (v_5 < ((b_4.length : Nat) : Int))) <|
    .int .i64 (b_4.getD (0 + v_5.toNat) (.dead ())) fun x_7bb9 =>
    .bif (decide (x_7bb9 < 0))
    (.ret [tb false] [])
    (.bif (decide (x_7bb9 ≥ many_0))
      (.ret [tb false] [])
      (B27_1 many_0 b_1 b_2 b_3 b_4 (w64 (v_5 + 1)))))
  (.bif ((b_2 == 1))
    (.bif ((((b_4.length : Nat) : Int) == 1))
      (.bif ((b_3 == 0))
        (.ret [tb (decide (((b_1.length : Nat) : Int) ≤ 60))] [])
        (.ret [tb false] []))
      (.ret [tb false] []))
    (.bif ((b_2 == 2))
      (.bif ((((b_4.length : Nat) : Int) == 2))
        (NH27_1_s0 b_1 b_3)
        (.ret [tb false] []))
      (.bif ((b_2 == 5))
        (C28 ((b_4.length : Nat) : Int) 2 6 fun v_a1e4 =>
          .bif (v_a1e4)
          (NH27_1_s0 b_1 b_3)
          (.ret [tb false] []))
        (C28 b_2 3 4 fun v_a32c =>
          .bif (v_a32c)
          (.bif ((((b_4.length : Nat) : Int) == 0))
            (.bif ((b_3 == 0))
              (.ret [tb (decide (((b_1.length : Nat) : Int) ≤ 60))] [])
              (.ret [tb false] []))
            (.ret [tb false] []))
          (.ret [tb false] [])))))
theorem eH27_1 {many_0 : Int} {b_1 : List TV} {b_2 : Int} {b_3 : Int} {b_4 : List TV} {v_5 : Int} {r : Res} (h : S cx 27 (NH27_1 many_0 b_1 b_2 b_3 b_4 v_5) = some r) : S cx 27 (H27_1 many_0 b_1 b_2 b_3 b_4 v_5) = some r :=
  hw_of (fun call hd hb pt rg => by kernel_rfl) h
noncomputable def N28 (n_0 : Int) (lo_1 : Int) (hi_2 : Int) : Nd :=
  .bif (decide (n_0 ≥ lo_1))
  (.ret [tb (decide (n_0 ≤ hi_2))] [])
  (.ret [tb false] [])
theorem e28 {n_0 : Int} {lo_1 : Int} {hi_2 : Int} {r : Res} (h : S cx 28 (N28 n_0 lo_1 hi_2) = some r) : tw cx 28 [i64 n_0, i64 lo_1, i64 hi_2] = some r :=
  tw_of (fun call hd hb pt rg => by kernel_rfl) h
noncomputable def EH29_0 (f_0 : List TV) (seen_2 : List TV) (i_1 : Int) : Env := [.val [] (sl true ⟨4, true⟩ f_0), .un, .un, .val [] (sl false ⟨1, false⟩ seen_2), .val [] (i64 i_1)] ++ uns 46
noncomputable abbrev H29_0 (f_0 : List TV) (seen_2 : List TV) (i_1 : Int) : Nd := .head [1, 1, 0, 1, 2] (EH29_0 f_0 seen_2 i_1)
noncomputable abbrev B29_0 (f_0 : List TV) (seen_2 : List TV) (i_1 : Int) : Nd := .back [1, 1, 0, 1, 2] (EH29_0 f_0 seen_2 i_1)
noncomputable def EH29_1 (f_0 : List TV) (seen_2 : List TV) (i_4 : Int) (v_1 : List TV) (v_3 : Int) : Env := [.val [] (sl true ⟨4, true⟩ f_0), .un, .un, .val [] (sl false ⟨1, false⟩ seen_2), .val [] (i64 i_4)] ++ uns 19 ++ [.val [] (sl true ⟨1, false⟩ v_1), .val [] (i64 ((v_1.length : Nat) : Int)), .val [] (i64 v_3)] ++ uns 24
noncomputable abbrev H29_1 (f_0 : List TV) (seen_2 : List TV) (i_4 : Int) (v_1 : List TV) (v_3 : Int) : Nd := .head [1, 1, 0, 1, 2, 5, 1, 0, 2, 1, 2] (EH29_1 f_0 seen_2 i_4 v_1 v_3)
noncomputable abbrev B29_1 (f_0 : List TV) (seen_2 : List TV) (i_4 : Int) (v_1 : List TV) (v_3 : Int) : Nd := .back [1, 1, 0, 1, 2, 5, 1, 0, 2, 1, 2] (EH29_1 f_0 seen_2 i_4 v_1 v_3)
noncomputable def EH29_2 (seen_2 : List TV) (out_0 : List TV) (v_3 : Int) (v_1 : Int) : Env := [.un, .un, .un, .val [] (sl false ⟨1, false⟩ seen_2), .un, .un, .un, .val [] (sl false ⟨1, false⟩ out_0)] ++ uns 31 ++ [.ref 3 [] none 34 false, .val [] (i64 v_3), .val [] (i64 v_1)] ++ uns 9
noncomputable abbrev H29_2 (seen_2 : List TV) (out_0 : List TV) (v_3 : Int) (v_1 : Int) : Nd := .head [1, 1, 1, 1, 0, 1, 2] (EH29_2 seen_2 out_0 v_3 v_1)
noncomputable abbrev B29_2 (seen_2 : List TV) (out_0 : List TV) (v_3 : Int) (v_1 : Int) : Nd := .back [1, 1, 1, 1, 0, 1, 2] (EH29_2 seen_2 out_0 v_3 v_1)
noncomputable def N29 (f_0 : List TV) : Nd :=
  H29_0 f_0 ([i64 0]) 0
theorem e29 {f_0 : List TV} {r : Res} (h : S cx 29 (N29 f_0) = some r) : tw cx 29 [sl true ⟨4, true⟩ f_0] = some r :=
  tw_of (fun call hd hb pt rg => by kernel_rfl) h
noncomputable def NH29_0 (f_0 : List TV) (seen_2 : List TV) (i_1 : Int) : Nd :=
  .bif (decide (i_1 < ((seen_2.length : Nat) : Int)))
  (.ck (decide ((0 : Int) ≤ i_1) && decide (i_1 < ((seen_2.length : Nat) : Int))) <|
    .int .i64 (seen_2.getD (0 + i_1.toNat) (.dead ())) fun x_8f92 =>
    .ck (decide ((0 : Int) ≤ x_8f92) && decide (x_8f92 < ((f_0.length : Nat) : Int))) <|
    V4 (f_0.getD (0 + x_8f92.toNat) (.dead ())) fun codes_3ea9 go_81b2 test_cc14 nexts_315c =>
    H29_1 f_0 seen_2 i_1 nexts_315c 0)
  (H29_2 seen_2 ([]) ((seen_2.length : Nat) : Int) 0)
theorem eH29_0 {f_0 : List TV} {seen_2 : List TV} {i_1 : Int} {r : Res} (h : S cx 29 (NH29_0 f_0 seen_2 i_1) = some r) : S cx 29 (H29_0 f_0 seen_2 i_1) = some r :=
  hw_of (fun call hd hb pt rg => by kernel_rfl) h
noncomputable def NH29_1 (f_0 : List TV) (seen_2 : List TV) (i_4 : Int) (v_1 : List TV) (v_3 : Int) : Nd :=
  .bif (decide (v_3 < ((v_1.length : Nat) : Int)))
  (.ck (decide ((0 : Int) ≤ v_3) && decide (v_3 < ((v_1.length : Nat) : Int))) <|
    .int .i64 (v_1.getD (0 + v_3.toNat) (.dead ())) fun x_c303 =>
    C46 seen_2 x_c303 fun v_92b2 =>
    .bif ((!v_92b2))
    (.ck (decide ((seen_2.length + ([i64 x_c303] : List TV).length) * 8 < lim)) <|
      B29_1 f_0 (seen_2 ++ ([i64 x_c303])) i_4 v_1 (w64 (v_3 + 1)))
    (B29_1 f_0 seen_2 i_4 v_1 (w64 (v_3 + 1))))
  (B29_0 f_0 seen_2 (w64 (i_4 + 1)))
theorem eH29_1 {f_0 : List TV} {seen_2 : List TV} {i_4 : Int} {v_1 : List TV} {v_3 : Int} {r : Res} (h : S cx 29 (NH29_1 f_0 seen_2 i_4 v_1 v_3) = some r) : S cx 29 (H29_1 f_0 seen_2 i_4 v_1 v_3) = some r :=
  hw_of (fun call hd hb pt rg => by kernel_rfl) h
noncomputable def NH29_2 (seen_2 : List TV) (out_0 : List TV) (v_3 : Int) (v_1 : Int) : Nd :=
  .bif (decide (v_1 < v_3))
  (.ck (decide ((0 : Int) ≤ v_1) && decide (v_1 < ((seen_2.length : Nat) : Int))) <|
    .int .i64 (seen_2.getD (0 + v_1.toNat) (.dead ())) fun x_2855 =>
    C48 out_0 x_2855 fun vs_8461 =>
    B29_2 seen_2 vs_8461 v_3 (w64 (v_1 + 1)))
  (.ret [sl false ⟨1, false⟩ out_0] [])
theorem eH29_2 {seen_2 : List TV} {out_0 : List TV} {v_3 : Int} {v_1 : Int} {r : Res} (h : S cx 29 (NH29_2 seen_2 out_0 v_3 v_1) = some r) : S cx 29 (H29_2 seen_2 out_0 v_3 v_1) = some r :=
  hw_of (fun call hd hb pt rg => by kernel_rfl) h
noncomputable def EH30_0 (l_0 : List TV) (v_1 : Int) : Env := [.val [] (sl true ⟨6, false⟩ l_0), .un, .un, .un, .un, .val [] (sl true ⟨6, false⟩ l_0), .val [] (i64 ((l_0.length : Nat) : Int)), .val [] (i64 v_1)] ++ uns 26
noncomputable abbrev H30_0 (l_0 : List TV) (v_1 : Int) : Nd := .head [1, 0, 1, 2] (EH30_0 l_0 v_1)
noncomputable abbrev B30_0 (l_0 : List TV) (v_1 : Int) : Nd := .back [1, 0, 1, 2] (EH30_0 l_0 v_1)
noncomputable def N30 (l_0 : List TV) : Nd :=
  H30_0 l_0 0
theorem e30 {l_0 : List TV} {r : Res} (h : S cx 30 (N30 l_0) = some r) : tw cx 30 [sl true ⟨6, false⟩ l_0] = some r :=
  tw_of (fun call hd hb pt rg => by kernel_rfl) h
noncomputable def NH30_0 (l_0 : List TV) (v_1 : Int) : Nd :=
  .bif (decide (v_1 < ((l_0.length : Nat) : Int)))
  (.ck (decide ((0 : Int) ≤ v_1) && decide (v_1 < ((l_0.length : Nat) : Int))) <|
    V6 (l_0.getD (0 + v_1.toNat) (.dead ())) fun op_66ce do_aaf4 dst_f6d6 a_c89a b_b554 n_2a5e =>
    C54 op_66ce do_aaf4 dst_f6d6 a_c89a b_b554 n_2a5e fun v_724e =>
    .bif ((!v_724e))
    (.ret [tb false] [])
    (.bif (decide (dst_f6d6 ≥ 8))
      (.ret [tb false] [])
      (.bif (decide (a_c89a ≥ 8))
        (.ret [tb false] [])
        (.bif (decide (b_b554 ≥ 8))
          (.ret [tb false] [])
          (B30_0 l_0 (w64 (v_1 + 1)))))))
  (.ret [tb (decide (((l_0.length : Nat) : Int) ≤ 60))] [])
theorem eH30_0 {l_0 : List TV} {v_1 : Int} {r : Res} (h : S cx 30 (NH30_0 l_0 v_1) = some r) : S cx 30 (H30_0 l_0 v_1) = some r :=
  hw_of (fun call hd hb pt rg => by kernel_rfl) h
noncomputable def EH31_0 (dom_0 : List TV) (g_1 : List TV) (left_2 : List TV) : Env := [.un, .val [] (sl true ⟨1, true⟩ dom_0), .val [] (.pt false () (.st [sl true ⟨1, true⟩ g_1])), .un, .un, .val [] (sl false ⟨1, false⟩ left_2)] ++ uns 57
noncomputable abbrev H31_0 (dom_0 : List TV) (g_1 : List TV) (left_2 : List TV) : Nd := .head [1, 1, 2] (EH31_0 dom_0 g_1 left_2)
noncomputable abbrev B31_0 (dom_0 : List TV) (g_1 : List TV) (left_2 : List TV) : Nd := .back [1, 1, 2] (EH31_0 dom_0 g_1 left_2)
noncomputable def EH31_1 (dom_0 : List TV) (g_1 : List TV) (left_2 : List TV) (next_4 : List TV) (v_3 : Int) : Env := [.un, .val [] (sl true ⟨1, true⟩ dom_0), .val [] (.pt false () (.st [sl true ⟨1, true⟩ g_1])), .un, .un, .val [] (sl false ⟨1, false⟩ left_2), .val [] (sl false ⟨1, false⟩ next_4)] ++ uns 7 ++ [.ref 5 [] none 34 false, .val [] (i64 ((left_2.length : Nat) : Int)), .val [] (i64 v_3)] ++ uns 46
noncomputable abbrev H31_1 (dom_0 : List TV) (g_1 : List TV) (left_2 : List TV) (next_4 : List TV) (v_3 : Int) : Nd := .head [1, 1, 2, 5, 2, 1, 0, 1, 2] (EH31_1 dom_0 g_1 left_2 next_4 v_3)
noncomputable abbrev B31_1 (dom_0 : List TV) (g_1 : List TV) (left_2 : List TV) (next_4 : List TV) (v_3 : Int) : Nd := .back [1, 1, 2, 5, 2, 1, 0, 1, 2] (EH31_1 dom_0 g_1 left_2 next_4 v_3)
noncomputable def EH31_2 (dom_0 : List TV) (g_1 : List TV) (left_2 : List TV) (next_8 : List TV) (k_3 : Int) (lead_5 : Bool) (v_7 : Int) (v_4 : List TV) (v_6 : Int) : Env := [.un, .val [] (sl true ⟨1, true⟩ dom_0), .val [] (.pt false () (.st [sl true ⟨1, true⟩ g_1])), .un, .un, .val [] (sl false ⟨1, false⟩ left_2), .val [] (sl false ⟨1, false⟩ next_8), .un, .val [] (i64 k_3), .val [] (tb lead_5), .un, .un, .un, .un, .ref 5 [] none 34 false, .val [] (i64 ((left_2.length : Nat) : Int)), .val [] (i64 v_7)] ++ uns 7 ++ [.val [] (sl true ⟨1, false⟩ v_4), .val [] (i64 ((v_4.length : Nat) : Int)), .val [] (i64 v_6)] ++ uns 36
noncomputable abbrev H31_2 (dom_0 : List TV) (g_1 : List TV) (left_2 : List TV) (next_8 : List TV) (k_3 : Int) (lead_5 : Bool) (v_7 : Int) (v_4 : List TV) (v_6 : Int) : Nd := .head [1, 1, 2, 5, 2, 1, 0, 1, 2, 5, 1, 1, 0, 2, 1, 1, 0, 1, 2] (EH31_2 dom_0 g_1 left_2 next_8 k_3 lead_5 v_7 v_4 v_6)
noncomputable abbrev B31_2 (dom_0 : List TV) (g_1 : List TV) (left_2 : List TV) (next_8 : List TV) (k_3 : Int) (lead_5 : Bool) (v_7 : Int) (v_4 : List TV) (v_6 : Int) : Nd := .back [1, 1, 2, 5, 2, 1, 0, 1, 2, 5, 1, 1, 0, 2, 1, 1, 0, 1, 2] (EH31_2 dom_0 g_1 left_2 next_8 k_3 lead_5 v_7 v_4 v_6)
noncomputable def N31 (g_0 : List TV) (dom_1 : List TV) : Nd :=
  C47 g_0 (-1) fun vs_618e =>
  H31_0 dom_1 g_0 vs_618e
theorem e31 {g_0 : List TV} {dom_1 : List TV} {r : Res} (h : S cx 31 (N31 g_0 dom_1) = some r) : tw cx 31 [.st [sl true ⟨1, true⟩ g_0], sl true ⟨1, true⟩ dom_1] = some r :=
  tw_of (fun call hd hb pt rg => by kernel_rfl) h
noncomputable def NH31_0 (dom_0 : List TV) (g_1 : List TV) (left_2 : List TV) : Nd :=
  H31_1 dom_0 g_1 left_2 ([]) 0
theorem eH31_0 {dom_0 : List TV} {g_1 : List TV} {left_2 : List TV} {r : Res} (h : S cx 31 (NH31_0 dom_0 g_1 left_2) = some r) : S cx 31 (H31_0 dom_0 g_1 left_2) = some r :=
  hw_of (fun call hd hb pt rg => by kernel_rfl) h
noncomputable def NH31_1 (dom_0 : List TV) (g_1 : List TV) (left_2 : List TV) (next_4 : List TV) (v_3 : Int) : Nd :=
  .bif (decide (v_3 < ((left_2.length : Nat) : Int)))
  (.ck (decide ((0 : Int) ≤ v_3) && decide (v_3 < ((left_2.length : Nat) : Int))) <|
    .int .i64 (left_2.getD (0 + v_3.toNat) (.dead ())) fun x_c0fb =>
    .ck (decide ((0 : Int) ≤ x_c0fb) && decide (x_c0fb < ((g_1.length : Nat) : Int))) <|
    .slR ⟨1, false⟩ (g_1.getD (0 + x_c0fb.toNat) (.dead ())) fun xs_8ecf =>
    H31_2 dom_0 g_1 left_2 next_4 x_c0fb false v_3 xs_8ecf 0)
  (.bif ((((next_4.length : Nat) : Int) == ((left_2.length : Nat) : Int)))
    (.ret [tb (decide (((left_2.length : Nat) : Int) > 0))] [])
    (B31_0 dom_0 g_1 next_4))
theorem eH31_1 {dom_0 : List TV} {g_1 : List TV} {left_2 : List TV} {next_4 : List TV} {v_3 : Int} {r : Res} (h : S cx 31 (NH31_1 dom_0 g_1 left_2 next_4 v_3) = some r) : S cx 31 (H31_1 dom_0 g_1 left_2 next_4 v_3) = some r :=
  hw_of (fun call hd hb pt rg => by kernel_rfl) h
noncomputable def NH31_2 (dom_0 : List TV) (g_1 : List TV) (left_2 : List TV) (next_8 : List TV) (k_3 : Int) (lead_5 : Bool) (v_7 : Int) (v_4 : List TV) (v_6 : Int) : Nd :=
  .bif (decide (v_6 < ((v_4.length : Nat) : Int)))
  (.ck (decide ((0 : Int) ≤ v_6) && decide (v_6 < ((v_4.length : Nat) : Int))) <|
    .int .i64 (v_4.getD (0 + v_6.toNat) (.dead ())) fun x_8fa3 =>
    .bif (lead_5)
    (B31_2 dom_0 g_1 left_2 next_8 k_3 true v_7 v_4 (w64 (v_6 + 1)))
    (C46 left_2 x_8fa3 fun v_3585 =>
      .bif (v_3585)
      (.ck (decide ((0 : Int) ≤ k_3) && decide (k_3 < ((dom_0.length : Nat) : Int))) <|
        .slR ⟨1, false⟩ (dom_0.getD (0 + k_3.toNat) (.dead ())) fun xs_77e3 =>
        C46 xs_77e3 x_8fa3 fun v_31ba =>
        B31_2 dom_0 g_1 left_2 next_8 k_3 (!v_31ba) v_7 v_4 (w64 (v_6 + 1)))
      (B31_2 dom_0 g_1 left_2 next_8 k_3 false v_7 v_4 (w64 (v_6 + 1)))))
  (.bif (lead_5)
    (.ck (decide ((next_8.length + ([i64 k_3] : List TV).length) * 8 < lim)) <|
      B31_1 dom_0 g_1 left_2 (next_8 ++ ([i64 k_3])) (w64 (v_7 + 1)))
    (B31_1 dom_0 g_1 left_2 next_8 (w64 (v_7 + 1))))
theorem eH31_2 {dom_0 : List TV} {g_1 : List TV} {left_2 : List TV} {next_8 : List TV} {k_3 : Int} {lead_5 : Bool} {v_7 : Int} {v_4 : List TV} {v_6 : Int} {r : Res} (h : S cx 31 (NH31_2 dom_0 g_1 left_2 next_8 k_3 lead_5 v_7 v_4 v_6) = some r) : S cx 31 (H31_2 dom_0 g_1 left_2 next_8 k_3 lead_5 v_7 v_4 v_6) = some r :=
  hw_of (fun call hd hb pt rg => by kernel_rfl) h
noncomputable def EH32_0 (a_0 : List TV) (out_1 : List TV) (i_2 : Int) : Env := [.val [] (sl true ⟨6, false⟩ a_0), .un, .un, .val [] (sl false ⟨6, false⟩ out_1), .val [] (i64 i_2)] ++ uns 19
noncomputable abbrev H32_0 (a_0 : List TV) (out_1 : List TV) (i_2 : Int) : Nd := .head [1, 1, 0, 1, 2] (EH32_0 a_0 out_1 i_2)
noncomputable abbrev B32_0 (a_0 : List TV) (out_1 : List TV) (i_2 : Int) : Nd := .back [1, 1, 0, 1, 2] (EH32_0 a_0 out_1 i_2)
noncomputable def N32 (a_0 : List TV) : Nd :=
  .ck (decide ((0 : Int) ≤ ((a_0.length : Nat) : Int)) && decide (((a_0.length : Nat) : Int) ≤ ((a_0.length : Nat) : Int)) && decide (((a_0.length : Nat) : Int) * 48 < (lim : Int)) && decide (((a_0.length : Nat) : Int) < 9223372036854775807) && true && true) <|
  H32_0 a_0 (List.replicate (((a_0.length : Nat) : Int).toNat) (.st [i64 0, i64 0, i64 0, i64 0, i64 0, i64 0])) 0
theorem e32 {a_0 : List TV} {r : Res} (h : S cx 32 (N32 a_0) = some r) : tw cx 32 [sl true ⟨6, false⟩ a_0] = some r :=
  tw_of (fun call hd hb pt rg => by kernel_rfl) h
noncomputable def NH32_0 (a_0 : List TV) (out_1 : List TV) (i_2 : Int) : Nd :=
  .bif (decide (i_2 < ((a_0.length : Nat) : Int)))
  (.ck (decide ((0 : Int) ≤ i_2) && decide (i_2 < ((a_0.length : Nat) : Int))) <|
    V6 (a_0.getD (0 + i_2.toNat) (.dead ())) fun op_e85d do_3fec dst_ffe3 a_68fc b_0250 n_1558 =>
    C56 op_e85d do_3fec dst_ffe3 a_68fc b_0250 n_1558 fun op_e2e8 do_c215 dst_f6e7 a_f517 b_64d8 n_7686 =>
    .ck (decide ((0 : Int) ≤ i_2) && decide (i_2 < ((out_1.length : Nat) : Int))) <|
    B32_0 a_0 (out_1.set (0 + i_2.toNat) (.st [i64 op_e2e8, i64 do_c215, i64 dst_f6e7, i64 a_f517, i64 b_64d8, i64 n_7686])) (w64 (i_2 + 1)))
  (.ret [sl false ⟨6, false⟩ out_1] [])
theorem eH32_0 {a_0 : List TV} {out_1 : List TV} {i_2 : Int} {r : Res} (h : S cx 32 (NH32_0 a_0 out_1 i_2) = some r) : S cx 32 (H32_0 a_0 out_1 i_2) = some r :=
  hw_of (fun call hd hb pt rg => by kernel_rfl) h
end Go.Tree.Q

/- Trees of values: program points of functions. -/
namespace Go.Tree.Q
open Go.Proofs
set_option linter.unusedVariables false
set_option maxRecDepth 20000
noncomputable def EH33_0 (a_0 : List TV) (out_1 : List TV) (i_2 : Int) : Env := [.val [] (sl true ⟨1, false⟩ a_0), .un, .un, .val [] (sl false ⟨1, false⟩ out_1), .val [] (i64 i_2)] ++ uns 18
noncomputable abbrev H33_0 (a_0 : List TV) (out_1 : List TV) (i_2 : Int) : Nd := .head [1, 1, 0, 1, 2] (EH33_0 a_0 out_1 i_2)
noncomputable abbrev B33_0 (a_0 : List TV) (out_1 : List TV) (i_2 : Int) : Nd := .back [1, 1, 0, 1, 2] (EH33_0 a_0 out_1 i_2)
noncomputable def N33 (a_0 : List TV) : Nd :=
  .ck (decide ((0 : Int) ≤ ((a_0.length : Nat) : Int)) && decide (((a_0.length : Nat) : Int) ≤ ((a_0.length : Nat) : Int)) && decide (((a_0.length : Nat) : Int) * 8 < (lim : Int)) && decide (((a_0.length : Nat) : Int) < 9223372036854775807) && true && true) <|
  H33_0 a_0 (List.replicate (((a_0.length : Nat) : Int).toNat) (i64 0)) 0
theorem e33 {a_0 : List TV} {r : Res} (h : S cx 33 (N33 a_0) = some r) : tw cx 33 [sl true ⟨1, false⟩ a_0] = some r :=
  tw_of (fun call hd hb pt rg => by kernel_rfl) h
noncomputable def NH33_0 (a_0 : List TV) (out_1 : List TV) (i_2 : Int) : Nd :=
  .bif (decide (i_2 < ((a_0.length : Nat) : Int)))
  (.ck (decide ((0 : Int) ≤ i_2) && decide (i_2 < ((a_0.length : Nat) : Int))) <|
    .int .i64 (a_0.getD (0 + i_2.toNat) (.dead ())) fun x_3db5 =>
    .ck (decide ((0 : Int) ≤ i_2) && decide (i_2 < ((out_1.length : Nat) : Int))) <|
    B33_0 a_0 (out_1.set (0 + i_2.toNat) (i64 x_3db5)) (w64 (i_2 + 1)))
  (.ret [sl false ⟨1, false⟩ out_1] [])
theorem eH33_0 {a_0 : List TV} {out_1 : List TV} {i_2 : Int} {r : Res} (h : S cx 33 (NH33_0 a_0 out_1 i_2) = some r) : S cx 33 (H33_0 a_0 out_1 i_2) = some r :=
  hw_of (fun call hd hb pt rg => by kernel_rfl) h
noncomputable def N34 (s_0 : List TV) (f_1 : List TV) : Nd :=
  C57 s_0 f_1 fun v_5818 =>
  .ret [tb (decide (v_5818 ≥ 0))] []
theorem e34 {s_0 : List TV} {f_1 : List TV} {r : Res} (h : S cx 34 (N34 s_0 f_1) = some r) : tw cx 34 [sl true ⟨4, true⟩ s_0, .cl 35 [.pt true () (sl true ⟨4, true⟩ f_1)]] = some r :=
  tw_of (fun call hd hb pt rg => by kernel_rfl) h
noncomputable def N35 (b_0 : List TV) (b_1 : Int) (b_2 : Int) (b_3 : List TV) (v_4 : List TV) : Nd :=
  C36 b_0 12 fun v_07ea =>
  .bif ((!v_07ea))
  (.ret [tb true] [])
  (C37 b_1 b_2 b_3 12 ((v_4.length : Nat) : Int) fun v_3787 =>
    .ret [tb (!v_3787)] [])
theorem e35 {b_0 : List TV} {b_1 : Int} {b_2 : Int} {b_3 : List TV} {v_4 : List TV} {r : Res} (h : S cx 35 (N35 b_0 b_1 b_2 b_3 v_4) = some r) : tw cx 35 [.st [sl true ⟨6, false⟩ b_0, i64 b_1, i64 b_2, sl true ⟨1, false⟩ b_3], .pt true () (sl true ⟨4, true⟩ v_4)] = some r :=
  tw_of (fun call hd hb pt rg => by kernel_rfl) h
noncomputable def N36 (l_0 : List TV) (many_1 : Int) : Nd :=
  .bif (decide (((l_0.length : Nat) : Int) ≤ 60))
  (C58 l_0 many_1 fun v_b0c7 =>
    .ret [tb (!v_b0c7)] [])
  (.ret [tb false] [])
theorem e36 {l_0 : List TV} {many_1 : Int} {r : Res} (h : S cx 36 (N36 l_0 many_1) = some r) : tw cx 36 [sl true ⟨6, false⟩ l_0, i64 many_1] = some r :=
  tw_of (fun call hd hb pt rg => by kernel_rfl) h
noncomputable def N37_s0 (kind_0 : Int) (next_2 : List TV) (blocks_4 : Int) : Nd :=
  C62 next_2 blocks_4 fun v_db4e =>
  .bif (v_db4e)
  (.ret [tb false] [])
  (.bif ((kind_0 == 1))
    (.ret [tb (((next_2.length : Nat) : Int) == 1)] [])
    (.bif ((kind_0 == 2))
      (.ret [tb (((next_2.length : Nat) : Int) == 2)] [])
      (.bif ((kind_0 == 5))
        (C23 ((next_2.length : Nat) : Int) 2 6 fun v_0d06 =>
          .ret [tb v_0d06] [])
        (.bif ((kind_0 == 3))
          (.ret [tb (((next_2.length : Nat) : Int) == 0)] [])
          (.bif ((kind_0 == 4))
            (.ret [tb (((next_2.length : Nat) : Int) == 0)] [])
            (.ret [tb false] []))))))
noncomputable def N37_s1 (kind_0 : Int) (test_1 : Int) (next_2 : List TV) (blocks_4 : Int) : Nd :=
  C61 kind_0 fun v_bf82 =>
  .bif ((!v_bf82))
  (.bif ((test_1 != 0))
    (.ret [tb false] [])
    (N37_s0 kind_0 next_2 blocks_4))
  (N37_s0 kind_0 next_2 blocks_4)
noncomputable def N37 (kind_0 : Int) (test_1 : Int) (next_2 : List TV) (many_3 : Int) (blocks_4 : Int) : Nd :=
  C61 kind_0 fun v_e980 =>
  .bif (v_e980)
  (C23 test_1 0 (w64 (many_3 - 1)) fun v_8791 =>
    .bif ((!v_8791))
    (.ret [tb false] [])
    (N37_s1 kind_0 test_1 next_2 blocks_4))
  (N37_s1 kind_0 test_1 next_2 blocks_4)
theorem e37 {kind_0 : Int} {test_1 : Int} {next_2 : List TV} {many_3 : Int} {blocks_4 : Int} {r : Res} (h : S cx 37 (N37 kind_0 test_1 next_2 many_3 blocks_4) = some r) : tw cx 37 [i64 kind_0, i64 test_1, sl true ⟨1, false⟩ next_2, i64 many_3, i64 blocks_4] = some r :=
  tw_of (fun call hd hb pt rg => by kernel_rfl) h
noncomputable def N38 (s_0 : List TV) (v_1 : Bool) : Nd :=
  C64 s_0 v_1 fun v_3938 =>
  .ret [tb (decide (v_3938 ≥ 0))] []
theorem e38 {s_0 : List TV} {v_1 : Bool} {r : Res} (h : S cx 38 (N38 s_0 v_1) = some r) : tw cx 38 [sl true ⟨1, false⟩ s_0, tb v_1] = some r :=
  tw_of (fun call hd hb pt rg => by kernel_rfl) h
noncomputable def EH39_0 (next_0 : List TV) (but_1 : List TV) (out_2 : List TV) (todo_3 : List TV) : Env := [.val [] (sl true ⟨1, true⟩ next_0), .un, .val [] (sl true ⟨1, false⟩ but_1), .un, .un, .un, .un, .val [] (sl false ⟨1, false⟩ out_2), .val [] (sl false ⟨1, false⟩ todo_3)] ++ uns 53
noncomputable abbrev H39_0 (next_0 : List TV) (but_1 : List TV) (out_2 : List TV) (todo_3 : List TV) : Nd := .head [1, 1, 1, 1, 0, 1, 2] (EH39_0 next_0 but_1 out_2 todo_3)
noncomputable abbrev B39_0 (next_0 : List TV) (but_1 : List TV) (out_2 : List TV) (todo_3 : List TV) : Nd := .back [1, 1, 1, 1, 0, 1, 2] (EH39_0 next_0 but_1 out_2 todo_3)
noncomputable def EH39_1 (next_0 : List TV) (but_1 : List TV) (out_2 : List TV) (todo_3 : List TV) (v_4 : List TV) (v_5 : Int) : Env := [.val [] (sl true ⟨1, true⟩ next_0), .un, .val [] (sl true ⟨1, false⟩ but_1), .un, .un, .un, .un, .val [] (sl false ⟨1, false⟩ out_2), .val [] (sl false ⟨1, false⟩ todo_3)] ++ uns 24 ++ [.val [] (sl true ⟨1, false⟩ v_4), .val [] (i64 ((v_4.length : Nat) : Int)), .val [] (i64 v_5)] ++ uns 26
noncomputable abbrev H39_1 (next_0 : List TV) (but_1 : List TV) (out_2 : List TV) (todo_3 : List TV) (v_4 : List TV) (v_5 : Int) : Nd := .head [1, 1, 1, 1, 0, 1, 2, 5, 1, 0, 2, 1, 2] (EH39_1 next_0 but_1 out_2 todo_3 v_4 v_5)
noncomputable abbrev B39_1 (next_0 : List TV) (but_1 : List TV) (out_2 : List TV) (todo_3 : List TV) (v_4 : List TV) (v_5 : Int) : Nd := .back [1, 1, 1, 1, 0, 1, 2, 5, 1, 0, 2, 1, 2] (EH39_1 next_0 but_1 out_2 todo_3 v_4 v_5)
noncomputable def EG39_2 (next_0 : List TV) (but_1 : List TV) (out_2 : List TV) (todo_3 : List TV) (k_4 : Int) (v_5 : List TV) (v_7 : Int) (v_6 : Bool) : Env := [.val [] (sl true ⟨1, true⟩ next_0), .un, .val [] (sl true ⟨1, false⟩ but_1), .un, .un, .un, .un, .val [] (sl false ⟨1, false⟩ out_2), .val [] (sl false ⟨1, false⟩ todo_3), .un, .val [] (i64 k_4)] ++ uns 22 ++ [.val [] (sl true ⟨1, false⟩ v_5), .val [] (i64 ((v_5.length : Nat) : Int)), .val [] (i64 v_7)] ++ uns 13 ++ [.val [] (tb v_6)] ++ uns 12
noncomputable abbrev G39_2 (next_0 : List TV) (but_1 : List TV) (out_2 : List TV) (todo_3 : List TV) (k_4 : Int) (v_5 : List TV) (v_7 : Int) (v_6 : Bool) : Nd := .go [1, 1, 1, 1, 0, 1, 2, 5, 1, 0, 2, 1, 2, 5, 1, 1, 0, 2, 1, 1] (EG39_2 next_0 but_1 out_2 todo_3 k_4 v_5 v_7 v_6)
noncomputable def N39 (next_0 : List TV) (from_1 : Int) (but_2 : List TV) : Nd :=
  .ck (decide ((0 : Int) ≤ ((next_0.length : Nat) : Int)) && decide (((next_0.length : Nat) : Int) ≤ ((next_0.length : Nat) : Int)) && decide (((next_0.length : Nat) : Int) * 1 < (lim : Int)) && decide (((next_0.length : Nat) : Int) < 9223372036854775807) && true && true) <|
  C65 but_2 from_1 fun v_c0fc =>
  .bif (v_c0fc)
  (.ret [sl false ⟨1, false⟩ (List.replicate (((next_0.length : Nat) : Int).toNat) (tb false))] [])
  (.ck (decide ((0 : Int) ≤ from_1) && decide (from_1 < (((List.replicate (((next_0.length : Nat) : Int).toNat) (tb false)).length : Nat) : Int))) <|
    H39_0 next_0 but_2 ((List.replicate (((next_0.length : Nat) : Int).toNat) (tb false)).set (0 + from_1.toNat) (tb true)) ([i64 from_1]))
theorem e39 {next_0 : List TV} {from_1 : Int} {but_2 : List TV} {r : Res} (h : S cx 39 (N39 next_0 from_1 but_2) = some r) : tw cx 39 [sl true ⟨1, true⟩ next_0, i64 from_1, sl true ⟨1, false⟩ but_2] = some r :=
  tw_of (fun call hd hb pt rg => by kernel_rfl) h
noncomputable def NH39_0 (next_0 : List TV) (but_1 : List TV) (out_2 : List TV) (todo_3 : List TV) : Nd :=
  .bif (decide (((todo_3.length : Nat) : Int) > 0))
  (.ck (decide ((0 : Int) < ((todo_3.length : Nat) : Int))) <|
    .int .i64 (todo_3.getD 0 (.dead ())) fun x_eea8 =>
    .ck (decide ((0 : Int) ≤ x_eea8) && decide (x_eea8 < ((next_0.length : Nat) : Int))) <|
    .slR ⟨1, false⟩ (next_0.getD (0 + x_eea8.toNat) (.dead ())) fun xs_d681 =>
    H39_1 next_0 but_1 out_2 todo_3 xs_d681 0)
  (.ret [sl false ⟨1, false⟩ out_2] [])
theorem eH39_0 {next_0 : List TV} {but_1 : List TV} {out_2 : List TV} {todo_3 : List TV} {r : Res} (h : S cx 39 (NH39_0 next_0 but_1 out_2 todo_3) = some r) : S cx 39 (H39_0 next_0 but_1 out_2 todo_3) = some r :=
  hw_of (fun call hd hb pt rg => by kernel_rfl) h
noncomputable def NH39_1 (next_0 : List TV) (but_1 : List TV) (out_2 : List TV) (todo_3 : List TV) (v_4 : List TV) (v_5 : Int) : Nd :=
  .bif (decide (v_5 < ((v_4.length : Nat) : Int)))
  (.ck (decide ((0 : Int) ≤ v_5) && decide (v_5 < ((v_4.length : Nat) : Int))) <|
    .int .i64 (v_4.getD (0 + v_5.toNat) (.dead ())) fun x_45a3 =>
    .ck (decide ((0 : Int) ≤ x_45a3) && decide (x_45a3 < ((out_2.length : Nat) : Int))) <|
    .bool (out_2.getD (0 + x_45a3.toNat) (.dead ())) fun x_3900 =>
    .bif ((!x_3900))
    (C65 but_1 x_45a3 fun v_275e =>
      G39_2 next_0 but_1 out_2 todo_3 x_45a3 v_4 v_5 (!v_275e))
    (G39_2 next_0 but_1 out_2 todo_3 x_45a3 v_4 v_5 false))
  (.ck (decide ((1 : Int) ≤ ((todo_3.length : Nat) : Int)) && decide (((todo_3.length : Nat) : Int) ≤ ((todo_3.length : Nat) : Int))) <|
    B39_0 next_0 but_1 out_2 ((todo_3.drop 1).take ((((todo_3.length : Nat) : Int) - 1).toNat)))
theorem eH39_1 {next_0 : List TV} {but_1 : List TV} {out_2 : List TV} {todo_3 : List TV} {v_4 : List TV} {v_5 : Int} {r : Res} (h : S cx 39 (NH39_1 next_0 but_1 out_2 todo_3 v_4 v_5) = some r) : S cx 39 (H39_1 next_0 but_1 out_2 todo_3 v_4 v_5) = some r :=
  hw_of (fun call hd hb pt rg => by kernel_rfl) h
noncomputable def NG39_2 (next_0 : List TV) (but_1 : List TV) (out_2 : List TV) (todo_3 : List TV) (k_4 : Int) (v_5 : List TV) (v_7 : Int) (v_6 : Bool) : Nd :=
  .bif (v_6)
  (.ck (decide ((0 : Int) ≤ k_4) && decide (k_4 < ((out_2.length : Nat) : Int))) <|
    .ck (decide ((todo_3.length + ([i64 k_4] : List TV).length) * 8 < lim)) <|
    B39_1 next_0 but_1 (out_2.set (0 + k_4.toNat) (tb true)) (todo_3 ++ ([i64 k_4])) v_5 (w64 (v_7 + 1)))
  (B39_1 next_0 but_1 out_2 todo_3 v_5 (w64 (v_7 + 1)))
theorem eG39_2 {next_0 : List TV} {but_1 : List TV} {out_2 : List TV} {todo_3 : List TV} {k_4 : Int} {v_5 : List TV} {v_7 : Int} {v_6 : Bool} {r : Res} (h : S cx 39 (NG39_2 next_0 but_1 out_2 todo_3 k_4 v_5 v_7 v_6) = some r) : S cx 39 (G39_2 next_0 but_1 out_2 todo_3 k_4 v_5 v_7 v_6) = some r :=
  pw_of (fun call hd hb pt rg => by kernel_rfl) h
noncomputable def EH40_0 (out_1 : List TV) (v_0 : List TV) (v_2 : Int) : Env := [.un, .un, .un, .val [] (sl false ⟨1, true⟩ out_1), .un, .un, .un, .un, .un, .val [] (sl true ⟨4, true⟩ v_0), .val [] (i64 ((v_0.length : Nat) : Int)), .val [] (i64 v_2)] ++ uns 12
noncomputable abbrev H40_0 (out_1 : List TV) (v_0 : List TV) (v_2 : Int) : Nd := .head [1, 1, 0, 1, 2] (EH40_0 out_1 v_0 v_2)
noncomputable abbrev B40_0 (out_1 : List TV) (v_0 : List TV) (v_2 : Int) : Nd := .back [1, 1, 0, 1, 2] (EH40_0 out_1 v_0 v_2)
noncomputable def N40 (f_0 : List TV) : Nd :=
  .ck (decide ((0 : Int) ≤ ((f_0.length : Nat) : Int)) && decide (((f_0.length : Nat) : Int) ≤ ((f_0.length : Nat) : Int)) && decide (((f_0.length : Nat) : Int) * 24 < (lim : Int)) && decide (((f_0.length : Nat) : Int) < 9223372036854775807) && true && true) <|
  H40_0 (List.replicate (((f_0.length : Nat) : Int).toNat) (sl false ⟨1, false⟩ ([]))) f_0 0
theorem e40 {f_0 : List TV} {r : Res} (h : S cx 40 (N40 f_0) = some r) : tw cx 40 [sl true ⟨4, true⟩ f_0] = some r :=
  tw_of (fun call hd hb pt rg => by kernel_rfl) h
noncomputable def NH40_0 (out_1 : List TV) (v_0 : List TV) (v_2 : Int) : Nd :=
  .bif (decide (v_2 < ((v_0.length : Nat) : Int)))
  (.ck (decide ((0 : Int) ≤ v_2) && decide (v_2 < ((v_0.length : Nat) : Int))) <|
    V4 (v_0.getD (0 + v_2.toNat) (.dead ())) fun codes_cad5 go_acbc test_a22b nexts_e1c3 =>
    .ck (decide ((0 : Int) ≤ v_2) && decide (v_2 < ((out_1.length : Nat) : Int))) <|
    B40_0 (out_1.set (0 + v_2.toNat) (sl true ⟨1, false⟩ nexts_e1c3)) v_0 (w64 (v_2 + 1)))
  (.ret [sl false ⟨1, true⟩ out_1] [])
theorem eH40_0 {out_1 : List TV} {v_0 : List TV} {v_2 : Int} {r : Res} (h : S cx 40 (NH40_0 out_1 v_0 v_2) = some r) : S cx 40 (H40_0 out_1 v_0 v_2) = some r :=
  hw_of (fun call hd hb pt rg => by kernel_rfl) h
noncomputable def N41 (l_0 : List TV) : Nd :=
  .bif (decide (((l_0.length : Nat) : Int) ≤ 60))
  (C36 l_0 8 fun v_45fd =>
    .ret [tb v_45fd] [])
  (.ret [tb false] [])
theorem e41 {l_0 : List TV} {r : Res} (h : S cx 41 (N41 l_0) = some r) : tw cx 41 [sl true ⟨6, false⟩ l_0] = some r :=
  tw_of (fun call hd hb pt rg => by kernel_rfl) h
noncomputable def EH42_0 (out_1 : List TV) (v_0 : List TV) (v_2 : Int) : Env := [.un, .un, .val [] (.pt false () (.st [sl false ⟨1, true⟩ ([])])), .val [] (.pt false () (.st [sl false ⟨1, true⟩ out_1])), .un, .un, .un, .un, .un, .un, .val [] (sl true ⟨1, true⟩ v_0), .val [] (i64 ((v_0.length : Nat) : Int)), .val [] (i64 v_2)] ++ uns 17
noncomputable abbrev H42_0 (out_1 : List TV) (v_0 : List TV) (v_2 : Int) : Nd := .head [1, 1, 0, 1, 2] (EH42_0 out_1 v_0 v_2)
noncomputable abbrev B42_0 (out_1 : List TV) (v_0 : List TV) (v_2 : Int) : Nd := .back [1, 1, 0, 1, 2] (EH42_0 out_1 v_0 v_2)
noncomputable def N42 (next_0 : List TV) : Nd :=
  .ck (decide ((0 : Int) ≤ ((next_0.length : Nat) : Int)) && decide (((next_0.length : Nat) : Int) ≤ ((next_0.length : Nat) : Int)) && decide (((next_0.length : Nat) : Int) * 24 < (lim : Int)) && decide (((next_0.length : Nat) : Int) < 9223372036854775807) && true && true) <|
  H42_0 (List.replicate (((next_0.length : Nat) : Int).toNat) (sl false ⟨1, false⟩ ([]))) next_0 0
theorem e42 {next_0 : List TV} {r : Res} (h : S cx 42 (N42 next_0) = some r) : tw cx 42 [sl true ⟨1, true⟩ next_0] = some r :=
  tw_of (fun call hd hb pt rg => by kernel_rfl) h
noncomputable def NH42_0_s0 (out_1 : List TV) (v_0 : List TV) (v_2 : Int) (vs_cd8d : List TV) : Nd :=
  C68 vs_cd8d fun vs_87c7 =>
  .ck (decide ((0 : Int) ≤ v_2) && decide (v_2 < ((out_1.length : Nat) : Int))) <|
  B42_0 (out_1.set (0 + v_2.toNat) (sl true ⟨1, false⟩ vs_87c7)) v_0 (w64 (v_2 + 1))
noncomputable def NH42_0 (out_1 : List TV) (v_0 : List TV) (v_2 : Int) : Nd :=
  .bif (decide (v_2 < ((v_0.length : Nat) : Int)))
  (.ck (decide ((0 : Int) ≤ v_2) && decide (v_2 < ((v_0.length : Nat) : Int))) <|
    .slR ⟨1, false⟩ (v_0.getD (0 + v_2.toNat) (.dead ())) fun xs_c8c8 =>
    C66 xs_c8c8 fun vs_c622 =>
    C67 vs_c622 fun vs_cd8d =>
    .amb2 
    (NH42_0_s0 out_1 v_0 v_2 vs_cd8d) 
    (NH42_0_s0 out_1 v_0 v_2 vs_cd8d))
  (.ret [.st [sl false ⟨1, true⟩ out_1]] [])
theorem eH42_0 {out_1 : List TV} {v_0 : List TV} {v_2 : Int} {r : Res} (h : S cx 42 (NH42_0 out_1 v_0 v_2) = some r) : S cx 42 (H42_0 out_1 v_0 v_2) = some r :=
  hw_of (fun call hd hb pt rg => by kernel_rfl) h
noncomputable def EG43_0 (g_0 : List TV) (dom_1 : List TV) : Env := [.val [] (.pt true () (.st [sl false ⟨1, true⟩ g_0])), .un, .un, .val [] (sl false ⟨1, true⟩ dom_1), .val [] (sl false ⟨1, true⟩ (List.replicate (((g_0.length : Nat) : Int).toNat) (sl false ⟨1, false⟩ ([]))))] ++ uns 84
noncomputable abbrev G43_0 (g_0 : List TV) (dom_1 : List TV) : Nd := .go [1, 1] (EG43_0 g_0 dom_1)
noncomputable def EH43_1 (g_0 : List TV) (dom_1 : List TV) (next_3 : List TV) (v_2 : Int) : Env := [.val [] (.pt true () (.st [sl false ⟨1, true⟩ g_0])), .un, .un, .val [] (sl false ⟨1, true⟩ dom_1), .val [] (sl false ⟨1, true⟩ next_3)] ++ uns 22 ++ [.val [] (sl true ⟨1, true⟩ g_0), .val [] (i64 ((g_0.length : Nat) : Int)), .val [] (i64 v_2)] ++ uns 59
noncomputable abbrev H43_1 (g_0 : List TV) (dom_1 : List TV) (next_3 : List TV) (v_2 : Int) : Nd := .head [1, 1, 0, 1, 2] (EH43_1 g_0 dom_1 next_3 v_2)
noncomputable abbrev B43_1 (g_0 : List TV) (dom_1 : List TV) (next_3 : List TV) (v_2 : Int) : Nd := .back [1, 1, 0, 1, 2] (EH43_1 g_0 dom_1 next_3 v_2)
noncomputable def EH43_2 (g_0 : List TV) (dom_1 : List TV) (next_3 : List TV) (from_5 : Int) (v_6 : Int) (v_2 : List TV) (v_4 : Int) : Env := [.val [] (.pt true () (.st [sl false ⟨1, true⟩ g_0])), .un, .un, .val [] (sl false ⟨1, true⟩ dom_1), .val [] (sl false ⟨1, true⟩ next_3), .val [] (i64 from_5)] ++ uns 21 ++ [.val [] (sl true ⟨1, true⟩ g_0), .val [] (i64 ((g_0.length : Nat) : Int)), .val [] (i64 v_6), .un, .un, .un, .un, .val [] (sl true ⟨1, false⟩ v_2), .val [] (i64 ((v_2.length : Nat) : Int)), .val [] (i64 v_4)] ++ uns 52
noncomputable abbrev H43_2 (g_0 : List TV) (dom_1 : List TV) (next_3 : List TV) (from_5 : Int) (v_6 : Int) (v_2 : List TV) (v_4 : Int) : Nd := .head [1, 1, 0, 1, 2, 5, 1, 1, 0, 2, 1, 1, 2] (EH43_2 g_0 dom_1 next_3 from_5 v_6 v_2 v_4)
noncomputable abbrev B43_2 (g_0 : List TV) (dom_1 : List TV) (next_3 : List TV) (from_5 : Int) (v_6 : Int) (v_2 : List TV) (v_4 : Int) : Nd := .back [1, 1, 0, 1, 2, 5, 1, 1, 0, 2, 1, 1, 2] (EH43_2 g_0 dom_1 next_3 from_5 v_6 v_2 v_4)
noncomputable def EH43_3 (next_1 : List TV) (v_0 : List TV) (v_2 : Int) : Env := [.un, .un, .un, .un, .val [] (sl false ⟨1, true⟩ next_1)] ++ uns 60 ++ [.val [] (sl false ⟨1, false⟩ v_0), .val [] (i64 ((v_0.length : Nat) : Int)), .val [] (i64 v_2)] ++ uns 21
noncomputable abbrev H43_3 (next_1 : List TV) (v_0 : List TV) (v_2 : Int) : Nd := .head [1, 1, 1, 0, 1, 2] (EH43_3 next_1 v_0 v_2)
noncomputable abbrev B43_3 (next_1 : List TV) (v_0 : List TV) (v_2 : Int) : Nd := .back [1, 1, 1, 0, 1, 2] (EH43_3 next_1 v_0 v_2)
noncomputable def EH43_4 (next_0 : List TV) (k_1 : Int) (v_2 : List TV) (v_5 : Int) (v_3 : Int) (v_4 : Int) : Env := [.un, .un, .un, .un, .val [] (sl false ⟨1, true⟩ next_0), .un, .un, .un, .un, .un, .val [] (i64 k_1)] ++ uns 54 ++ [.val [] (sl false ⟨1, false⟩ v_2), .val [] (i64 ((v_2.length : Nat) : Int)), .val [] (i64 v_5), .un, .un, .un, .un, .un, .un, .ref 4 [.i 34 (0 + k_1.toNat)] none 34 false, .val [] (i64 v_3), .val [] (i64 v_4)] ++ uns 12
noncomputable abbrev H43_4 (next_0 : List TV) (k_1 : Int) (v_2 : List TV) (v_5 : Int) (v_3 : Int) (v_4 : Int) : Nd := .head [1, 1, 1, 0, 1, 2, 5, 1, 1, 0, 2, 1, 1, 2] (EH43_4 next_0 k_1 v_2 v_5 v_3 v_4)
noncomputable abbrev B43_4 (next_0 : List TV) (k_1 : Int) (v_2 : List TV) (v_5 : Int) (v_3 : Int) (v_4 : Int) : Nd := .back [1, 1, 1, 0, 1, 2, 5, 1, 1, 0, 2, 1, 1, 2] (EH43_4 next_0 k_1 v_2 v_5 v_3 v_4)
noncomputable def N43_s0 (g_0 : List TV) : Nd :=
  C50 g_0 fun vs_1de0 =>
  .ck (deepL [sl false ⟨1, true⟩ vs_1de0]) <|
  .ck (decide ((0 : Int) ≤ ((g_0.length : Nat) : Int)) && decide (((g_0.length : Nat) : Int) ≤ ((g_0.length : Nat) : Int)) && decide (((g_0.length : Nat) : Int) * 24 < (lim : Int)) && decide (((g_0.length : Nat) : Int) < 9223372036854775807) && true && true) <|
  G43_0 g_0 vs_1de0
noncomputable def N43_s1 (g_0 : List TV) : Nd :=
  .ck (decide ((0 : Int) ≤ ((g_0.length : Nat) : Int)) && decide (((g_0.length : Nat) : Int) ≤ ((g_0.length : Nat) : Int)) && decide (((g_0.length : Nat) : Int) * 24 < (lim : Int)) && decide (((g_0.length : Nat) : Int) < 9223372036854775807) && true && true) <|
  C50 g_0 fun vs_1de0 =>
  .ck (deepL [sl false ⟨1, true⟩ vs_1de0]) <|
  G43_0 g_0 vs_1de0
noncomputable def N43_s2 (g_0 : List TV) : Nd :=
  .amb2 
  (N43_s0 g_0) 
  (N43_s1 g_0)
noncomputable def N43 (g_0 : List TV) : Nd :=
  .amb2 
  (.amb2 
    (N43_s0 g_0) 
    (N43_s2 g_0)) 
  (.amb2 
    (N43_s2 g_0) 
    (N43_s1 g_0))
theorem e43 {g_0 : List TV} {r : Res} (h : S cx 43 (N43 g_0) = some r) : tw cx 43 [.pt true () (.st [sl false ⟨1, true⟩ g_0])] = some r :=
  tw_of (fun call hd hb pt rg => by kernel_rfl) h
noncomputable def NG43_0 (g_0 : List TV) (dom_1 : List TV) : Nd :=
  H43_1 g_0 dom_1 (List.replicate (((g_0.length : Nat) : Int).toNat) (sl false ⟨1, false⟩ ([]))) 0
theorem eG43_0 {g_0 : List TV} {dom_1 : List TV} {r : Res} (h : S cx 43 (NG43_0 g_0 dom_1) = some r) : S cx 43 (G43_0 g_0 dom_1) = some r :=
  pw_of (fun call hd hb pt rg => by kernel_rfl) h
noncomputable def NH43_1 (g_0 : List TV) (dom_1 : List TV) (next_3 : List TV) (v_2 : Int) : Nd :=
  .bif (decide (v_2 < ((g_0.length : Nat) : Int)))
  (.ck (decide ((0 : Int) ≤ v_2) && decide (v_2 < ((g_0.length : Nat) : Int))) <|
    .slR ⟨1, false⟩ (g_0.getD (0 + v_2.toNat) (.dead ())) fun xs_c14c =>
    H43_2 g_0 dom_1 next_3 v_2 v_2 xs_c14c 0)
  (C39 g_0 0 ([]) fun vs_2c1a =>
    C51 vs_2c1a fun vs_4356 =>
    H43_3 next_3 vs_4356 0)
theorem eH43_1 {g_0 : List TV} {dom_1 : List TV} {next_3 : List TV} {v_2 : Int} {r : Res} (h : S cx 43 (NH43_1 g_0 dom_1 next_3 v_2) = some r) : S cx 43 (H43_1 g_0 dom_1 next_3 v_2) = some r :=
  hw_of (fun call hd hb pt rg => by kernel_rfl) h
noncomputable def NH43_2_s0 (g_0 : List TV) (dom_1 : List TV) (next_3 : List TV) (from_5 : Int) (v_6 : Int) (v_2 : List TV) (v_4 : Int) (x_3136 : Int) (xs_2803_2 : List TV) : Nd :=
  .bool (xs_2803_2.getD (0 + x_3136.toNat) (.dead ())) fun x_a71f =>
  .bif ((!x_a71f))
  (.ck (decide ((0 : Int) ≤ from_5) && decide (from_5 < ((next_3.length : Nat) : Int))) <|
    .slO ⟨1, false⟩ (next_3.getD (0 + from_5.toNat) (.dead ())) fun vs_9eec =>
    .slO ⟨1, false⟩ (next_3.getD (0 + from_5.toNat) (.dead ())) fun vs_9eec_2 =>
    .ck (decide ((vs_9eec_2.length + ([i64 x_3136] : List TV).length) * 8 < lim)) <|
    .ck (decide ((0 : Int) ≤ from_5) && decide (from_5 < (((next_3.set (0 + from_5.toNat) (.dead ())).length : Nat) : Int))) <|
    B43_2 g_0 dom_1 ((next_3.set (0 + from_5.toNat) (.dead ())).set (0 + from_5.toNat) (sl false ⟨1, false⟩ (vs_9eec_2 ++ ([i64 x_3136])))) from_5 v_6 v_2 (w64 (v_4 + 1)))
  (B43_2 g_0 dom_1 next_3 from_5 v_6 v_2 (w64 (v_4 + 1)))
noncomputable def NH43_2_s1 (g_0 : List TV) (dom_1 : List TV) (next_3 : List TV) (from_5 : Int) (v_6 : Int) (v_2 : List TV) (v_4 : Int) (x_3136 : Int) (xs_2803 : List TV) : Nd :=
  .ck (decide ((0 : Int) ≤ x_3136) && decide (x_3136 < ((xs_2803.length : Nat) : Int))) <|
  .slB ⟨1, false⟩ (dom_1.getD (0 + from_5.toNat) (.dead ())) fun r xs_2803_2 => bif r then 
  (NH43_2_s0 g_0 dom_1 next_3 from_5 v_6 v_2 v_4 x_3136 xs_2803_2)
  else (NH43_2_s0 g_0 dom_1 next_3 from_5 v_6 v_2 v_4 x_3136 xs_2803_2)
noncomputable def NH43_2 (g_0 : List TV) (dom_1 : List TV) (next_3 : List TV) (from_5 : Int) (v_6 : Int) (v_2 : List TV) (v_4 : Int) : Nd :=
  .bif (decide (v_4 < ((v_2.length : Nat) : Int)))
  (.ck (decide ((0 : Int) ≤ v_4) && decide (v_4 < ((v_2.length : Nat) : Int))) <|
    .int .i64 (v_2.getD (0 + v_4.toNat) (.dead ())) fun x_3136 =>
    .ck (decide ((0 : Int) ≤ from_5) && decide (from_5 < ((dom_1.length : Nat) : Int))) <|
    .slO ⟨1, false⟩ (dom_1.getD (0 + from_5.toNat) (.dead ())) fun vs_592c =>
    .slB ⟨1, false⟩ (dom_1.getD (0 + from_5.toNat) (.dead ())) fun r xs_2803 => bif r then 
    (NH43_2_s1 g_0 dom_1 next_3 from_5 v_6 v_2 v_4 x_3136 xs_2803)
    else (NH43_2_s1 g_0 dom_1 next_3 from_5 v_6 v_2 v_4 x_3136 xs_2803))
  (B43_1 g_0 dom_1 next_3 (w64 (v_6 + 1)))
theorem eH43_2 {g_0 : List TV} {dom_1 : List TV} {next_3 : List TV} {from_5 : Int} {v_6 : Int} {v_2 : List TV} {v_4 : Int} {r : Res} (h : S cx 43 (NH43_2 g_0 dom_1 next_3 from_5 v_6 v_2 v_4) = some r) : S cx 43 (H43_2 g_0 dom_1 next_3 from_5 v_6 v_2 v_4) = some r :=
  hw_of (fun call hd hb pt rg => by kernel_rfl) h
noncomputable def NH43_3 (next_1 : List TV) (v_0 : List TV) (v_2 : Int) : Nd :=
  .bif (decide (v_2 < ((v_0.length : Nat) : Int)))
  (.ck (decide ((0 : Int) ≤ v_2) && decide (v_2 < ((v_0.length : Nat) : Int))) <|
    .int .i64 (v_0.getD (0 + v_2.toNat) (.dead ())) fun x_b1ad =>
    .ck (decide ((0 : Int) ≤ x_b1ad) && decide (x_b1ad < ((next_1.length : Nat) : Int))) <|
    .slO ⟨1, false⟩ (next_1.getD (0 + x_b1ad.toNat) (.dead ())) fun vs_099c =>
    .slB ⟨1, false⟩ (next_1.getD (0 + x_b1ad.toNat) (.dead ())) fun r xs_8615 => bif r then 
    (H43_4 next_1 x_b1ad v_0 v_2 ((xs_8615.length : Nat) : Int) 0)
    else (H43_4 next_1 x_b1ad v_0 v_2 ((xs_8615.length : Nat) : Int) 0))
  (.ret [tb true] [])
theorem eH43_3 {next_1 : List TV} {v_0 : List TV} {v_2 : Int} {r : Res} (h : S cx 43 (NH43_3 next_1 v_0 v_2) = some r) : S cx 43 (H43_3 next_1 v_0 v_2) = some r :=
  hw_of (fun call hd hb pt rg => by kernel_rfl) h
noncomputable def NH43_4_s0 (next_0 : List TV) (k_1 : Int) (v_2 : List TV) (v_5 : Int) (v_3 : Int) (v_4 : Int) (xs_40c6_2 : List TV) : Nd :=
  .int .i64 (xs_40c6_2.getD (0 + v_4.toNat) (.dead ())) fun x_3b74 =>
  C39 next_0 x_3b74 ([]) fun vs_bc3c =>
  .ck (decide ((0 : Int) ≤ k_1) && decide (k_1 < ((vs_bc3c.length : Nat) : Int))) <|
  .bool (vs_bc3c.getD (0 + k_1.toNat) (.dead ())) fun x_dd5f =>
  .bif (x_dd5f)
  (.ret [tb false] [])
  (B43_4 next_0 k_1 v_2 v_5 v_3 (w64 (v_4 + 1)))
noncomputable def NH43_4_s1 (next_0 : List TV) (k_1 : Int) (v_2 : List TV) (v_5 : Int) (v_3 : Int) (v_4 : Int) (xs_40c6 : List TV) : Nd :=
  .ck (decide ((0 : Int) ≤ v_4) && decide (v_4 < ((xs_40c6.length : Nat) : Int))) <|
  .slB ⟨1, false⟩ (next_0.getD (0 + k_1.toNat) (.dead ())) fun r xs_40c6_2 => bif r then 
  (NH43_4_s0 next_0 k_1 v_2 v_5 v_3 v_4 xs_40c6_2)
  else (NH43_4_s0 next_0 k_1 v_2 v_5 v_3 v_4 xs_40c6_2)
noncomputable def NH43_4 (next_0 : List TV) (k_1 : Int) (v_2 : List TV) (v_5 : Int) (v_3 : Int) (v_4 : Int) : Nd :=
  .bif (decide (v_4 < v_3))
  (.slB ⟨1, false⟩ (next_0.getD (0 + k_1.toNat) (.dead ())) fun r xs_40c6 => bif r then 
    (NH43_4_s1 next_0 k_1 v_2 v_5 v_3 v_4 xs_40c6)
    else (NH43_4_s1 next_0 k_1 v_2 v_5 v_3 v_4 xs_40c6))
  (B43_3 next_0 v_2 (w64 (v_5 + 1)))
theorem eH43_4 {next_0 : List TV} {k_1 : Int} {v_2 : List TV} {v_5 : Int} {v_3 : Int} {v_4 : Int} {r : Res} (h : S cx 43 (NH43_4 next_0 k_1 v_2 v_5 v_3 v_4) = some r) : S cx 43 (H43_4 next_0 k_1 v_2 v_5 v_3 v_4) = some r :=
  hw_of (fun call hd hb pt rg => by kernel_rfl) h
noncomputable def EH44_0 (a_0 : List TV) (b_1 : List TV) (i_2 : Int) : Env := [.val [] (sl true ⟨6, false⟩ a_0), .val [] (sl true ⟨6, false⟩ b_1), .un, .un, .un, .val [] (i64 i_2)] ++ uns 23
noncomputable abbrev H44_0 (a_0 : List TV) (b_1 : List TV) (i_2 : Int) : Nd := .head [1, 1, 0, 1, 2] (EH44_0 a_0 b_1 i_2)
noncomputable abbrev B44_0 (a_0 : List TV) (b_1 : List TV) (i_2 : Int) : Nd := .back [1, 1, 0, 1, 2] (EH44_0 a_0 b_1 i_2)
noncomputable def N44 (a_0 : List TV) (b_1 : List TV) : Nd :=
  .bif ((((a_0.length : Nat) : Int) != ((b_1.length : Nat) : Int)))
  (.ret [tb false] [])
  (H44_0 a_0 b_1 0)
theorem e44 {a_0 : List TV} {b_1 : List TV} {r : Res} (h : S cx 44 (N44 a_0 b_1) = some r) : tw cx 44 [sl true ⟨6, false⟩ a_0, sl true ⟨6, false⟩ b_1] = some r :=
  tw_of (fun call hd hb pt rg => by kernel_rfl) h
noncomputable def NH44_0 (a_0 : List TV) (b_1 : List TV) (i_2 : Int) : Nd :=
  .bif (decide (i_2 < ((a_0.length : Nat) : Int)))
  (.ck (decide ((0 : Int) ≤ i_2) && decide (i_2 < ((a_0.length : Nat) : Int))) <|
    V6 (a_0.getD (0 + i_2.toNat) (.dead ())) fun op_e85d do_3fec dst_ffe3 a_68fc b_0250 n_1558 =>
    .ck (decide ((0 : Int) ≤ i_2) && decide (i_2 < ((b_1.length : Nat) : Int))) <|
    V6 (b_1.getD (0 + i_2.toNat) (.dead ())) fun op_001b do_4771 dst_5278 a_3e66 b_9cad n_8b0d =>
    C69 op_e85d do_3fec dst_ffe3 a_68fc b_0250 n_1558 op_001b do_4771 dst_5278 a_3e66 b_9cad n_8b0d fun v_3d89 =>
    .bif ((!v_3d89))
    (.ret [tb false] [])
    (B44_0 a_0 b_1 (w64 (i_2 + 1))))
  (.ret [tb true] [])
theorem eH44_0 {a_0 : List TV} {b_1 : List TV} {i_2 : Int} {r : Res} (h : S cx 44 (NH44_0 a_0 b_1 i_2) = some r) : S cx 44 (H44_0 a_0 b_1 i_2) = some r :=
  hw_of (fun call hd hb pt rg => by kernel_rfl) h
noncomputable def EH45_0 (a_0 : List TV) (b_1 : List TV) (i_2 : Int) : Env := [.val [] (sl true ⟨1, false⟩ a_0), .val [] (sl true ⟨1, false⟩ b_1), .un, .un, .un, .val [] (i64 i_2)] ++ uns 22
noncomputable abbrev H45_0 (a_0 : List TV) (b_1 : List TV) (i_2 : Int) : Nd := .head [1, 1, 0, 1, 2] (EH45_0 a_0 b_1 i_2)
noncomputable abbrev B45_0 (a_0 : List TV) (b_1 : List TV) (i_2 : Int) : Nd := .back [1, 1, 0, 1, 2] (EH45_0 a_0 b_1 i_2)
noncomputable def N45 (a_0 : List TV) (b_1 : List TV) : Nd :=
  .bif ((((a_0.length : Nat) : Int) != ((b_1.length : Nat) : Int)))
  (.ret [tb false] [])
  (H45_0 a_0 b_1 0)
theorem e45 {a_0 : List TV} {b_1 : List TV} {r : Res} (h : S cx 45 (N45 a_0 b_1) = some r) : tw cx 45 [sl true ⟨1, false⟩ a_0, sl true ⟨1, false⟩ b_1] = some r :=
  tw_of (fun call hd hb pt rg => by kernel_rfl) h
noncomputable def NH45_0 (a_0 : List TV) (b_1 : List TV) (i_2 : Int) : Nd :=
  .bif (decide (i_2 < ((a_0.length : Nat) : Int)))
  (.ck (decide ((0 : Int) ≤ i_2) && decide (i_2 < ((a_0.length : Nat) : Int))) <|
    .int .i64 (a_0.getD (0 + i_2.toNat) (.dead ())) fun x_3db5 =>
    .ck (decide ((0 : Int) ≤ i_2) && decide (i_2 < ((b_1.length : Nat) : Int))) <|
    .int .i64 (b_1.getD (0 + i_2.toNat) (.dead ())) fun x_a7d6 =>
    .bif ((x_3db5 != x_a7d6))
    (.ret [tb false] [])
    (B45_0 a_0 b_1 (w64 (i_2 + 1))))
  (.ret [tb true] [])
theorem eH45_0 {a_0 : List TV} {b_1 : List TV} {i_2 : Int} {r : Res} (h : S cx 45 (NH45_0 a_0 b_1 i_2) = some r) : S cx 45 (H45_0 a_0 b_1 i_2) = some r :=
  hw_of (fun call hd hb pt rg => by kernel_rfl) h
noncomputable def EH46_0 (n_0 : Int) (v_1 : List TV) (v_2 : Int) : Env := [.un, .val [] (i64 n_0), .un, .un, .un, .un, .un, .val [] (sl true ⟨1, false⟩ v_1), .val [] (i64 ((v_1.length : Nat) : Int)), .val [] (i64 v_2)] ++ uns 9
noncomputable abbrev H46_0 (n_0 : Int) (v_1 : List TV) (v_2 : Int) : Nd := .head [1, 0, 1, 2] (EH46_0 n_0 v_1 v_2)
noncomputable abbrev B46_0 (n_0 : Int) (v_1 : List TV) (v_2 : Int) : Nd := .back [1, 0, 1, 2] (EH46_0 n_0 v_1 v_2)
noncomputable def N46 (l_0 : List TV) (n_1 : Int) : Nd :=
  H46_0 n_1 l_0 0
theorem e46 {l_0 : List TV} {n_1 : Int} {r : Res} (h : S cx 46 (N46 l_0 n_1) = some r) : tw cx 46 [sl true ⟨1, false⟩ l_0, i64 n_1] = some r :=
  tw_of (fun call hd hb pt rg => by kernel_rfl) h
noncomputable def NH46_0 (n_0 : Int) (v_1 : List TV) (v_2 : Int) : Nd :=
  .bif (decide (v_2 < ((v_1.length : Nat) : Int)))
  (.ck (decide ((0 : Int) ≤ v_2) && decide (v_2 < ((v_1.length : Nat) : Int))) <|
    .int .i64 (v_1.getD (0 + v_2.toNat) (.dead ())) fun x_e2fd =>
    .bif ((x_e2fd == n_0))
    (.ret [tb true] [])
    (B46_0 n_0 v_1 (w64 (v_2 + 1))))
  (.ret [tb false] [])
theorem eH46_0 {n_0 : Int} {v_1 : List TV} {v_2 : Int} {r : Res} (h : S cx 46 (NH46_0 n_0 v_1 v_2) = some r) : S cx 46 (H46_0 n_0 v_1 v_2) = some r :=
  hw_of (fun call hd hb pt rg => by kernel_rfl) h
noncomputable def EH47_0 (gone_0 : Int) (g_1 : List TV) (seen_3 : List TV) (i_2 : Int) : Env := [.un, .val [] (i64 gone_0), .val [] (.pt false () (.st [sl true ⟨1, true⟩ g_1])), .un, .un, .val [] (sl false ⟨1, false⟩ seen_3), .val [] (i64 i_2)] ++ uns 41
noncomputable abbrev H47_0 (gone_0 : Int) (g_1 : List TV) (seen_3 : List TV) (i_2 : Int) : Nd := .head [1, 1, 1, 0, 1, 2] (EH47_0 gone_0 g_1 seen_3 i_2)
noncomputable abbrev B47_0 (gone_0 : Int) (g_1 : List TV) (seen_3 : List TV) (i_2 : Int) : Nd := .back [1, 1, 1, 0, 1, 2] (EH47_0 gone_0 g_1 seen_3 i_2)
noncomputable def EH47_1 (gone_0 : Int) (g_1 : List TV) (seen_3 : List TV) (i_5 : Int) (v_2 : List TV) (v_4 : Int) : Env := [.un, .val [] (i64 gone_0), .val [] (.pt false () (.st [sl true ⟨1, true⟩ g_1])), .un, .un, .val [] (sl false ⟨1, false⟩ seen_3), .val [] (i64 i_5)] ++ uns 18 ++ [.val [] (sl true ⟨1, false⟩ v_2), .val [] (i64 ((v_2.length : Nat) : Int)), .val [] (i64 v_4)] ++ uns 20
noncomputable abbrev H47_1 (gone_0 : Int) (g_1 : List TV) (seen_3 : List TV) (i_5 : Int) (v_2 : List TV) (v_4 : Int) : Nd := .head [1, 1, 1, 0, 1, 2, 5, 1, 0, 2, 1, 2] (EH47_1 gone_0 g_1 seen_3 i_5 v_2 v_4)
noncomputable abbrev B47_1 (gone_0 : Int) (g_1 : List TV) (seen_3 : List TV) (i_5 : Int) (v_2 : List TV) (v_4 : Int) : Nd := .back [1, 1, 1, 0, 1, 2, 5, 1, 0, 2, 1, 2] (EH47_1 gone_0 g_1 seen_3 i_5 v_2 v_4)
noncomputable def N47 (g_0 : List TV) (gone_1 : Int) : Nd :=
  .bif ((gone_1 == 0))
  (.ret [sl false ⟨1, false⟩ ([])] [])
  (H47_0 gone_1 g_0 ([i64 0]) 0)
theorem e47 {g_0 : List TV} {gone_1 : Int} {r : Res} (h : S cx 47 (N47 g_0 gone_1) = some r) : tw cx 47 [.st [sl true ⟨1, true⟩ g_0], i64 gone_1] = some r :=
  tw_of (fun call hd hb pt rg => by kernel_rfl) h
noncomputable def NH47_0 (gone_0 : Int) (g_1 : List TV) (seen_3 : List TV) (i_2 : Int) : Nd :=
  .bif (decide (i_2 < ((seen_3.length : Nat) : Int)))
  (.ck (decide ((0 : Int) ≤ i_2) && decide (i_2 < ((seen_3.length : Nat) : Int))) <|
    .int .i64 (seen_3.getD (0 + i_2.toNat) (.dead ())) fun x_1201 =>
    .ck (decide ((0 : Int) ≤ x_1201) && decide (x_1201 < ((g_1.length : Nat) : Int))) <|
    .slR ⟨1, false⟩ (g_1.getD (0 + x_1201.toNat) (.dead ())) fun xs_0bc5 =>
    H47_1 gone_0 g_1 seen_3 i_2 xs_0bc5 0)
  (.ret [sl false ⟨1, false⟩ seen_3] [])
theorem eH47_0 {gone_0 : Int} {g_1 : List TV} {seen_3 : List TV} {i_2 : Int} {r : Res} (h : S cx 47 (NH47_0 gone_0 g_1 seen_3 i_2) = some r) : S cx 47 (H47_0 gone_0 g_1 seen_3 i_2) = some r :=
  hw_of (fun call hd hb pt rg => by kernel_rfl) h
noncomputable def NH47_1 (gone_0 : Int) (g_1 : List TV) (seen_3 : List TV) (i_5 : Int) (v_2 : List TV) (v_4 : Int) : Nd :=
  .bif (decide (v_4 < ((v_2.length : Nat) : Int)))
  (.ck (decide ((0 : Int) ≤ v_4) && decide (v_4 < ((v_2.length : Nat) : Int))) <|
    .int .i64 (v_2.getD (0 + v_4.toNat) (.dead ())) fun x_3136 =>
    .bif ((x_3136 != gone_0))
    (C46 seen_3 x_3136 fun v_9609 =>
      .bif ((!v_9609))
      (.ck (decide ((seen_3.length + ([i64 x_3136] : List TV).length) * 8 < lim)) <|
        B47_1 gone_0 g_1 (seen_3 ++ ([i64 x_3136])) i_5 v_2 (w64 (v_4 + 1)))
      (B47_1 gone_0 g_1 seen_3 i_5 v_2 (w64 (v_4 + 1))))
    (B47_1 gone_0 g_1 seen_3 i_5 v_2 (w64 (v_4 + 1))))
  (B47_0 gone_0 g_1 seen_3 (w64 (i_5 + 1)))
theorem eH47_1 {gone_0 : Int} {g_1 : List TV} {seen_3 : List TV} {i_5 : Int} {v_2 : List TV} {v_4 : Int} {r : Res} (h : S cx 47 (NH47_1 gone_0 g_1 seen_3 i_5 v_2 v_4) = some r) : S cx 47 (H47_1 gone_0 g_1 seen_3 i_5 v_2 v_4) = some r :=
  hw_of (fun call hd hb pt rg => by kernel_rfl) h
noncomputable def EH48_0 (n_0 : Int) (k_2 : Int) (l_1 : List TV) : Env := [.ref 48 [] none 34 false, .val [] (i64 n_0), .un, .un, .un, .val [] (i64 k_2)] ++ uns 42 ++ [.val [] (sl false ⟨1, false⟩ l_1), .un]
noncomputable abbrev H48_0 (n_0 : Int) (k_2 : Int) (l_1 : List TV) : Nd := .head [1, 1, 0, 2] (EH48_0 n_0 k_2 l_1)
noncomputable abbrev B48_0 (n_0 : Int) (k_2 : Int) (l_1 : List TV) : Nd := .back [1, 1, 0, 2] (EH48_0 n_0 k_2 l_1)
noncomputable def N48 (l_0 : List TV) (n_1 : Int) : Nd :=
  H48_0 n_1 0 l_0
theorem e48 {l_0 : List TV} {n_1 : Int} {r : Res} (h : S cx 48 (N48 l_0 n_1) = some r) : tw cx 48 [sl false ⟨1, false⟩ l_0, i64 n_1] = some r :=
  tw_of (fun call hd hb pt rg => by kernel_rfl) h
noncomputable def NH48_0_s0 (n_0 : Int) (k_2 : Int) (l_1 : List TV) : Nd :=
  .ck (decide ((0 : Int) ≤ k_2) && decide (k_2 ≤ ((l_1.length : Nat) : Int))) <|
  .ck (decide ((0 + ((l_1.drop 0).take ((k_2 - 0).toNat)).length) * 8 < lim)) <|
  .ck (decide (((([]) ++ ((l_1.drop 0).take ((k_2 - 0).toNat))).length + ([i64 n_0] : List TV).length) * 8 < lim)) <|
  .ck (decide ((0 : Int) ≤ k_2) && decide (k_2 ≤ ((l_1.length : Nat) : Int)) && decide (((l_1.length : Nat) : Int) ≤ ((l_1.length : Nat) : Int))) <|
  .ck (decide ((((([]) ++ ((l_1.drop 0).take ((k_2 - 0).toNat))) ++ ([i64 n_0])).length + ((l_1.drop (0 + k_2.toNat)).take ((((l_1.length : Nat) : Int) - k_2).toNat)).length) * 8 < lim)) <|
  .ret [sl false ⟨1, false⟩ (((([]) ++ ((l_1.drop 0).take ((k_2 - 0).toNat))) ++ ([i64 n_0])) ++ ((l_1.drop (0 + k_2.toNat)).take ((((l_1.length : Nat) : Int) - k_2).toNat)))] []
noncomputable def NH48_0 (n_0 : Int) (k_2 : Int) (l_1 : List TV) : Nd :=
  .bif (decide (k_2 < ((l_1.length : Nat) : Int)))
  (.ck (decide ((0 : Int) ≤ k_2) && decide (k_2 < ((l_1.length : Nat) : Int))) <|
    .int .i64 (l_1.getD (0 + k_2.toNat) (.dead ())) fun x_a5c5 =>
    .bif (decide (x_a5c5 < n_0))
    (B48_0 n_0 (w64 (k_2 + 1)) l_1)
    (.bif (decide (k_2 < ((l_1.length : Nat) : Int)))
      (.ck (decide ((0 : Int) ≤ k_2) && decide (k_2 < ((l_1.length : Nat) : Int))) <|
        .int .i64 (l_1.getD (0 + k_2.toNat) (.dead ())) fun x_a5c5_2 =>
        .bif ((x_a5c5_2 == n_0))
        (.ret [sl false ⟨1, false⟩ l_1] [])
        (NH48_0_s0 n_0 k_2 l_1))
      (NH48_0_s0 n_0 k_2 l_1)))
  (.bif (decide (k_2 < ((l_1.length : Nat) : Int)))
    (.ck (decide ((0 : Int) ≤ k_2) && decide (k_2 < ((l_1.length : Nat) : Int))) <|
      .int .i64 (l_1.getD (0 + k_2.toNat) (.dead ())) fun x_a5c5 =>
      .bif ((x_a5c5 == n_0))
      (.ret [sl false ⟨1, false⟩ l_1] [])
      (NH48_0_s0 n_0 k_2 l_1))
    (NH48_0_s0 n_0 k_2 l_1))
theorem eH48_0 {n_0 : Int} {k_2 : Int} {l_1 : List TV} {r : Res} (h : S cx 48 (NH48_0 n_0 k_2 l_1) = some r) : S cx 48 (H48_0 n_0 k_2 l_1) = some r :=
  hw_of (fun call hd hb pt rg => by kernel_rfl) h
noncomputable def EG50_0 (next_0 : List TV) (all_1 : List TV) : Env := [.val [] (sl true ⟨1, true⟩ next_0), .un, .un, .val [] (sl false ⟨1, true⟩ (List.replicate (((next_0.length : Nat) : Int).toNat) (sl false ⟨1, false⟩ ([])))), .val [] (sl false ⟨1, false⟩ all_1)] ++ uns 61
noncomputable abbrev G50_0 (next_0 : List TV) (all_1 : List TV) : Nd := .go [1, 1] (EG50_0 next_0 all_1)
noncomputable def EH50_1 (next_0 : List TV) (out_2 : List TV) (all_1 : List TV) (v_3 : Int) : Env := [.val [] (sl true ⟨1, true⟩ next_0), .un, .un, .val [] (sl false ⟨1, true⟩ out_2), .val [] (sl false ⟨1, false⟩ all_1)] ++ uns 11 ++ [.val [] (i64 (((List.replicate (((next_0.length : Nat) : Int).toNat) (sl false ⟨1, false⟩ ([]))).length : Nat) : Int)), .val [] (i64 v_3)] ++ uns 48
noncomputable abbrev H50_1 (next_0 : List TV) (out_2 : List TV) (all_1 : List TV) (v_3 : Int) : Nd := .head [1, 1, 0, 1, 2] (EH50_1 next_0 out_2 all_1 v_3)
noncomputable abbrev B50_1 (next_0 : List TV) (out_2 : List TV) (all_1 : List TV) (v_3 : Int) : Nd := .back [1, 1, 0, 1, 2] (EH50_1 next_0 out_2 all_1 v_3)
noncomputable def EH50_2 (next_0 : List TV) (out_3 : List TV) (all_1 : List TV) (v_2 : Int) : Env := [.val [] (sl true ⟨1, true⟩ next_0), .un, .un, .val [] (sl false ⟨1, true⟩ out_3), .val [] (sl false ⟨1, false⟩ all_1)] ++ uns 22 ++ [.ref 4 [] none 66 false, .val [] (i64 ((all_1.length : Nat) : Int)), .val [] (i64 v_2)] ++ uns 36
noncomputable abbrev H50_2 (next_0 : List TV) (out_3 : List TV) (all_1 : List TV) (v_2 : Int) : Nd := .head [1, 1, 1, 0, 1, 2] (EH50_2 next_0 out_3 all_1 v_2)
noncomputable abbrev B50_2 (next_0 : List TV) (out_3 : List TV) (all_1 : List TV) (v_2 : Int) : Nd := .back [1, 1, 1, 0, 1, 2] (EH50_2 next_0 out_3 all_1 v_2)
noncomputable def EH50_3 (next_0 : List TV) (out_3 : List TV) (all_1 : List TV) (k_5 : Int) (left_2 : List TV) (v_6 : Int) (v_7 : Int) (v_4 : Int) : Env := [.val [] (sl true ⟨1, true⟩ next_0), .un, .un, .val [] (sl false ⟨1, true⟩ out_3), .val [] (sl false ⟨1, false⟩ all_1), .un, .val [] (i64 k_5), .un, .val [] (sl false ⟨1, false⟩ left_2)] ++ uns 18 ++ [.ref 4 [] none 66 false, .val [] (i64 ((all_1.length : Nat) : Int)), .val [] (i64 v_6)] ++ uns 11 ++ [.val [] (i64 v_7), .val [] (i64 v_4)] ++ uns 23
noncomputable abbrev H50_3 (next_0 : List TV) (out_3 : List TV) (all_1 : List TV) (k_5 : Int) (left_2 : List TV) (v_6 : Int) (v_7 : Int) (v_4 : Int) : Nd := .head [1, 1, 1, 0, 1, 2, 5, 1, 1, 0, 2, 1, 1, 1, 1, 2] (EH50_3 next_0 out_3 all_1 k_5 left_2 v_6 v_7 v_4)
noncomputable abbrev B50_3 (next_0 : List TV) (out_3 : List TV) (all_1 : List TV) (k_5 : Int) (left_2 : List TV) (v_6 : Int) (v_7 : Int) (v_4 : Int) : Nd := .back [1, 1, 1, 0, 1, 2, 5, 1, 1, 0, 2, 1, 1, 1, 1, 2] (EH50_3 next_0 out_3 all_1 k_5 left_2 v_6 v_7 v_4)
noncomputable def N50 (next_0 : List TV) : Nd :=
  .amb2 
  (.ck (decide ((0 : Int) ≤ ((next_0.length : Nat) : Int)) && decide (((next_0.length : Nat) : Int) ≤ ((next_0.length : Nat) : Int)) && decide (((next_0.length : Nat) : Int) * 24 < (lim : Int)) && decide (((next_0.length : Nat) : Int) < 9223372036854775807) && true && true) <|
    C39 next_0 0 ([]) fun vs_133c =>
    G50_0 next_0 vs_133c) 
  (C39 next_0 0 ([]) fun vs_133c =>
    .ck (decide ((0 : Int) ≤ ((next_0.length : Nat) : Int)) && decide (((next_0.length : Nat) : Int) ≤ ((next_0.length : Nat) : Int)) && decide (((next_0.length : Nat) : Int) * 24 < (lim : Int)) && decide (((next_0.length : Nat) : Int) < 9223372036854775807) && true && true) <|
    G50_0 next_0 vs_133c)
theorem e50 {next_0 : List TV} {r : Res} (h : S cx 50 (N50 next_0) = some r) : tw cx 50 [sl true ⟨1, true⟩ next_0] = some r :=
  tw_of (fun call hd hb pt rg => by kernel_rfl) h
noncomputable def NG50_0 (next_0 : List TV) (all_1 : List TV) : Nd :=
  H50_1 next_0 (List.replicate (((next_0.length : Nat) : Int).toNat) (sl false ⟨1, false⟩ ([]))) all_1 0
theorem eG50_0 {next_0 : List TV} {all_1 : List TV} {r : Res} (h : S cx 50 (NG50_0 next_0 all_1) = some r) : S cx 50 (G50_0 next_0 all_1) = some r :=
  pw_of (fun call hd hb pt rg => by kernel_rfl) h
noncomputable def NH50_1 (next_0 : List TV) (out_2 : List TV) (all_1 : List TV) (v_3 : Int) : Nd :=
  .bif (decide (v_3 < (((List.replicate (((next_0.length : Nat) : Int).toNat) (sl false ⟨1, false⟩ ([]))).length : Nat) : Int)))
  (.ck (decide ((0 : Int) ≤ ((next_0.length : Nat) : Int)) && decide (((next_0.length : Nat) : Int) ≤ ((next_0.length : Nat) : Int)) && decide (((next_0.length : Nat) : Int) * 1 < (lim : Int)) && decide (((next_0.length : Nat) : Int) < 9223372036854775807) && true && true) <|
    .ck (decide ((0 : Int) ≤ v_3) && decide (v_3 < ((out_2.length : Nat) : Int))) <|
    B50_1 next_0 (out_2.set (0 + v_3.toNat) (sl false ⟨1, false⟩ (List.replicate (((next_0.length : Nat) : Int).toNat) (tb false)))) all_1 (w64 (v_3 + 1)))
  (H50_2 next_0 out_2 all_1 0)
theorem eH50_1 {next_0 : List TV} {out_2 : List TV} {all_1 : List TV} {v_3 : Int} {r : Res} (h : S cx 50 (NH50_1 next_0 out_2 all_1 v_3) = some r) : S cx 50 (H50_1 next_0 out_2 all_1 v_3) = some r :=
  hw_of (fun call hd hb pt rg => by kernel_rfl) h
noncomputable def NH50_2 (next_0 : List TV) (out_3 : List TV) (all_1 : List TV) (v_2 : Int) : Nd :=
  .bif (decide (v_2 < ((all_1.length : Nat) : Int)))
  (.ck (decide ((0 : Int) ≤ v_2) && decide (v_2 < ((all_1.length : Nat) : Int))) <|
    .bool (all_1.getD (0 + v_2.toNat) (.dead ())) fun x_834a =>
    .bif ((!x_834a))
    (B50_2 next_0 out_3 all_1 (w64 (v_2 + 1)))
    (C39 next_0 0 ([i64 v_2]) fun vs_ce54 =>
      H50_3 next_0 out_3 all_1 v_2 vs_ce54 v_2 ((out_3.length : Nat) : Int) 0))
  (.ret [sl false ⟨1, true⟩ out_3] [])
theorem eH50_2 {next_0 : List TV} {out_3 : List TV} {all_1 : List TV} {v_2 : Int} {r : Res} (h : S cx 50 (NH50_2 next_0 out_3 all_1 v_2) = some r) : S cx 50 (H50_2 next_0 out_3 all_1 v_2) = some r :=
  hw_of (fun call hd hb pt rg => by kernel_rfl) h
noncomputable def NH50_3_s0 (next_0 : List TV) (out_3 : List TV) (all_1 : List TV) (k_5 : Int) (left_2 : List TV) (v_6 : Int) (v_7 : Int) (v_4 : Int) (x_d611 : Bool) (xs_20b3 : List TV) : Nd :=
  .ck (decide ((0 : Int) ≤ k_5) && decide (k_5 < ((xs_20b3.length : Nat) : Int))) <|
  .slB ⟨1, false⟩ (out_3.getD (0 + v_4.toNat) (.dead ())) fun r xs_20b3_2 => bif r then 
  (.non)
  else (B50_3 next_0 (out_3.set (0 + v_4.toNat) (sl false ⟨1, false⟩ (xs_20b3_2.set (0 + k_5.toNat) (tb (!x_d611))))) all_1 k_5 left_2 v_6 v_7 (w64 (v_4 + 1)))
noncomputable def NH50_3_s1 (next_0 : List TV) (out_3 : List TV) (all_1 : List TV) (k_5 : Int) (left_2 : List TV) (v_6 : Int) (v_7 : Int) (v_4 : Int) (xs_20b3 : List TV) : Nd :=
  .ck (decide ((0 : Int) ≤ k_5) && decide (k_5 < ((xs_20b3.length : Nat) : Int))) <|
  .slB ⟨1, false⟩ (out_3.getD (0 + v_4.toNat) (.dead ())) fun r xs_20b3_2 => bif r then 
  (.non)
  else (B50_3 next_0 (out_3.set (0 + v_4.toNat) (sl false ⟨1, false⟩ (xs_20b3_2.set (0 + k_5.toNat) (tb false)))) all_1 k_5 left_2 v_6 v_7 (w64 (v_4 + 1)))
noncomputable def NH50_3 (next_0 : List TV) (out_3 : List TV) (all_1 : List TV) (k_5 : Int) (left_2 : List TV) (v_6 : Int) (v_7 : Int) (v_4 : Int) : Nd :=
  .bif (decide (v_4 < v_7))
  (.ck (decide ((0 : Int) ≤ v_4) && decide (v_4 < ((out_3.length : Nat) : Int))) <|
    .ck (decide ((0 : Int) ≤ v_4) && decide (v_4 < ((all_1.length : Nat) : Int))) <|
    .bool (all_1.getD (0 + v_4.toNat) (.dead ())) fun x_fcdb =>
    .bif (x_fcdb)
    (.ck (decide ((0 : Int) ≤ v_4) && decide (v_4 < ((left_2.length : Nat) : Int))) <|
      .bool (left_2.getD (0 + v_4.toNat) (.dead ())) fun x_d611 =>
      .slO ⟨1, false⟩ (out_3.getD (0 + v_4.toNat) (.dead ())) fun vs_8636 =>
      .slB ⟨1, false⟩ (out_3.getD (0 + v_4.toNat) (.dead ())) fun r xs_20b3 => bif r then 
      (NH50_3_s0 next_0 out_3 all_1 k_5 left_2 v_6 v_7 v_4 x_d611 xs_20b3)
      else (NH50_3_s0 next_0 out_3 all_1 k_5 left_2 v_6 v_7 v_4 x_d611 xs_20b3))
    (.slO ⟨1, false⟩ (out_3.getD (0 + v_4.toNat) (.dead ())) fun vs_8636 =>
      .slB ⟨1, false⟩ (out_3.getD (0 + v_4.toNat) (.dead ())) fun r xs_20b3 => bif r then 
      (NH50_3_s1 next_0 out_3 all_1 k_5 left_2 v_6 v_7 v_4 xs_20b3)
      else (NH50_3_s1 next_0 out_3 all_1 k_5 left_2 v_6 v_7 v_4 xs_20b3)))
  (B50_2 next_0 out_3 all_1 (w64 (v_6 + 1)))
theorem eH50_3 {next_0 : List TV} {out_3 : List TV} {all_1 : List TV} {k_5 : Int} {left_2 : List TV} {v_6 : Int} {v_7 : Int} {v_4 : Int} {r : Res} (h : S cx 50 (NH50_3 next_0 out_3 all_1 k_5 left_2 v_6 v_7 v_4) = some r) : S cx 50 (H50_3 next_0 out_3 all_1 k_5 left_2 v_6 v_7 v_4) = some r :=
  hw_of (fun call hd hb pt rg => by kernel_rfl) h
noncomputable def EH51_0 (out_1 : List TV) (v_0 : List TV) (v_2 : Int) : Env := [.un, .un, .un, .val [] (sl false ⟨1, false⟩ out_1), .un, .un, .un, .val [] (sl true ⟨1, false⟩ v_0), .val [] (i64 ((v_0.length : Nat) : Int)), .val [] (i64 v_2)] ++ uns 12
noncomputable abbrev H51_0 (out_1 : List TV) (v_0 : List TV) (v_2 : Int) : Nd := .head [1, 1, 0, 1, 2] (EH51_0 out_1 v_0 v_2)
noncomputable abbrev B51_0 (out_1 : List TV) (v_0 : List TV) (v_2 : Int) : Nd := .back [1, 1, 0, 1, 2] (EH51_0 out_1 v_0 v_2)
noncomputable def N51 (is_0 : List TV) : Nd :=
  H51_0 ([]) is_0 0
theorem e51 {is_0 : List TV} {r : Res} (h : S cx 51 (N51 is_0) = some r) : tw cx 51 [sl true ⟨1, false⟩ is_0] = some r :=
  tw_of (fun call hd hb pt rg => by kernel_rfl) h
noncomputable def NH51_0 (out_1 : List TV) (v_0 : List TV) (v_2 : Int) : Nd :=
  .bif (decide (v_2 < ((v_0.length : Nat) : Int)))
  (.ck (decide ((0 : Int) ≤ v_2) && decide (v_2 < ((v_0.length : Nat) : Int))) <|
    .bool (v_0.getD (0 + v_2.toNat) (.dead ())) fun x_b1ad =>
    .bif (x_b1ad)
    (.ck (decide ((out_1.length + ([i64 v_2] : List TV).length) * 8 < lim)) <|
      B51_0 (out_1 ++ ([i64 v_2])) v_0 (w64 (v_2 + 1)))
    (B51_0 out_1 v_0 (w64 (v_2 + 1))))
  (.ret [sl false ⟨1, false⟩ out_1] [])
theorem eH51_0 {out_1 : List TV} {v_0 : List TV} {v_2 : Int} {r : Res} (h : S cx 51 (NH51_0 out_1 v_0 v_2) = some r) : S cx 51 (H51_0 out_1 v_0 v_2) = some r :=
  hw_of (fun call hd hb pt rg => by kernel_rfl) h
noncomputable def N52 (is_0 : Bool) : Nd :=
  .bif (is_0)
  (.ret [i64 1] [])
  (.ret [i64 0] [])
theorem e52 {is_0 : Bool} {r : Res} (h : S cx 52 (N52 is_0) = some r) : tw cx 52 [tb is_0] = some r :=
  tw_of (fun call hd hb pt rg => by kernel_rfl) h
noncomputable def N53 (s_0 : List TV) (s_1 : List TV) (s_2 : List TV) (s_3 : List TV) (s_4 : List TV) (from_5 : Int) (to_6 : Int) : Nd :=
  .ck (decide ((0 : Int) ≤ from_5) && decide (from_5 < ((s_1.length : Nat) : Int))) <|
  .slR ⟨1, false⟩ (s_1.getD (0 + from_5.toNat) (.dead ())) fun xs_b345 =>
  .ck (decide ((0 : Int) ≤ to_6) && decide (to_6 < ((xs_b345.length : Nat) : Int))) <|
  .bool (xs_b345.getD (0 + to_6.toNat) (.dead ())) fun x_0c66 =>
  .ret [tb x_0c66] []
theorem e53 {s_0 : List TV} {s_1 : List TV} {s_2 : List TV} {s_3 : List TV} {s_4 : List TV} {from_5 : Int} {to_6 : Int} {r : Res} (h : S cx 53 (N53 s_0 s_1 s_2 s_3 s_4 from_5 to_6) = some r) : tw cx 53 [.pt true () (.st [sl true ⟨4, true⟩ s_0, sl false ⟨1, true⟩ s_1, sl false ⟨1, false⟩ s_2, sl false ⟨1, true⟩ s_3, sl false ⟨3, true⟩ s_4]), i64 from_5, i64 to_6] = some r :=
  tw_of (fun call hd hb pt rg => by kernel_rfl) h
noncomputable def EG54_0 (x_0 : Int) (x_1 : Int) (x_2 : Int) (x_3 : Int) (x_4 : Int) (x_5 : Int) (v_6 : Bool) : Env := [.un, .val [] (.pt false () (.st [i64 x_0, i64 x_1, i64 x_2, i64 x_3, i64 x_4, i64 x_5]))] ++ uns 20 ++ [.val [] (i64 x_0)] ++ uns 20 ++ [.val [] (tb v_6)] ++ uns 69
noncomputable abbrev G54_0 (x_0 : Int) (x_1 : Int) (x_2 : Int) (x_3 : Int) (x_4 : Int) (x_5 : Int) (v_6 : Bool) : Nd := .go [1, 1, 0, 1, 2, 1, 4, 1] (EG54_0 x_0 x_1 x_2 x_3 x_4 x_5 v_6)
noncomputable def N54_s0 (x_0 : Int) (x_1 : Int) (x_2 : Int) (x_3 : Int) (x_4 : Int) (x_5 : Int) : Nd :=
  .bif ((x_0 == 1))
  (C55 x_2 fun v_b283 =>
    .bif (v_b283)
    (.bif ((x_3 == 0))
      (.bif ((x_4 == 0))
        (C28 x_5 0 65535 fun v_2e96 =>
          .ret [tb v_2e96] [])
        (.ret [tb false] []))
      (.ret [tb false] []))
    (.ret [tb false] []))
  (.bif ((x_0 == 2))
    (G54_0 x_0 x_1 x_2 x_3 x_4 x_5 (x_0 == 2))
    (G54_0 x_0 x_1 x_2 x_3 x_4 x_5 (x_0 == 4)))
noncomputable def N54_s1 (x_0 : Int) (x_1 : Int) (x_2 : Int) (x_3 : Int) (x_4 : Int) (x_5 : Int) : Nd :=
  .bif ((x_0 != 1))
  (.bif ((x_5 != 0))
    (.ret [tb false] [])
    (N54_s0 x_0 x_1 x_2 x_3 x_4 x_5))
  (N54_s0 x_0 x_1 x_2 x_3 x_4 x_5)
noncomputable def N54 (x_0 : Int) (x_1 : Int) (x_2 : Int) (x_3 : Int) (x_4 : Int) (x_5 : Int) : Nd :=
  .bif ((x_0 != 3))
  (.bif ((x_1 != 0))
    (.ret [tb false] [])
    (N54_s1 x_0 x_1 x_2 x_3 x_4 x_5))
  (N54_s1 x_0 x_1 x_2 x_3 x_4 x_5)
theorem e54 {x_0 : Int} {x_1 : Int} {x_2 : Int} {x_3 : Int} {x_4 : Int} {x_5 : Int} {r : Res} (h : S cx 54 (N54 x_0 x_1 x_2 x_3 x_4 x_5) = some r) : tw cx 54 [.st [i64 x_0, i64 x_1, i64 x_2, i64 x_3, i64 x_4, i64 x_5]] = some r :=
  tw_of (fun call hd hb pt rg => by kernel_rfl) h
noncomputable def NG54_0_s0 (x_3 : Int) (x_4 : Int) : Nd :=
  C55 x_3 fun v_07b0 =>
  .bif (v_07b0)
  (.ret [tb (x_4 == 0)] [])
  (.ret [tb false] [])
noncomputable def NG54_0 (x_0 : Int) (x_1 : Int) (x_2 : Int) (x_3 : Int) (x_4 : Int) (x_5 : Int) (v_6 : Bool) : Nd :=
  .bif (v_6)
  (C55 x_2 fun v_b283 =>
    .bif (v_b283)
    (NG54_0_s0 x_3 x_4)
    (.ret [tb false] []))
  (.bif ((x_0 == 3))
    (C55 x_2 fun v_b283 =>
      .bif (v_b283)
      (C55 x_3 fun v_07b0 =>
        .bif (v_07b0)
        (C55 x_4 fun v_692c =>
          .bif (v_692c)
          (C28 x_1 4 9 fun v_6829 =>
            .ret [tb v_6829] [])
          (.ret [tb false] []))
        (.ret [tb false] []))
      (.ret [tb false] []))
    (.bif ((x_0 == 5))
      (.bif ((x_2 == 0))
        (C55 x_3 fun v_07b0 =>
          .bif (v_07b0)
          (C55 x_4 fun v_692c =>
            .ret [tb v_692c] [])
          (.ret [tb false] []))
        (.ret [tb false] []))
      (.bif ((x_0 == 6))
        (.bif ((x_2 == 0))
          (NG54_0_s0 x_3 x_4)
          (.ret [tb false] []))
        (.ret [tb false] []))))
theorem eG54_0 {x_0 : Int} {x_1 : Int} {x_2 : Int} {x_3 : Int} {x_4 : Int} {x_5 : Int} {v_6 : Bool} {r : Res} (h : S cx 54 (NG54_0 x_0 x_1 x_2 x_3 x_4 x_5 v_6) = some r) : S cx 54 (G54_0 x_0 x_1 x_2 x_3 x_4 x_5 v_6) = some r :=
  pw_of (fun call hd hb pt rg => by kernel_rfl) h
noncomputable def N55 (n_0 : Int) : Nd :=
  C28 n_0 0 11 fun v_b807 =>
  .ret [tb v_b807] []
theorem e55 {n_0 : Int} {r : Res} (h : S cx 55 (N55 n_0) = some r) : tw cx 55 [i64 n_0] = some r :=
  tw_of (fun call hd hb pt rg => by kernel_rfl) h
noncomputable def N56 (a_0 : Int) (a_1 : Int) (a_2 : Int) (a_3 : Int) (a_4 : Int) (a_5 : Int) : Nd :=
  .ret [.st [i64 a_0, i64 a_1, i64 a_2, i64 a_3, i64 a_4, i64 a_5]] []
theorem e56 {a_0 : Int} {a_1 : Int} {a_2 : Int} {a_3 : Int} {a_4 : Int} {a_5 : Int} {r : Res} (h : S cx 56 (N56 a_0 a_1 a_2 a_3 a_4 a_5) = some r) : tw cx 56 [.st [i64 a_0, i64 a_1, i64 a_2, i64 a_3, i64 a_4, i64 a_5]] = some r :=
  tw_of (fun call hd hb pt rg => by kernel_rfl) h
noncomputable def EH57_0 (s_0 : List TV) (f_1 : List TV) (v_2 : Int) : Env := [.val [] (sl true ⟨4, true⟩ s_0), .val [] (.cl 35 [.pt true () (sl true ⟨4, true⟩ f_1)]), .un, .un, .un, .un, .un, .val [] (i64 ((s_0.length : Nat) : Int)), .val [] (i64 v_2)] ++ uns 12
noncomputable abbrev H57_0 (s_0 : List TV) (f_1 : List TV) (v_2 : Int) : Nd := .head [1, 0, 1, 2] (EH57_0 s_0 f_1 v_2)
noncomputable abbrev B57_0 (s_0 : List TV) (f_1 : List TV) (v_2 : Int) : Nd := .back [1, 0, 1, 2] (EH57_0 s_0 f_1 v_2)
noncomputable def N57 (s_0 : List TV) (f_1 : List TV) : Nd :=
  H57_0 s_0 f_1 0
theorem e57 {s_0 : List TV} {f_1 : List TV} {r : Res} (h : S cx 57 (N57 s_0 f_1) = some r) : tw cx 57 [sl true ⟨4, true⟩ s_0, .cl 35 [.pt true () (sl true ⟨4, true⟩ f_1)]] = some r :=
  tw_of (fun call hd hb pt rg => by kernel_rfl) h
noncomputable def NH57_0 (s_0 : List TV) (f_1 : List TV) (v_2 : Int) : Nd :=
  .bif (decide (v_2 < ((s_0.length : Nat) : Int)))
  (.ck (decide ((0 : Int) ≤ v_2) && decide (v_2 < ((s_0.length : Nat) : Int))) <|
    V4 (s_0.getD (0 + v_2.toNat) (.dead ())) fun codes_8806 go_0bb1 test_8cba nexts_1f22 =>
    C35 codes_8806 go_0bb1 test_8cba nexts_1f22 f_1 fun v_4e6c =>
    .bif (v_4e6c)
    (.ret [i64 v_2] [])
    (B57_0 s_0 f_1 (w64 (v_2 + 1))))
  (.ret [i64 (-1)] [])
theorem eH57_0 {s_0 : List TV} {f_1 : List TV} {v_2 : Int} {r : Res} (h : S cx 57 (NH57_0 s_0 f_1 v_2) = some r) : S cx 57 (H57_0 s_0 f_1 v_2) = some r :=
  hw_of (fun call hd hb pt rg => by kernel_rfl) h
noncomputable def N58 (s_0 : List TV) (f_1 : Int) : Nd :=
  C72 s_0 f_1 fun v_ac6d =>
  .ret [tb (decide (v_ac6d ≥ 0))] []
theorem e58 {s_0 : List TV} {f_1 : Int} {r : Res} (h : S cx 58 (N58 s_0 f_1) = some r) : tw cx 58 [sl true ⟨6, false⟩ s_0, .cl 59 [.pt true () (i64 f_1)]] = some r :=
  tw_of (fun call hd hb pt rg => by kernel_rfl) h
noncomputable def N59 (x_0 : Int) (x_1 : Int) (x_2 : Int) (x_3 : Int) (x_4 : Int) (x_5 : Int) (v_6 : Int) : Nd :=
  C60 x_0 x_1 x_2 x_3 x_4 x_5 v_6 fun v_9b4d =>
  .ret [tb (!v_9b4d)] []
theorem e59 {x_0 : Int} {x_1 : Int} {x_2 : Int} {x_3 : Int} {x_4 : Int} {x_5 : Int} {v_6 : Int} {r : Res} (h : S cx 59 (N59 x_0 x_1 x_2 x_3 x_4 x_5 v_6) = some r) : tw cx 59 [.st [i64 x_0, i64 x_1, i64 x_2, i64 x_3, i64 x_4, i64 x_5], .pt true () (i64 v_6)] = some r :=
  tw_of (fun call hd hb pt rg => by kernel_rfl) h
noncomputable def N60_s0 (x_1 : Int) (do_b102 : Bool) : Nd :=
  .bif (do_b102)
  (C76 x_1 fun v_e931 =>
    .bif (v_e931)
    (.ret [tb true] [])
    (.bif ((!do_b102))
      (.ret [tb (x_1 == 0)] [])
      (.ret [tb false] [])))
  (.bif ((!do_b102))
    (.ret [tb (x_1 == 0)] [])
    (.ret [tb false] []))
noncomputable def N60_s1 (x_1 : Int) (x_5 : Int) (n_dcf8 : Bool) (do_b102 : Bool) : Nd :=
  .bif ((!n_dcf8))
  (.bif ((x_5 == 0))
    (N60_s0 x_1 do_b102)
    (.ret [tb false] []))
  (.ret [tb false] [])
noncomputable def N60 (x_0 : Int) (x_1 : Int) (x_2 : Int) (x_3 : Int) (x_4 : Int) (x_5 : Int) (many_6 : Int) : Nd :=
  C73 x_0 fun dst_89a9 a_80ef b_e45f n_dcf8 do_b102 v_a21e =>
  .bif ((!v_a21e))
  (.ret [tb false] [])
  (C74 dst_89a9 x_2 many_6 fun v_d93c =>
    .bif ((!v_d93c))
    (.ret [tb false] [])
    (C74 a_80ef x_3 many_6 fun v_830b =>
      .bif ((!v_830b))
      (.ret [tb false] [])
      (C74 b_e45f x_4 many_6 fun v_e3bb =>
        .bif ((!v_e3bb))
        (.ret [tb false] [])
        (.bif (n_dcf8)
          (C75 x_5 fun v_a54c =>
            .bif (v_a54c)
            (N60_s0 x_1 do_b102)
            (N60_s1 x_1 x_5 n_dcf8 do_b102))
          (N60_s1 x_1 x_5 n_dcf8 do_b102)))))
theorem e60 {x_0 : Int} {x_1 : Int} {x_2 : Int} {x_3 : Int} {x_4 : Int} {x_5 : Int} {many_6 : Int} {r : Res} (h : S cx 60 (N60 x_0 x_1 x_2 x_3 x_4 x_5 many_6) = some r) : tw cx 60 [.st [i64 x_0, i64 x_1, i64 x_2, i64 x_3, i64 x_4, i64 x_5], i64 many_6] = some r :=
  tw_of (fun call hd hb pt rg => by kernel_rfl) h
noncomputable def N61 (kind_0 : Int) : Nd :=
  .bif ((kind_0 == 2))
  (.ret [tb true] [])
  (.ret [tb (kind_0 == 5)] [])
theorem e61 {kind_0 : Int} {r : Res} (h : S cx 61 (N61 kind_0) = some r) : tw cx 61 [i64 kind_0] = some r :=
  tw_of (fun call hd hb pt rg => by kernel_rfl) h
noncomputable def N62 (s_0 : List TV) (f_1 : Int) : Nd :=
  C77 s_0 f_1 fun v_6dad =>
  .ret [tb (decide (v_6dad ≥ 0))] []
theorem e62 {s_0 : List TV} {f_1 : Int} {r : Res} (h : S cx 62 (N62 s_0 f_1) = some r) : tw cx 62 [sl true ⟨1, false⟩ s_0, .cl 63 [.pt true () (i64 f_1)]] = some r :=
  tw_of (fun call hd hb pt rg => by kernel_rfl) h
noncomputable def N63 (k_0 : Int) (v_1 : Int) : Nd :=
  C23 k_0 0 (w64 (v_1 - 1)) fun v_0acf =>
  .ret [tb (!v_0acf)] []
theorem e63 {k_0 : Int} {v_1 : Int} {r : Res} (h : S cx 63 (N63 k_0 v_1) = some r) : tw cx 63 [i64 k_0, .pt true () (i64 v_1)] = some r :=
  tw_of (fun call hd hb pt rg => by kernel_rfl) h
noncomputable def EH64_0 (s_0 : List TV) (v_1 : Bool) (v_2 : Int) : Env := [.val [] (sl true ⟨1, false⟩ s_0), .val [] (tb v_1), .un, .un, .un, .un, .un, .val [] (i64 ((s_0.length : Nat) : Int)), .val [] (i64 v_2)] ++ uns 12
noncomputable abbrev H64_0 (s_0 : List TV) (v_1 : Bool) (v_2 : Int) : Nd := .head [1, 0, 1, 2] (EH64_0 s_0 v_1 v_2)
noncomputable abbrev B64_0 (s_0 : List TV) (v_1 : Bool) (v_2 : Int) : Nd := .back [1, 0, 1, 2] (EH64_0 s_0 v_1 v_2)
noncomputable def N64 (s_0 : List TV) (v_1 : Bool) : Nd :=
  H64_0 s_0 v_1 0
theorem e64 {s_0 : List TV} {v_1 : Bool} {r : Res} (h : S cx 64 (N64 s_0 v_1) = some r) : tw cx 64 [sl true ⟨1, false⟩ s_0, tb v_1] = some r :=
  tw_of (fun call hd hb pt rg => by kernel_rfl) h
noncomputable def NH64_0 (s_0 : List TV) (v_1 : Bool) (v_2 : Int) : Nd :=
  .bif (decide (v_2 < ((s_0.length : Nat) : Int)))
  (.ck (decide ((0 : Int) ≤ v_2) && decide (v_2 < ((s_0.length : Nat) : Int))) <|
    .bool (s_0.getD (0 + v_2.toNat) (.dead ())) fun x_5429 =>
    .bif ((v_1 == x_5429))
    (.ret [i64 v_2] [])
    (B64_0 s_0 v_1 (w64 (v_2 + 1))))
  (.ret [i64 (-1)] [])
theorem eH64_0 {s_0 : List TV} {v_1 : Bool} {v_2 : Int} {r : Res} (h : S cx 64 (NH64_0 s_0 v_1 v_2) = some r) : S cx 64 (H64_0 s_0 v_1 v_2) = some r :=
  hw_of (fun call hd hb pt rg => by kernel_rfl) h
noncomputable def N65 (s_0 : List TV) (v_1 : Int) : Nd :=
  C78 s_0 v_1 fun v_00a6 =>
  .ret [tb (decide (v_00a6 ≥ 0))] []
theorem e65 {s_0 : List TV} {v_1 : Int} {r : Res} (h : S cx 65 (N65 s_0 v_1) = some r) : tw cx 65 [sl true ⟨1, false⟩ s_0, i64 v_1] = some r :=
  tw_of (fun call hd hb pt rg => by kernel_rfl) h
noncomputable def N66 (s_0 : List TV) : Nd :=
  .isNil s_0
  (.amb2 
    (.ret [sl false ⟨1, false⟩ ([])] []) 
    (.ck (decide ((0 + s_0.length) * 8 < lim)) <|
      .ret [sl false ⟨1, false⟩ (([]) ++ s_0)] []))
  (.ck (decide ((0 + s_0.length) * 8 < lim)) <|
    .ret [sl false ⟨1, false⟩ (([]) ++ s_0)] [])
theorem e66 {s_0 : List TV} {r : Res} (h : S cx 66 (N66 s_0) = some r) : tw cx 66 [sl true ⟨1, false⟩ s_0] = some r :=
  tw_of (fun call hd hb pt rg => by kernel_rfl) h
noncomputable def N67 (x_0 : List TV) : Nd :=
  C80 (IntKind.u64.wrap (((x_0.length : Nat) : Int))) fun v_5050 =>
  C79 x_0 0 ((x_0.length : Nat) : Int) v_5050 fun vs_9007 =>
  .ret [] [sl false ⟨1, false⟩ vs_9007]
theorem e67 {x_0 : List TV} {r : Res} (h : S cx 67 (N67 x_0) = some r) : tw cx 67 [sl false ⟨1, false⟩ x_0] = some r :=
  tw_of (fun call hd hb pt rg => by kernel_rfl) h
noncomputable def EH68_0 (k_1 : Int) (s_0 : List TV) : Env := [.ref 61 [] none 34 false, .un, .un, .val [] (i64 k_1)] ++ uns 57 ++ [.val [] (sl false ⟨1, false⟩ s_0)]
noncomputable abbrev H68_0 (k_1 : Int) (s_0 : List TV) : Nd := .head [1, 1, 0, 1, 2] (EH68_0 k_1 s_0)
noncomputable abbrev B68_0 (k_1 : Int) (s_0 : List TV) : Nd := .back [1, 1, 0, 1, 2] (EH68_0 k_1 s_0)
noncomputable def EH68_1 (k_1 : Int) (s2_4 : Nat) (s2_2 : Nat) (k2_3 : Int) (s_0 : List TV) : Env := [.ref 61 [] none 34 false, .un, .un, .val [] (i64 k_1), .ref 61 [] (some (s2_4, s2_2)) 34 false, .val [] (i64 k2_3)] ++ uns 55 ++ [.val [] (sl false ⟨1, false⟩ s_0)]
noncomputable abbrev H68_1 (k_1 : Int) (s2_4 : Nat) (s2_2 : Nat) (k2_3 : Int) (s_0 : List TV) : Nd := .head [1, 1, 0, 1, 2, 5, 1, 0, 2, 1, 3, 1, 0, 1, 2] (EH68_1 k_1 s2_4 s2_2 k2_3 s_0)
noncomputable abbrev B68_1 (k_1 : Int) (s2_4 : Nat) (s2_2 : Nat) (k2_3 : Int) (s_0 : List TV) : Nd := .back [1, 1, 0, 1, 2, 5, 1, 0, 2, 1, 3, 1, 0, 1, 2] (EH68_1 k_1 s2_4 s2_2 k2_3 s_0)
noncomputable def N68 (s_0 : List TV) : Nd :=
  .bif (decide (((s_0.length : Nat) : Int) < 2))
  (.ret [sl false ⟨1, false⟩ s_0] [])
  (H68_0 1 s_0)
theorem e68 {s_0 : List TV} {r : Res} (h : S cx 68 (N68 s_0) = some r) : tw cx 68 [sl false ⟨1, false⟩ s_0] = some r :=
  tw_of (fun call hd hb pt rg => by kernel_rfl) h
noncomputable def NH68_0 (k_1 : Int) (s_0 : List TV) : Nd :=
  .bif (decide (k_1 < ((s_0.length : Nat) : Int)))
  (.ck (decide ((0 : Int) ≤ k_1) && decide (k_1 < ((s_0.length : Nat) : Int))) <|
    .int .i64 (s_0.getD (0 + k_1.toNat) (.dead ())) fun x_0cb5 =>
    .ck (decide ((0 : Int) ≤ w64 (k_1 - 1)) && decide (w64 (k_1 - 1) < ((s_0.length : Nat) : Int))) <|
    .int .i64 (s_0.getD (0 + (w64 (k_1 - 1)).toNat) (.dead ())) fun x_82f2 =>
    .bif ((x_0cb5 == x_82f2))
    (.ck (decide ((0 : Int) ≤ k_1) && decide (k_1 ≤ ((s_0.length : Nat) : Int)) && decide (((s_0.length : Nat) : Int) ≤ ((s_0.length : Nat) : Int))) <|
      H68_1 k_1 (0 + k_1.toNat) ((((s_0.length : Nat) : Int) - k_1).toNat) 1 s_0)
    (B68_0 (w64 (k_1 + 1)) s_0))
  (.ret [sl false ⟨1, false⟩ s_0] [])
theorem eH68_0 {k_1 : Int} {s_0 : List TV} {r : Res} (h : S cx 68 (NH68_0 k_1 s_0) = some r) : S cx 68 (H68_0 k_1 s_0) = some r :=
  hw_of (fun call hd hb pt rg => by kernel_rfl) h
noncomputable def NH68_1 (k_1 : Int) (s2_4 : Nat) (s2_2 : Nat) (k2_3 : Int) (s_0 : List TV) : Nd :=
  .bif (decide (k2_3 < ((s2_2 : Nat) : Int)))
  (.ck (decide ((0 : Int) ≤ k2_3) && decide (k2_3 < ((s2_2 : Nat) : Int))) <|
    .int .i64 (s_0.getD (s2_4 + k2_3.toNat) (.dead ())) fun x_db8f =>
    .ck (decide ((0 : Int) ≤ w64 (k2_3 - 1)) && decide (w64 (k2_3 - 1) < ((s2_2 : Nat) : Int))) <|
    .int .i64 (s_0.getD (s2_4 + (w64 (k2_3 - 1)).toNat) (.dead ())) fun x_fa7b =>
    .bif ((x_db8f != x_fa7b))
    (.ck (decide ((0 : Int) ≤ k2_3) && decide (k2_3 < ((s2_2 : Nat) : Int))) <|
      .int .i64 (s_0.getD (s2_4 + k2_3.toNat) (.dead ())) fun x_db8f_2 =>
      .ck (decide ((0 : Int) ≤ k_1) && decide (k_1 < ((s_0.length : Nat) : Int))) <|
      B68_1 (w64 (k_1 + 1)) s2_4 s2_2 (w64 (k2_3 + 1)) (s_0.set (0 + k_1.toNat) (i64 x_db8f_2)))
    (B68_1 k_1 s2_4 s2_2 (w64 (k2_3 + 1)) s_0))
  (.ck (decide ((0 : Int) ≤ k_1) && decide (k_1 ≤ ((s_0.length : Nat) : Int)) && decide (((s_0.length : Nat) : Int) ≤ ((s_0.length : Nat) : Int))) <|
    .ck (decide ((0 : Int) ≤ k_1) && decide (k_1 ≤ (((cpyS (some ((0 + k_1.toNat), (((s_0.length : Nat) : Int) - k_1).toNat)) s_0 (List.replicate ((((s_0.length : Nat) : Int) - k_1).toNat) (i64 0))).length : Nat) : Int))) <|
    .ret [sl false ⟨1, false⟩ (((cpyS (some ((0 + k_1.toNat), (((s_0.length : Nat) : Int) - k_1).toNat)) s_0 (List.replicate ((((s_0.length : Nat) : Int) - k_1).toNat) (i64 0))).drop 0).take ((k_1 - 0).toNat))] [])
theorem eH68_1 {k_1 : Int} {s2_4 : Nat} {s2_2 : Nat} {k2_3 : Int} {s_0 : List TV} {r : Res} (h : S cx 68 (NH68_1 k_1 s2_4 s2_2 k2_3 s_0) = some r) : S cx 68 (H68_1 k_1 s2_4 s2_2 k2_3 s_0) = some r :=
  hw_of (fun call hd hb pt rg => by kernel_rfl) h
noncomputable def N69 (a_0 : Int) (a_1 : Int) (a_2 : Int) (a_3 : Int) (a_4 : Int) (a_5 : Int) (b_6 : Int) (b_7 : Int) (b_8 : Int) (b_9 : Int) (b_10 : Int) (b_11 : Int) : Nd :=
  .bif ((a_0 != b_6))
  (.ret [tb false] [])
  (.bif ((a_1 != b_7))
    (.ret [tb false] [])
    (.bif ((a_2 != b_8))
      (.ret [tb false] [])
      (.bif ((a_3 != b_9))
        (.ret [tb false] [])
        (.bif ((a_4 != b_10))
          (.ret [tb false] [])
          (.bif ((a_5 != b_11))
            (.ret [tb false] [])
            (.ret [tb true] []))))))
theorem e69 {a_0 : Int} {a_1 : Int} {a_2 : Int} {a_3 : Int} {a_4 : Int} {a_5 : Int} {b_6 : Int} {b_7 : Int} {b_8 : Int} {b_9 : Int} {b_10 : Int} {b_11 : Int} {r : Res} (h : S cx 69 (N69 a_0 a_1 a_2 a_3 a_4 a_5 b_6 b_7 b_8 b_9 b_10 b_11) = some r) : tw cx 69 [.st [i64 a_0, i64 a_1, i64 a_2, i64 a_3, i64 a_4, i64 a_5], .st [i64 b_6, i64 b_7, i64 b_8, i64 b_9, i64 b_10, i64 b_11]] = some r :=
  tw_of (fun call hd hb pt rg => by kernel_rfl) h
noncomputable def EH72_0 (s_0 : List TV) (f_1 : Int) (v_2 : Int) : Env := [.val [] (sl true ⟨6, false⟩ s_0), .val [] (.cl 59 [.pt true () (i64 f_1)]), .un, .un, .un, .un, .un, .val [] (i64 ((s_0.length : Nat) : Int)), .val [] (i64 v_2)] ++ uns 12
noncomputable abbrev H72_0 (s_0 : List TV) (f_1 : Int) (v_2 : Int) : Nd := .head [1, 0, 1, 2] (EH72_0 s_0 f_1 v_2)
noncomputable abbrev B72_0 (s_0 : List TV) (f_1 : Int) (v_2 : Int) : Nd := .back [1, 0, 1, 2] (EH72_0 s_0 f_1 v_2)
noncomputable def N72 (s_0 : List TV) (f_1 : Int) : Nd :=
  H72_0 s_0 f_1 0
theorem e72 {s_0 : List TV} {f_1 : Int} {r : Res} (h : S cx 72 (N72 s_0 f_1) = some r) : tw cx 72 [sl true ⟨6, false⟩ s_0, .cl 59 [.pt true () (i64 f_1)]] = some r :=
  tw_of (fun call hd hb pt rg => by kernel_rfl) h
noncomputable def NH72_0 (s_0 : List TV) (f_1 : Int) (v_2 : Int) : Nd :=
  .bif (decide (v_2 < ((s_0.length : Nat) : Int)))
  (.ck (decide ((0 : Int) ≤ v_2) && decide (v_2 < ((s_0.length : Nat) : Int))) <|
    V6 (s_0.getD (0 + v_2.toNat) (.dead ())) fun op_5762 do_2a6b dst_68ab a_50bf b_9d57 n_7666 =>
    C59 op_5762 do_2a6b dst_68ab a_50bf b_9d57 n_7666 f_1 fun v_64e9 =>
    .bif (v_64e9)
    (.ret [i64 v_2] [])
    (B72_0 s_0 f_1 (w64 (v_2 + 1))))
  (.ret [i64 (-1)] [])
theorem eH72_0 {s_0 : List TV} {f_1 : Int} {v_2 : Int} {r : Res} (h : S cx 72 (NH72_0 s_0 f_1 v_2) = some r) : S cx 72 (H72_0 s_0 f_1 v_2) = some r :=
  hw_of (fun call hd hb pt rg => by kernel_rfl) h
noncomputable def EG73_0 (v_0 : Int) (v_1 : Bool) : Env := [.un, .un, .val [] (.pt false () (.st [tb false, tb false, tb false, tb false, tb false])), .un, .val [] (i64 v_0), .un, .un, .un, .val [] (tb v_1)] ++ uns 14
noncomputable abbrev G73_0 (v_0 : Int) (v_1 : Bool) : Nd := .go [1, 0, 1, 2, 1, 4, 1] (EG73_0 v_0 v_1)
noncomputable def N73 (op_0 : Int) : Nd :=
  .bif ((op_0 == 1))
  (.ret [.st [tb true, tb false, tb false, tb true, tb false], tb true] [])
  (.bif ((op_0 == 2))
    (G73_0 op_0 (op_0 == 2))
    (G73_0 op_0 (op_0 == 4)))
theorem e73 {op_0 : Int} {r : Res} (h : S cx 73 (N73 op_0) = some r) : tw cx 73 [i64 op_0] = some r :=
  tw_of (fun call hd hb pt rg => by kernel_rfl) h
noncomputable def NG73_0 (v_0 : Int) (v_1 : Bool) : Nd :=
  .bif (v_1)
  (.ret [.st [tb true, tb true, tb false, tb false, tb false], tb true] [])
  (.bif ((v_0 == 3))
    (.ret [.st [tb true, tb true, tb true, tb false, tb true], tb true] [])
    (.bif ((v_0 == 5))
      (.ret [.st [tb false, tb true, tb true, tb false, tb false], tb true] [])
      (.bif ((v_0 == 6))
        (.ret [.st [tb false, tb true, tb false, tb false, tb false], tb true] [])
        (.ret [.st [tb false, tb false, tb false, tb false, tb false], tb false] []))))
theorem eG73_0 {v_0 : Int} {v_1 : Bool} {r : Res} (h : S cx 73 (NG73_0 v_0 v_1) = some r) : S cx 73 (G73_0 v_0 v_1) = some r :=
  pw_of (fun call hd hb pt rg => by kernel_rfl) h
noncomputable def N74_s0 (has_0 : Bool) (n_1 : Int) (v_2 : Int) : Nd :=
  .bif (has_0)
  (C23 n_1 0 (w64 (v_2 - 1)) fun v_b8c6 =>
    .ret [tb v_b8c6] [])
  (.ret [tb false] [])
noncomputable def N74 (has_0 : Bool) (n_1 : Int) (v_2 : Int) : Nd :=
  .bif ((!has_0))
  (.bif ((n_1 == 0))
    (.ret [tb true] [])
    (N74_s0 has_0 n_1 v_2))
  (N74_s0 has_0 n_1 v_2)
theorem e74 {has_0 : Bool} {n_1 : Int} {v_2 : Int} {r : Res} (h : S cx 74 (N74 has_0 n_1 v_2) = some r) : tw cx 74 [tb has_0, i64 n_1, .pt true () (i64 v_2)] = some r :=
  tw_of (fun call hd hb pt rg => by kernel_rfl) h
noncomputable def N75 (n_0 : Int) : Nd :=
  C23 n_0 0 65535 fun v_e620 =>
  .ret [tb v_e620] []
theorem e75 {n_0 : Int} {r : Res} (h : S cx 75 (N75 n_0) = some r) : tw cx 75 [i64 n_0] = some r :=
  tw_of (fun call hd hb pt rg => by kernel_rfl) h
noncomputable def N76 (op_0 : Int) : Nd :=
  C23 op_0 4 9 fun v_6edb =>
  .ret [tb v_6edb] []
theorem e76 {op_0 : Int} {r : Res} (h : S cx 76 (N76 op_0) = some r) : tw cx 76 [i64 op_0] = some r :=
  tw_of (fun call hd hb pt rg => by kernel_rfl) h
end Go.Tree.Q

/- Trees of values: program points of functions. -/
namespace Go.Tree.Q
open Go.Proofs
set_option linter.unusedVariables false
set_option maxRecDepth 20000
noncomputable def EH77_0 (s_0 : List TV) (f_1 : Int) (v_2 : Int) : Env := [.val [] (sl true ⟨1, false⟩ s_0), .val [] (.cl 63 [.pt true () (i64 f_1)]), .un, .un, .un, .un, .un, .val [] (i64 ((s_0.length : Nat) : Int)), .val [] (i64 v_2)] ++ uns 12
noncomputable abbrev H77_0 (s_0 : List TV) (f_1 : Int) (v_2 : Int) : Nd := .head [1, 0, 1, 2] (EH77_0 s_0 f_1 v_2)
noncomputable abbrev B77_0 (s_0 : List TV) (f_1 : Int) (v_2 : Int) : Nd := .back [1, 0, 1, 2] (EH77_0 s_0 f_1 v_2)
noncomputable def N77 (s_0 : List TV) (f_1 : Int) : Nd :=
  H77_0 s_0 f_1 0
theorem e77 {s_0 : List TV} {f_1 : Int} {r : Res} (h : S cx 77 (N77 s_0 f_1) = some r) : tw cx 77 [sl true ⟨1, false⟩ s_0, .cl 63 [.pt true () (i64 f_1)]] = some r :=
  tw_of (fun call hd hb pt rg => by kernel_rfl) h
noncomputable def NH77_0 (s_0 : List TV) (f_1 : Int) (v_2 : Int) : Nd :=
  .bif (decide (v_2 < ((s_0.length : Nat) : Int)))
  (.ck (decide ((0 : Int) ≤ v_2) && decide (v_2 < ((s_0.length : Nat) : Int))) <|
    .int .i64 (s_0.getD (0 + v_2.toNat) (.dead ())) fun x_5429 =>
    C63 x_5429 f_1 fun v_bb87 =>
    .bif (v_bb87)
    (.ret [i64 v_2] [])
    (B77_0 s_0 f_1 (w64 (v_2 + 1))))
  (.ret [i64 (-1)] [])
theorem eH77_0 {s_0 : List TV} {f_1 : Int} {v_2 : Int} {r : Res} (h : S cx 77 (NH77_0 s_0 f_1 v_2) = some r) : S cx 77 (H77_0 s_0 f_1 v_2) = some r :=
  hw_of (fun call hd hb pt rg => by kernel_rfl) h
noncomputable def EH78_0 (s_0 : List TV) (v_1 : Int) (v_2 : Int) : Env := [.val [] (sl true ⟨1, false⟩ s_0), .val [] (i64 v_1), .un, .un, .un, .un, .un, .val [] (i64 ((s_0.length : Nat) : Int)), .val [] (i64 v_2)] ++ uns 12
noncomputable abbrev H78_0 (s_0 : List TV) (v_1 : Int) (v_2 : Int) : Nd := .head [1, 0, 1, 2] (EH78_0 s_0 v_1 v_2)
noncomputable abbrev B78_0 (s_0 : List TV) (v_1 : Int) (v_2 : Int) : Nd := .back [1, 0, 1, 2] (EH78_0 s_0 v_1 v_2)
noncomputable def N78 (s_0 : List TV) (v_1 : Int) : Nd :=
  H78_0 s_0 v_1 0
theorem e78 {s_0 : List TV} {v_1 : Int} {r : Res} (h : S cx 78 (N78 s_0 v_1) = some r) : tw cx 78 [sl true ⟨1, false⟩ s_0, i64 v_1] = some r :=
  tw_of (fun call hd hb pt rg => by kernel_rfl) h
noncomputable def NH78_0 (s_0 : List TV) (v_1 : Int) (v_2 : Int) : Nd :=
  .bif (decide (v_2 < ((s_0.length : Nat) : Int)))
  (.ck (decide ((0 : Int) ≤ v_2) && decide (v_2 < ((s_0.length : Nat) : Int))) <|
    .int .i64 (s_0.getD (0 + v_2.toNat) (.dead ())) fun x_5429 =>
    .bif ((v_1 == x_5429))
    (.ret [i64 v_2] [])
    (B78_0 s_0 v_1 (w64 (v_2 + 1))))
  (.ret [i64 (-1)] [])
theorem eH78_0 {s_0 : List TV} {v_1 : Int} {v_2 : Int} {r : Res} (h : S cx 78 (NH78_0 s_0 v_1 v_2) = some r) : S cx 78 (H78_0 s_0 v_1 v_2) = some r :=
  hw_of (fun call hd hb pt rg => by kernel_rfl) h
noncomputable def EH79_0 (a_0 : Int) (b_1 : Int) (limit_2 : Int) (wasBalanced_4 : Bool) (wasPartitioned_5 : Bool) (data_3 : List TV) : Env := [.ref 134 [] none 34 false, .val [] (i64 a_0), .val [] (i64 b_1), .val [] (i64 limit_2), .un, .un, .un, .un, .val [] (tb wasBalanced_4), .val [] (tb wasPartitioned_5)] ++ uns 124 ++ [.val [] (sl false ⟨1, false⟩ data_3), .un, .un, .un]
noncomputable abbrev H79_0 (a_0 : Int) (b_1 : Int) (limit_2 : Int) (wasBalanced_4 : Bool) (wasPartitioned_5 : Bool) (data_3 : List TV) : Nd := .head [1, 1, 2] (EH79_0 a_0 b_1 limit_2 wasBalanced_4 wasPartitioned_5 data_3)
noncomputable def EG79_1 (a_0 : Int) (b_1 : Int) (limit_2 : Int) (wasBalanced_4 : Bool) (wasPartitioned_5 : Bool) (data_3 : List TV) : Env := [.ref 134 [] none 34 false, .val [] (i64 a_0), .val [] (i64 b_1), .val [] (i64 limit_2), .un, .un, .un, .un, .val [] (tb wasBalanced_4), .val [] (tb wasPartitioned_5), .val [] (i64 (w64 (b_1 - a_0)))] ++ uns 123 ++ [.val [] (sl false ⟨1, false⟩ data_3), .un, .un, .un]
noncomputable abbrev G79_1 (a_0 : Int) (b_1 : Int) (limit_2 : Int) (wasBalanced_4 : Bool) (wasPartitioned_5 : Bool) (data_3 : List TV) : Nd := .go [1, 1, 2, 5, 2, 1, 1, 1, 1] (EG79_1 a_0 b_1 limit_2 wasBalanced_4 wasPartitioned_5 data_3)
noncomputable def N79 (data_0 : List TV) (a_1 : Int) (b_2 : Int) (limit_3 : Int) : Nd :=
  H79_0 a_1 b_2 limit_3 true true data_0
theorem e79 {data_0 : List TV} {a_1 : Int} {b_2 : Int} {limit_3 : Int} {r : Res} (h : S cx 79 (N79 data_0 a_1 b_2 limit_3) = some r) : tw cx 79 [sl false ⟨1, false⟩ data_0, i64 a_1, i64 b_2, i64 limit_3] = some r :=
  tw_of (fun call hd hb pt rg => by kernel_rfl) h
noncomputable def NH79_0 (a_0 : Int) (b_1 : Int) (limit_2 : Int) (wasBalanced_4 : Bool) (wasPartitioned_5 : Bool) (data_3 : List TV) : Nd :=
  .bif (decide (w64 (b_1 - a_0) ≤ 12))
  (C81 data_3 a_0 b_1 fun vs_34b2 =>
    .ret [] [sl false ⟨1, false⟩ vs_34b2])
  (.bif ((limit_2 == 0))
    (C82 data_3 a_0 b_1 fun vs_aa10 =>
      .ret [] [sl false ⟨1, false⟩ vs_aa10])
    (.bif ((!wasBalanced_4))
      (C83 data_3 a_0 b_1 fun vs_f975 =>
        G79_1 a_0 b_1 (w64 (limit_2 - 1)) wasBalanced_4 wasPartitioned_5 vs_f975)
      (G79_1 a_0 b_1 limit_2 wasBalanced_4 wasPartitioned_5 data_3)))
theorem eH79_0 {a_0 : Int} {b_1 : Int} {limit_2 : Int} {wasBalanced_4 : Bool} {wasPartitioned_5 : Bool} {data_3 : List TV} {r : Res} (h : S cx 79 (NH79_0 a_0 b_1 limit_2 wasBalanced_4 wasPartitioned_5 data_3) = some r) : S cx 79 (H79_0 a_0 b_1 limit_2 wasBalanced_4 wasPartitioned_5 data_3) = some r :=
  hw_of (fun call hd hb pt rg => by kernel_rfl) h
noncomputable def N80 (x_0 : Int) : Nd :=
  C91 x_0 fun v_c3ae =>
  .ret [i64 v_c3ae] []
theorem e80 {x_0 : Int} {r : Res} (h : S cx 80 (N80 x_0) = some r) : tw cx 80 [.fl (.int .u64 x_0)] = some r :=
  tw_of (fun call hd hb pt rg => by kernel_rfl) h
noncomputable def EH81_0 (a_0 : Int) (b_1 : Int) (i_3 : Int) (data_2 : List TV) : Env := [.ref 49 [] none 34 false, .val [] (i64 a_0), .val [] (i64 b_1), .un, .un, .un, .val [] (i64 i_3)] ++ uns 42 ++ [.val [] (sl false ⟨1, false⟩ data_2), .un, .un]
noncomputable abbrev H81_0 (a_0 : Int) (b_1 : Int) (i_3 : Int) (data_2 : List TV) : Nd := .head [1, 2] (EH81_0 a_0 b_1 i_3 data_2)
noncomputable abbrev B81_0 (a_0 : Int) (b_1 : Int) (i_3 : Int) (data_2 : List TV) : Nd := .back [1, 2] (EH81_0 a_0 b_1 i_3 data_2)
noncomputable def EH81_1 (a_0 : Int) (b_1 : Int) (i_4 : Int) (j_3 : Int) (data_2 : List TV) : Env := [.ref 49 [] none 34 false, .val [] (i64 a_0), .val [] (i64 b_1), .un, .un, .un, .val [] (i64 i_4), .val [] (i64 j_3)] ++ uns 41 ++ [.val [] (sl false ⟨1, false⟩ data_2), .un, .un]
noncomputable abbrev H81_1 (a_0 : Int) (b_1 : Int) (i_4 : Int) (j_3 : Int) (data_2 : List TV) : Nd := .head [1, 2, 5, 1, 0, 2, 1, 2] (EH81_1 a_0 b_1 i_4 j_3 data_2)
noncomputable abbrev B81_1 (a_0 : Int) (b_1 : Int) (i_4 : Int) (j_3 : Int) (data_2 : List TV) : Nd := .back [1, 2, 5, 1, 0, 2, 1, 2] (EH81_1 a_0 b_1 i_4 j_3 data_2)
noncomputable def N81 (data_0 : List TV) (a_1 : Int) (b_2 : Int) : Nd :=
  H81_0 a_1 b_2 (w64 (a_1 + 1)) data_0
theorem e81 {data_0 : List TV} {a_1 : Int} {b_2 : Int} {r : Res} (h : S cx 81 (N81 data_0 a_1 b_2) = some r) : tw cx 81 [sl false ⟨1, false⟩ data_0, i64 a_1, i64 b_2] = some r :=
  tw_of (fun call hd hb pt rg => by kernel_rfl) h
noncomputable def NH81_0 (a_0 : Int) (b_1 : Int) (i_3 : Int) (data_2 : List TV) : Nd :=
  .bif (decide (i_3 < b_1))
  (H81_1 a_0 b_1 i_3 i_3 data_2)
  (.ret [] [sl false ⟨1, false⟩ data_2])
theorem eH81_0 {a_0 : Int} {b_1 : Int} {i_3 : Int} {data_2 : List TV} {r : Res} (h : S cx 81 (NH81_0 a_0 b_1 i_3 data_2) = some r) : S cx 81 (H81_0 a_0 b_1 i_3 data_2) = some r :=
  hw_of (fun call hd hb pt rg => by kernel_rfl) h
noncomputable def NH81_1 (a_0 : Int) (b_1 : Int) (i_4 : Int) (j_3 : Int) (data_2 : List TV) : Nd :=
  .bif (decide (j_3 > a_0))
  (.ck (decide ((0 : Int) ≤ j_3) && decide (j_3 < ((data_2.length : Nat) : Int))) <|
    .int .i64 (data_2.getD (0 + j_3.toNat) (.dead ())) fun x_0573 =>
    .ck (decide ((0 : Int) ≤ w64 (j_3 - 1)) && decide (w64 (j_3 - 1) < ((data_2.length : Nat) : Int))) <|
    .int .i64 (data_2.getD (0 + (w64 (j_3 - 1)).toNat) (.dead ())) fun x_d30c =>
    C87 x_0573 x_d30c fun v_f7ba =>
    .bif (v_f7ba)
    (.ck (decide ((0 : Int) ≤ w64 (j_3 - 1)) && decide (w64 (j_3 - 1) < ((data_2.length : Nat) : Int))) <|
      .int .i64 (data_2.getD (0 + (w64 (j_3 - 1)).toNat) (.dead ())) fun x_d30c_2 =>
      .ck (decide ((0 : Int) ≤ j_3) && decide (j_3 < ((data_2.length : Nat) : Int))) <|
      .int .i64 (data_2.getD (0 + j_3.toNat) (.dead ())) fun x_0573_2 =>
      .ck (decide ((0 : Int) ≤ j_3) && decide (j_3 < ((data_2.length : Nat) : Int))) <|
      .ck (decide ((0 : Int) ≤ w64 (j_3 - 1)) && decide (w64 (j_3 - 1) < (((data_2.set (0 + j_3.toNat) (i64 x_d30c_2)).length : Nat) : Int))) <|
      B81_1 a_0 b_1 i_4 (w64 (j_3 - 1)) ((data_2.set (0 + j_3.toNat) (i64 x_d30c_2)).set (0 + (w64 (j_3 - 1)).toNat) (i64 x_0573_2)))
    (B81_0 a_0 b_1 (w64 (i_4 + 1)) data_2))
  (B81_0 a_0 b_1 (w64 (i_4 + 1)) data_2)
theorem eH81_1 {a_0 : Int} {b_1 : Int} {i_4 : Int} {j_3 : Int} {data_2 : List TV} {r : Res} (h : S cx 81 (NH81_1 a_0 b_1 i_4 j_3 data_2) = some r) : S cx 81 (H81_1 a_0 b_1 i_4 j_3 data_2) = some r :=
  hw_of (fun call hd hb pt rg => by kernel_rfl) h
noncomputable def N87 (x_0 : Int) (y_1 : Int) : Nd :=
  C97 x_0 fun v_6aea =>
  .bif (v_6aea)
  (C97 y_1 fun v_f62c =>
    .bif ((!v_f62c))
    (.ret [tb true] [])
    (.ret [tb (decide (x_0 < y_1))] []))
  (.ret [tb (decide (x_0 < y_1))] [])
theorem e87 {x_0 : Int} {y_1 : Int} {r : Res} (h : S cx 87 (N87 x_0 y_1) = some r) : tw cx 87 [i64 x_0, i64 y_1] = some r :=
  tw_of (fun call hd hb pt rg => by kernel_rfl) h
noncomputable def EG91_0 (x_0 : Int) (n_1 : Int) : Env := [.val [] (.fl (.int .u64 x_0)), .un, .val [] (i64 n_1)] ++ uns 23
noncomputable abbrev G91_0 (x_0 : Int) (n_1 : Int) : Nd := .go [1, 1] (EG91_0 x_0 n_1)
noncomputable def EG91_1 (x_0 : Int) (n_1 : Int) : Env := [.val [] (.fl (.int .u64 x_0)), .un, .val [] (i64 n_1)] ++ uns 23
noncomputable abbrev G91_1 (x_0 : Int) (n_1 : Int) : Nd := .go [1, 1, 1] (EG91_1 x_0 n_1)
noncomputable def EG91_2 (x_0 : Int) (n_1 : Int) : Env := [.val [] (.fl (.int .u64 x_0)), .un, .val [] (i64 n_1)] ++ uns 23
noncomputable abbrev G91_2 (x_0 : Int) (n_1 : Int) : Nd := .go [1, 1, 1, 1] (EG91_2 x_0 n_1)
noncomputable def N91 (x_0 : Int) : Nd :=
  .bif (decide (x_0 ≥ 4294967296))
  (G91_0 (x_0.fdiv (2 ^ (32))) 32)
  (G91_0 x_0 0)
theorem e91 {x_0 : Int} {r : Res} (h : S cx 91 (N91 x_0) = some r) : tw cx 91 [.fl (.int .u64 x_0)] = some r :=
  tw_of (fun call hd hb pt rg => by kernel_rfl) h
noncomputable def NG91_0 (x_0 : Int) (n_1 : Int) : Nd :=
  .bif (decide (x_0 ≥ 65536))
  (G91_1 (x_0.fdiv (2 ^ (16))) (w64 (n_1 + 16)))
  (G91_1 x_0 n_1)
theorem eG91_0 {x_0 : Int} {n_1 : Int} {r : Res} (h : S cx 91 (NG91_0 x_0 n_1) = some r) : S cx 91 (G91_0 x_0 n_1) = some r :=
  pw_of (fun call hd hb pt rg => by kernel_rfl) h
noncomputable def NG91_1 (x_0 : Int) (n_1 : Int) : Nd :=
  .bif (decide (x_0 ≥ 256))
  (G91_2 (x_0.fdiv (2 ^ (8))) (w64 (n_1 + 8)))
  (G91_2 x_0 n_1)
theorem eG91_1 {x_0 : Int} {n_1 : Int} {r : Res} (h : S cx 91 (NG91_1 x_0 n_1) = some r) : S cx 91 (G91_1 x_0 n_1) = some r :=
  pw_of (fun call hd hb pt rg => by kernel_rfl) h
noncomputable def NG91_2 (x_0 : Int) (n_1 : Int) : Nd :=
  .ck (decide ((0 : Int) ≤ IntKind.u8.wrap (x_0)) && decide (IntKind.u8.wrap (x_0) < (tab8.size : Int))) <|
  .ret [i64 (w64 (n_1 + (w64 (((tab8.get! (IntKind.u8.wrap (x_0)).toNat).toNat : Int)))))] []
theorem eG91_2 {x_0 : Int} {n_1 : Int} {r : Res} (h : S cx 91 (NG91_2 x_0 n_1) = some r) : S cx 91 (G91_2 x_0 n_1) = some r :=
  pw_of (fun call hd hb pt rg => by kernel_rfl) h
noncomputable def N97 (x_0 : Int) : Nd :=
  .ret [tb (x_0 != x_0)] []
theorem e97 {x_0 : Int} {r : Res} (h : S cx 97 (N97 x_0) = some r) : tw cx 97 [i64 x_0] = some r :=
  tw_of (fun call hd hb pt rg => by kernel_rfl) h
end Go.Tree.Q
