/- The functions that the law reaches, told as points of a program. Conditions: none. -/
import Derived.Test.YtmgkciadnmnbjaaGreatMt3
import Derived.Test.YtmgkciadnmnbjaaGreatProg
import Derived.KernelRfl
import Derived.Test.YtmgkciadnmnbjaaGreatMo
/- Trees of values: what is told of the functions, and words for views and calls. -/
namespace Go.Tree.Q
open Go.Proofs
set_option linter.unusedVariables false
set_option maxRecDepth 20000
abbrev i64 (n : Int) : TV := .fl (.int .i64 n)
abbrev tb (b : Bool) : TV := .fl (.bool b)
abbrev tnil : TV := .fl (.pointer none)
abbrev sl (r : Bool) (k : Ek) (xs : List TV) : TV := .sl r k () xs
abbrev w64 (n : Int) : Int := IntKind.i64.wrap n
abbrev uns (n : Nat) : Env := List.replicate n .un
abbrev tab8 : ByteArray := ⟨#[0, 1, 2, 2, 3, 3, 3, 3, 4, 4, 4, 4, 4, 4, 4, 4, 5, 5, 5, 5, 5, 5, 5, 5, 5, 5, 5, 5, 5, 5, 5, 5, 6, 6, 6, 6, 6, 6, 6, 6, 6, 6, 6, 6, 6, 6, 6, 6, 6, 6, 6, 6, 6, 6, 6, 6, 6, 6, 6, 6, 6, 6, 6, 6, 7, 7, 7, 7, 7, 7, 7, 7, 7, 7, 7, 7, 7, 7, 7, 7, 7, 7, 7, 7, 7, 7, 7, 7, 7, 7, 7, 7, 7, 7, 7, 7, 7, 7, 7, 7, 7, 7, 7, 7, 7, 7, 7, 7, 7, 7, 7, 7, 7, 7, 7, 7, 7, 7, 7, 7, 7, 7, 7, 7, 7, 7, 7, 7, 8, 8, 8, 8, 8, 8, 8, 8, 8, 8, 8, 8, 8, 8, 8, 8, 8, 8, 8, 8, 8, 8, 8, 8, 8, 8, 8, 8, 8, 8, 8, 8, 8, 8, 8, 8, 8, 8, 8, 8, 8, 8, 8, 8, 8, 8, 8, 8, 8, 8, 8, 8, 8, 8, 8, 8, 8, 8, 8, 8, 8, 8, 8, 8, 8, 8, 8, 8, 8, 8, 8, 8, 8, 8, 8, 8, 8, 8, 8, 8, 8, 8, 8, 8, 8, 8, 8, 8, 8, 8, 8, 8, 8, 8, 8, 8, 8, 8, 8, 8, 8, 8, 8, 8, 8, 8, 8, 8, 8, 8, 8, 8, 8, 8, 8, 8, 8, 8, 8, 8, 8, 8, 8, 8, 8, 8, 8, 8]⟩
/-- A table. -/
def tab {β : Type} (d : β) : List (Nat × β) → Nat → β
  | [], _ => d
  | (k, v) :: l, n => bif Nat.beq k n then v else tab d l n
/-- What the evaluator is told of the functions: who writes what, what lives where. -/
noncomputable def cx : Ctx where
  P := Tryz.prog
  sig := tab ⟨[], [], [], false⟩ [(10, ⟨[true], [], [], false⟩), (11, ⟨[true], [], [], false⟩), (23, ⟨[true], [], [], false⟩), (24, ⟨[true], [], [], false⟩), (32, ⟨[true], [true], [], false⟩), (36, ⟨[false, false, true], [], [], false⟩), (61, ⟨[true], [], [], false⟩), (62, ⟨[true], [true], [true], false⟩), (76, ⟨[true], [], [], false⟩), (85, ⟨[true], [], [], false⟩), (86, ⟨[true], [], [], false⟩), (87, ⟨[true], [], [], false⟩), (89, ⟨[true], [], [], false⟩), (90, ⟨[true], [], [], false⟩), (92, ⟨[true], [], [], false⟩), (93, ⟨[true], [], [], false⟩), (96, ⟨[true], [], [], false⟩), (98, ⟨[true], [], [], false⟩), (99, ⟨[false, false, true], [], [], false⟩), (100, ⟨[false, false, false, false, true], [], [], false⟩), (102, ⟨[false, false, false, true], [], [], false⟩)]
  given := fun f => bif Nat.beq f 43 then some O.g49 else none
  keep := fun f r => tab [] [(4005, [0, 1, 5]), (6003, [0, 3, 4]), (8004, [0, 1, 5]), (9004, [0, 1, 5]), (10002, [0, 1, 5, 41]), (11002, [0, 1, 5, 19]), (12002, [0, 1, 5]), (14004, [0, 22, 23, 24]), (15003, [2, 3, 9, 10, 11]), (15007, [2, 3, 6, 9, 10, 11, 16, 17, 18]), (16003, [0, 5, 12, 13, 14]), (17004, [1, 3, 4, 17, 18]), (17008, [1, 3, 4, 5, 6, 17, 18, 24, 25, 26]), (20007, [4, 5, 39, 40, 41]), (20012, [4, 5, 55, 56, 57]), (20016, [4, 5, 9, 10, 11, 55, 56, 57, 67, 68, 69]), (21004, [0, 1, 5]), (23002, [0, 1, 5, 55]), (24002, [0, 1, 5, 19]), (25002, [0, 1, 5]), (28002, [0, 5, 6, 7]), (29003, [0, 3, 4]), (29006, [0, 3, 4, 24, 25, 26]), (29013, [3, 7, 39, 40, 41]), (30002, [0, 5, 6, 7]), (31002, [1, 2, 5]), (31004, [1, 2, 5, 6, 14, 15, 16]), (31008, [1, 2, 5, 6, 8, 9, 14, 15, 16, 24, 25, 26]), (32002, [0, 1, 5, 48]), (33002, [0, 1, 13, 14, 15]), (33006, [0, 1, 6, 7, 13, 14, 15, 25, 26, 27]), (34005, [1, 2, 5, 6]), (34008, [1, 2, 5, 6, 25, 26, 27]), (35002, [1, 7, 8, 9]), (36003, [1, 2, 3, 4, 18, 19, 20, 41]), (37003, [0, 3, 4]), (38003, [0, 3, 4]), (40004, [0, 15, 16, 17]), (41003, [2, 3, 10, 11, 12]), (42003, [3, 9, 10, 11]), (44003, [0, 3, 4, 16, 17]), (44008, [0, 3, 4, 27, 28, 29]), (44013, [0, 3, 4, 6, 8, 27, 28, 29, 41, 42]), (45003, [3, 7, 8, 9]), (46004, [0, 1, 5]), (47002, [1, 2, 11, 12, 13]), (47008, [1, 2, 22, 23, 24]), (57006, [0, 2, 7, 8]), (57009, [0, 2, 7, 8, 33, 34, 35]), (59003, [0, 3, 4, 27, 28, 29]), (59006, [0, 3, 4, 5, 27, 28, 29, 34, 35, 36]), (59013, [4, 65, 66, 67]), (59016, [4, 10, 65, 66, 67, 74, 75, 76]), (62004, [0, 3, 61]), (62009, [0, 3, 4, 5, 61]), (67002, [0, 1, 7, 8]), (74002, [0, 1, 7, 8]), (76002, [0, 1, 2, 3, 8, 9, 134]), (78002, [0, 1, 7, 8]), (83002, [0, 1, 7, 8]), (84002, [0, 1, 7, 8]), (85001, [0, 1, 2, 6, 49]), (85004, [0, 1, 2, 6, 7, 49]), (86004, [0, 6, 7, 8, 9, 56]), (86008, [0, 6, 7, 10, 56]), (87005, [0, 1, 6, 7, 8, 9, 65]), (89002, [0, 6, 7, 32]), (90003, [0, 1, 2, 7, 8, 133]), (90005, [0, 1, 2, 7, 8, 133]), (90014, [0, 1, 2, 7, 8, 9, 133]), (90020, [0, 1, 2, 7, 8, 10, 133]), (92003, [0, 1, 9, 10, 84]), (92005, [0, 1, 9, 10, 84]), (93003, [0, 1, 10, 11, 168]), (93005, [0, 1, 10, 11, 168]), (93013, [0, 1, 10, 11, 168]), (93015, [0, 1, 10, 11, 168]), (96001, [0, 2, 3, 8, 76])] (f * 1000 + r)
  cut := fun f r => tab none [(17011, some [1, 3, 4, 5, 6, 8, 17, 18, 24, 25, 26, 38]), (20006, some [4, 5]), (44002, some [0, 3, 4]), (49008, some [1, 22, 43]), (57012, some [0, 2, 7, 8, 10, 33, 34, 35, 49]), (59002, some [0, 3, 4]), (76010, some [0, 1, 2, 3, 8, 9, 10, 134]), (76015, some [0, 1, 2, 3, 8, 9, 10, 11, 12, 134]), (76017, some [0, 1, 2, 3, 8, 9, 10, 11, 134]), (76018, some [0, 1, 2, 3, 8, 9, 10, 11, 87, 134]), (79006, some [2, 4, 8]), (87010, some [0, 1, 6, 7, 8, 9, 10, 65]), (88011, some [0, 9, 10, 11, 12]), (88012, some [9, 11]), (90018, some [0, 1, 2, 7, 8, 133]), (95004, some [0, 2]), (95007, some [0, 2]), (95010, some [0, 2]), (96005, some [0, 2, 3, 8, 9, 76])] (f * 1000 + r)
  pol := fun f => ⟨fun s i b => match tab 0 [(70550000000, 1), (200550000000, 1)] ((f * 1000 + s) * 10000000 + i) with | 0 => !b | 1 => b | _ => true, fun t => tab false [(7050, true)] (f * 1000 + t)⟩
  inl := tab false []
  own := tab false [(5, true), (7, true), (16, true), (44, true)]
theorem call_S {f g : FuncId} {args : List TV} {v : Res} {K : Res → Nd} {X : Option Res} (h : tw cx g args = some v) (e : S cx f (K v) = X) : S cx f (.call g args K) = X := by
  show Option.bind (tw cx g args) _ = X
  rw [h]
  exact e
noncomputable def C4 (B0 : List TV) (B1 : Int) (K : Int → Nd) : Nd := .call 4 [sl true ⟨4, true⟩ B0, i64 B1] fun R => .cons R.1 fun X0 X1 => .int .i64 X0 fun A0 => .nil X1 <| .nil R.2 <| K A0
theorem C4_S {f : FuncId} {B0 : List TV} {B1 : Int} {A0 : Int} {K : Int → Nd} (h : tw cx 4 [sl true ⟨4, true⟩ B0, i64 B1] = some ([i64 A0], [])) : S cx f (C4 B0 B1 K) = S cx f (K A0) := call_S h rfl
noncomputable def C6 (B0 : List TV) (K : (List TV) → Nd) : Nd := .call 6 [sl true ⟨4, true⟩ B0] fun R => .cons R.1 fun X0 X1 => .slO ⟨4, true⟩ X0 fun A0 => .nil X1 <| .nil R.2 <| K A0
theorem C6_S {f : FuncId} {B0 : List TV} {A0 : List TV} {K : (List TV) → Nd} (h : tw cx 6 [sl true ⟨4, true⟩ B0] = some ([sl false ⟨4, true⟩ A0], [])) : S cx f (C6 B0 K) = S cx f (K A0) := call_S h rfl
noncomputable def C5 (B0 : List TV) (K : (List TV) → Bool → Nd) : Nd := .call 5 [sl true ⟨4, true⟩ B0] fun R => .cons R.1 fun X0 X1 => .slO ⟨1, true⟩ X0 fun A0 => .cons X1 fun X2 X3 => .bool X2 fun A1 => .nil X3 <| .nil R.2 <| K A0 A1
theorem C5_S {f : FuncId} {B0 : List TV} {A0 : List TV} {A1 : Bool} {K : (List TV) → Bool → Nd} (h : tw cx 5 [sl true ⟨4, true⟩ B0] = some ([sl false ⟨1, true⟩ A0, tb A1], [])) : S cx f (C5 B0 K) = S cx f (K A0 A1) := call_S h rfl
noncomputable def C7 (B0 : List TV) (K : (List TV) → Bool → Nd) : Nd := .call 7 [sl true ⟨4, true⟩ B0] fun R => .cons R.1 fun X0 X1 => .slO ⟨1, true⟩ X0 fun A0 => .cons X1 fun X2 X3 => .bool X2 fun A1 => .nil X3 <| .nil R.2 <| K A0 A1
theorem C7_S {f : FuncId} {B0 : List TV} {A0 : List TV} {A1 : Bool} {K : (List TV) → Bool → Nd} (h : tw cx 7 [sl true ⟨4, true⟩ B0] = some ([sl false ⟨1, true⟩ A0, tb A1], [])) : S cx f (C7 B0 K) = S cx f (K A0 A1) := call_S h rfl
noncomputable def C8 (B0 : List TV) (B1 : List TV) (K : Bool → Nd) : Nd := .call 8 [sl true ⟨1, true⟩ B0, sl true ⟨1, true⟩ B1] fun R => .cons R.1 fun X0 X1 => .bool X0 fun A0 => .nil X1 <| .nil R.2 <| K A0
theorem C8_S {f : FuncId} {B0 : List TV} {B1 : List TV} {A0 : Bool} {K : Bool → Nd} (h : tw cx 8 [sl true ⟨1, true⟩ B0, sl true ⟨1, true⟩ B1] = some ([tb A0], [])) : S cx f (C8 B0 B1 K) = S cx f (K A0) := call_S h rfl
noncomputable def C9 (B0 : List TV) (B1 : List TV) (K : Bool → Nd) : Nd := .call 9 [sl true ⟨4, true⟩ B0, sl true ⟨4, true⟩ B1] fun R => .cons R.1 fun X0 X1 => .bool X0 fun A0 => .nil X1 <| .nil R.2 <| K A0
theorem C9_S {f : FuncId} {B0 : List TV} {B1 : List TV} {A0 : Bool} {K : Bool → Nd} (h : tw cx 9 [sl true ⟨4, true⟩ B0, sl true ⟨4, true⟩ B1] = some ([tb A0], [])) : S cx f (C9 B0 B1 K) = S cx f (K A0) := call_S h rfl
noncomputable def C10 (B0 : List TV) (B1 : Int) (K : Int → (List TV) → Nd) : Nd := .call 10 [sl false ⟨4, true⟩ B0, i64 B1] fun R => .cons R.1 fun X0 X1 => .int .i64 X0 fun A0 => .nil X1 <| .cons R.2 fun X2 X3 => .slO ⟨4, true⟩ X2 fun A1 => .nil X3 <| K A0 A1
theorem C10_S {f : FuncId} {B0 : List TV} {B1 : Int} {A0 : Int} {A1 : List TV} {K : Int → (List TV) → Nd} (h : tw cx 10 [sl false ⟨4, true⟩ B0, i64 B1] = some ([i64 A0], [sl false ⟨4, true⟩ A1])) : S cx f (C10 B0 B1 K) = S cx f (K A0 A1) := call_S h rfl
noncomputable def C11 (B0 : List TV) (B1 : Int) (K : Int → (List TV) → Nd) : Nd := .call 11 [sl false ⟨1, true⟩ B0, i64 B1] fun R => .cons R.1 fun X0 X1 => .int .i64 X0 fun A0 => .nil X1 <| .cons R.2 fun X2 X3 => .slO ⟨1, true⟩ X2 fun A1 => .nil X3 <| K A0 A1
theorem C11_S {f : FuncId} {B0 : List TV} {B1 : Int} {A0 : Int} {A1 : List TV} {K : Int → (List TV) → Nd} (h : tw cx 11 [sl false ⟨1, true⟩ B0, i64 B1] = some ([i64 A0], [sl false ⟨1, true⟩ A1])) : S cx f (C11 B0 B1 K) = S cx f (K A0 A1) := call_S h rfl
noncomputable def C12 (B0 : List TV) (B1 : Int) (K : Int → Nd) : Nd := .call 12 [sl true ⟨1, true⟩ B0, i64 B1] fun R => .cons R.1 fun X0 X1 => .int .i64 X0 fun A0 => .nil X1 <| .nil R.2 <| K A0
theorem C12_S {f : FuncId} {B0 : List TV} {B1 : Int} {A0 : Int} {K : Int → Nd} (h : tw cx 12 [sl true ⟨1, true⟩ B0, i64 B1] = some ([i64 A0], [])) : S cx f (C12 B0 B1 K) = S cx f (K A0) := call_S h rfl
noncomputable def V4 (t : TV) (K : (List TV) → Int → Int → (List TV) → Nd) : Nd := .st t fun L => .cons L fun TV0 L0 => .slR ⟨6, false⟩ TV0 fun A0 => .cons L0 fun TV1 L1 => .int .i64 TV1 fun A1 => .cons L1 fun TV2 L2 => .int .i64 TV2 fun A2 => .cons L2 fun TV3 L3 => .slR ⟨1, false⟩ TV3 fun A3 => .nil L3 <| K A0 A1 A2 A3
theorem V4_S {f : FuncId} {A0 : List TV} {A1 : Int} {A2 : Int} {A3 : List TV} {q0 : Bool} {q1 : Bool} {K : (List TV) → Int → Int → (List TV) → Nd} : S cx f (V4 (.st [sl q0 ⟨6, false⟩ A0, i64 A1, i64 A2, sl q1 ⟨1, false⟩ A3]) K) = S cx f (K A0 A1 A2 A3) := rfl
noncomputable def C13 (B0 : List TV) (B1 : Int) (B2 : Int) (B3 : List TV) (B4 : Int) (K : Int → Nd) : Nd := .call 13 [.st [sl true ⟨6, false⟩ B0, i64 B1, i64 B2, sl true ⟨1, false⟩ B3], i64 B4] fun R => .cons R.1 fun X0 X1 => .int .i64 X0 fun A0 => .nil X1 <| .nil R.2 <| K A0
theorem C13_S {f : FuncId} {B0 : List TV} {B1 : Int} {B2 : Int} {B3 : List TV} {B4 : Int} {A0 : Int} {K : Int → Nd} (h : tw cx 13 [.st [sl true ⟨6, false⟩ B0, i64 B1, i64 B2, sl true ⟨1, false⟩ B3], i64 B4] = some ([i64 A0], [])) : S cx f (C13 B0 B1 B2 B3 B4 K) = S cx f (K A0) := call_S h rfl
noncomputable def C17 (B0 : List TV) (K : (List TV) → Nd) : Nd := .call 17 [.st [sl true ⟨1, true⟩ B0]] fun R => .cons R.1 fun X0 X1 => .slO ⟨1, true⟩ X0 fun A0 => .nil X1 <| .nil R.2 <| K A0
theorem C17_S {f : FuncId} {B0 : List TV} {A0 : List TV} {K : (List TV) → Nd} (h : tw cx 17 [.st [sl true ⟨1, true⟩ B0]] = some ([sl false ⟨1, true⟩ A0], [])) : S cx f (C17 B0 K) = S cx f (K A0) := call_S h rfl
noncomputable def C18 (B0 : List TV) (K : (List TV) → Nd) : Nd := .call 18 [.st [sl true ⟨1, true⟩ B0]] fun R => .cons R.1 fun X0 X1 => .slO ⟨1, false⟩ X0 fun A0 => .nil X1 <| .nil R.2 <| K A0
theorem C18_S {f : FuncId} {B0 : List TV} {A0 : List TV} {K : (List TV) → Nd} (h : tw cx 18 [.st [sl true ⟨1, true⟩ B0]] = some ([sl false ⟨1, false⟩ A0], [])) : S cx f (C18 B0 K) = S cx f (K A0) := call_S h rfl
noncomputable def C16 (B0 : List TV) (B1 : List TV) (K : (List TV) → Nd) : Nd := .call 16 [sl true ⟨1, true⟩ B0, sl true ⟨1, false⟩ B1] fun R => .cons R.1 fun X0 X1 => .slO ⟨1, true⟩ X0 fun A0 => .nil X1 <| .nil R.2 <| K A0
theorem C16_S {f : FuncId} {B0 : List TV} {B1 : List TV} {A0 : List TV} {K : (List TV) → Nd} (h : tw cx 16 [sl true ⟨1, true⟩ B0, sl true ⟨1, false⟩ B1] = some ([sl false ⟨1, true⟩ A0], [])) : S cx f (C16 B0 B1 K) = S cx f (K A0) := call_S h rfl
noncomputable def C14 (B0 : List TV) (K : Bool → Nd) : Nd := .call 14 [sl true ⟨4, true⟩ B0] fun R => .cons R.1 fun X0 X1 => .bool X0 fun A0 => .nil X1 <| .nil R.2 <| K A0
theorem C14_S {f : FuncId} {B0 : List TV} {A0 : Bool} {K : Bool → Nd} (h : tw cx 14 [sl true ⟨4, true⟩ B0] = some ([tb A0], [])) : S cx f (C14 B0 K) = S cx f (K A0) := call_S h rfl
noncomputable def C15 (B0 : List TV) (K : (List TV) → Nd) : Nd := .call 15 [sl true ⟨4, true⟩ B0] fun R => .cons R.1 fun X0 X1 => .st X0 fun X2 => .cons X2 fun X3 X4 => .slO ⟨1, true⟩ X3 fun A0 => .nil X4 <| .nil X1 <| .nil R.2 <| K A0
theorem C15_S {f : FuncId} {B0 : List TV} {A0 : List TV} {K : (List TV) → Nd} (h : tw cx 15 [sl true ⟨4, true⟩ B0] = some ([.st [sl false ⟨1, true⟩ A0]], [])) : S cx f (C15 B0 K) = S cx f (K A0) := call_S h rfl
noncomputable def C19 (B0 : List TV) (B1 : Int) (B2 : Int) (B3 : List TV) (K : (List TV) → Int → Int → (List TV) → Nd) : Nd := .call 19 [.st [sl true ⟨6, false⟩ B0, i64 B1, i64 B2, sl true ⟨1, false⟩ B3]] fun R => .cons R.1 fun X0 X1 => .st X0 fun X2 => .cons X2 fun X3 X4 => .slO ⟨6, false⟩ X3 fun A0 => .cons X4 fun X5 X6 => .int .i64 X5 fun A1 => .cons X6 fun X7 X8 => .int .i64 X7 fun A2 => .cons X8 fun X9 X10 => .slO ⟨1, false⟩ X9 fun A3 => .nil X10 <| .nil X1 <| .nil R.2 <| K A0 A1 A2 A3
theorem C19_S {f : FuncId} {B0 : List TV} {B1 : Int} {B2 : Int} {B3 : List TV} {A0 : List TV} {A1 : Int} {A2 : Int} {A3 : List TV} {K : (List TV) → Int → Int → (List TV) → Nd} (h : tw cx 19 [.st [sl true ⟨6, false⟩ B0, i64 B1, i64 B2, sl true ⟨1, false⟩ B3]] = some ([.st [sl false ⟨6, false⟩ A0, i64 A1, i64 A2, sl false ⟨1, false⟩ A3]], [])) : S cx f (C19 B0 B1 B2 B3 K) = S cx f (K A0 A1 A2 A3) := call_S h rfl
noncomputable def V5 (t : TV) (K : (List TV) → (List TV) → (List TV) → (List TV) → (List TV) → Nd) : Nd := .st t fun L => .cons L fun TV0 L0 => .slS ⟨4, true⟩ TV0 fun A0 => .cons L0 fun TV1 L1 => .slO ⟨1, true⟩ TV1 fun A1 => .cons L1 fun TV2 L2 => .slO ⟨1, false⟩ TV2 fun A2 => .cons L2 fun TV3 L3 => .slO ⟨1, true⟩ TV3 fun A3 => .cons L3 fun TV4 L4 => .slO ⟨3, true⟩ TV4 fun A4 => .nil L4 <| K A0 A1 A2 A3 A4
noncomputable def C21 (B0 : List TV) (B1 : List TV) (K : Bool → Nd) : Nd := .call 21 [sl true ⟨1, false⟩ B0, sl true ⟨1, false⟩ B1] fun R => .cons R.1 fun X0 X1 => .bool X0 fun A0 => .nil X1 <| .nil R.2 <| K A0
theorem C21_S {f : FuncId} {B0 : List TV} {B1 : List TV} {A0 : Bool} {K : Bool → Nd} (h : tw cx 21 [sl true ⟨1, false⟩ B0, sl true ⟨1, false⟩ B1] = some ([tb A0], [])) : S cx f (C21 B0 B1 K) = S cx f (K A0) := call_S h rfl
noncomputable def C22 (B0 : List TV) (B1 : Int) (B2 : Int) (B3 : List TV) (B4 : List TV) (B5 : Int) (B6 : Int) (B7 : List TV) (K : Bool → Nd) : Nd := .call 22 [.st [sl true ⟨6, false⟩ B0, i64 B1, i64 B2, sl true ⟨1, false⟩ B3], .st [sl true ⟨6, false⟩ B4, i64 B5, i64 B6, sl true ⟨1, false⟩ B7]] fun R => .cons R.1 fun X0 X1 => .bool X0 fun A0 => .nil X1 <| .nil R.2 <| K A0
theorem C22_S {f : FuncId} {B0 : List TV} {B1 : Int} {B2 : Int} {B3 : List TV} {B4 : List TV} {B5 : Int} {B6 : Int} {B7 : List TV} {A0 : Bool} {K : Bool → Nd} (h : tw cx 22 [.st [sl true ⟨6, false⟩ B0, i64 B1, i64 B2, sl true ⟨1, false⟩ B3], .st [sl true ⟨6, false⟩ B4, i64 B5, i64 B6, sl true ⟨1, false⟩ B7]] = some ([tb A0], [])) : S cx f (C22 B0 B1 B2 B3 B4 B5 B6 B7 K) = S cx f (K A0) := call_S h rfl
noncomputable def V4_1 (t : TV) (K : (List TV) → Int → Int → (List TV) → Nd) : Nd := .st t fun L => .cons L fun TV0 L0 => .slO ⟨6, false⟩ TV0 fun A0 => .cons L0 fun TV1 L1 => .int .i64 TV1 fun A1 => .cons L1 fun TV2 L2 => .int .i64 TV2 fun A2 => .cons L2 fun TV3 L3 => .slO ⟨1, false⟩ TV3 fun A3 => .nil L3 <| K A0 A1 A2 A3
theorem V4_1_S {f : FuncId} {A0 : List TV} {A1 : Int} {A2 : Int} {A3 : List TV} {K : (List TV) → Int → Int → (List TV) → Nd} : S cx f (V4_1 (.st [sl false ⟨6, false⟩ A0, i64 A1, i64 A2, sl false ⟨1, false⟩ A3]) K) = S cx f (K A0 A1 A2 A3) := rfl
noncomputable def C24 (B0 : List TV) (B1 : Int) (K : Int → (List TV) → Nd) : Nd := .call 24 [sl false ⟨1, false⟩ B0, i64 B1] fun R => .cons R.1 fun X0 X1 => .int .i64 X0 fun A0 => .nil X1 <| .cons R.2 fun X2 X3 => .slO ⟨1, false⟩ X2 fun A1 => .nil X3 <| K A0 A1
theorem C24_S {f : FuncId} {B0 : List TV} {B1 : Int} {A0 : Int} {A1 : List TV} {K : Int → (List TV) → Nd} (h : tw cx 24 [sl false ⟨1, false⟩ B0, i64 B1] = some ([i64 A0], [sl false ⟨1, false⟩ A1])) : S cx f (C24 B0 B1 K) = S cx f (K A0 A1) := call_S h rfl
noncomputable def C25 (B0 : List TV) (B1 : Int) (K : Int → Nd) : Nd := .call 25 [sl true ⟨1, false⟩ B0, i64 B1] fun R => .cons R.1 fun X0 X1 => .int .i64 X0 fun A0 => .nil X1 <| .nil R.2 <| K A0
theorem C25_S {f : FuncId} {B0 : List TV} {B1 : Int} {A0 : Int} {K : Int → Nd} (h : tw cx 25 [sl true ⟨1, false⟩ B0, i64 B1] = some ([i64 A0], [])) : S cx f (C25 B0 B1 K) = S cx f (K A0) := call_S h rfl
noncomputable def C26 (B0 : List TV) (B1 : Int) (K : Int → Nd) : Nd := .call 26 [sl true ⟨6, false⟩ B0, i64 B1] fun R => .cons R.1 fun X0 X1 => .int .i64 X0 fun A0 => .nil X1 <| .nil R.2 <| K A0
theorem C26_S {f : FuncId} {B0 : List TV} {B1 : Int} {A0 : Int} {K : Int → Nd} (h : tw cx 26 [sl true ⟨6, false⟩ B0, i64 B1] = some ([i64 A0], [])) : S cx f (C26 B0 B1 K) = S cx f (K A0) := call_S h rfl
noncomputable def C27 (B0 : List TV) (B1 : Int) (K : Int → Nd) : Nd := .call 27 [sl true ⟨1, false⟩ B0, i64 B1] fun R => .cons R.1 fun X0 X1 => .int .i64 X0 fun A0 => .nil X1 <| .nil R.2 <| K A0
theorem C27_S {f : FuncId} {B0 : List TV} {B1 : Int} {A0 : Int} {K : Int → Nd} (h : tw cx 27 [sl true ⟨1, false⟩ B0, i64 B1] = some ([i64 A0], [])) : S cx f (C27 B0 B1 K) = S cx f (K A0) := call_S h rfl
noncomputable def C28 (B0 : List TV) (K : Bool → Nd) : Nd := .call 28 [sl true ⟨4, true⟩ B0] fun R => .cons R.1 fun X0 X1 => .bool X0 fun A0 => .nil X1 <| .nil R.2 <| K A0
theorem C28_S {f : FuncId} {B0 : List TV} {A0 : Bool} {K : Bool → Nd} (h : tw cx 28 [sl true ⟨4, true⟩ B0] = some ([tb A0], [])) : S cx f (C28 B0 K) = S cx f (K A0) := call_S h rfl
noncomputable def C29 (B0 : List TV) (K : (List TV) → Nd) : Nd := .call 29 [sl true ⟨4, true⟩ B0] fun R => .cons R.1 fun X0 X1 => .slO ⟨1, false⟩ X0 fun A0 => .nil X1 <| .nil R.2 <| K A0
theorem C29_S {f : FuncId} {B0 : List TV} {A0 : List TV} {K : (List TV) → Nd} (h : tw cx 29 [sl true ⟨4, true⟩ B0] = some ([sl false ⟨1, false⟩ A0], [])) : S cx f (C29 B0 K) = S cx f (K A0) := call_S h rfl
noncomputable def C31 (B0 : List TV) (B1 : List TV) (K : Bool → Nd) : Nd := .call 31 [.st [sl true ⟨1, true⟩ B0], sl true ⟨1, true⟩ B1] fun R => .cons R.1 fun X0 X1 => .bool X0 fun A0 => .nil X1 <| .nil R.2 <| K A0
theorem C31_S {f : FuncId} {B0 : List TV} {B1 : List TV} {A0 : Bool} {K : Bool → Nd} (h : tw cx 31 [.st [sl true ⟨1, true⟩ B0], sl true ⟨1, true⟩ B1] = some ([tb A0], [])) : S cx f (C31 B0 B1 K) = S cx f (K A0) := call_S h rfl
noncomputable def C30 (B0 : List TV) (K : Bool → Nd) : Nd := .call 30 [sl true ⟨6, false⟩ B0] fun R => .cons R.1 fun X0 X1 => .bool X0 fun A0 => .nil X1 <| .nil R.2 <| K A0
theorem C30_S {f : FuncId} {B0 : List TV} {A0 : Bool} {K : Bool → Nd} (h : tw cx 30 [sl true ⟨6, false⟩ B0] = some ([tb A0], [])) : S cx f (C30 B0 K) = S cx f (K A0) := call_S h rfl
noncomputable def C32 (B0 : List TV) (B1 : Int) (K : (List TV) → Nd) : Nd := .call 32 [sl false ⟨1, false⟩ B0, i64 B1] fun R => .cons R.1 fun X0 X1 => .slO ⟨1, false⟩ X0 fun A0 => .nil X1 <| .nil R.2 <| K A0
theorem C32_S {f : FuncId} {B0 : List TV} {B1 : Int} {A0 : List TV} {K : (List TV) → Nd} (h : tw cx 32 [sl false ⟨1, false⟩ B0, i64 B1] = some ([sl false ⟨1, false⟩ A0], [])) : S cx f (C32 B0 B1 K) = S cx f (K A0) := call_S h rfl
noncomputable def C33 (B0 : List TV) (B1 : Int) (K : Int → Nd) : Nd := .call 33 [sl true ⟨1, true⟩ B0, i64 B1] fun R => .cons R.1 fun X0 X1 => .int .i64 X0 fun A0 => .nil X1 <| .nil R.2 <| K A0
theorem C33_S {f : FuncId} {B0 : List TV} {B1 : Int} {A0 : Int} {K : Int → Nd} (h : tw cx 33 [sl true ⟨1, true⟩ B0, i64 B1] = some ([i64 A0], [])) : S cx f (C33 B0 B1 K) = S cx f (K A0) := call_S h rfl
noncomputable def C34 (B0 : List TV) (B1 : Int) (K : (List TV) → Nd) : Nd := .call 34 [.st [sl true ⟨1, true⟩ B0], i64 B1] fun R => .cons R.1 fun X0 X1 => .slO ⟨1, false⟩ X0 fun A0 => .nil X1 <| .nil R.2 <| K A0
theorem C34_S {f : FuncId} {B0 : List TV} {B1 : Int} {A0 : List TV} {K : (List TV) → Nd} (h : tw cx 34 [.st [sl true ⟨1, true⟩ B0], i64 B1] = some ([sl false ⟨1, false⟩ A0], [])) : S cx f (C34 B0 B1 K) = S cx f (K A0) := call_S h rfl
noncomputable def C35 (B0 : List TV) (B1 : Int) (K : Bool → Nd) : Nd := .call 35 [sl true ⟨1, false⟩ B0, i64 B1] fun R => .cons R.1 fun X0 X1 => .bool X0 fun A0 => .nil X1 <| .nil R.2 <| K A0
theorem C35_S {f : FuncId} {B0 : List TV} {B1 : Int} {A0 : Bool} {K : Bool → Nd} (h : tw cx 35 [sl true ⟨1, false⟩ B0, i64 B1] = some ([tb A0], [])) : S cx f (C35 B0 B1 K) = S cx f (K A0) := call_S h rfl
noncomputable def C36 (B0 : List TV) (B1 : Int) (B2 : List TV) (B3 : List TV) (K : (List TV) → (List TV) → Nd) : Nd := .call 36 [.st [sl true ⟨1, true⟩ B0], i64 B1, sl false ⟨1, false⟩ B2, sl true ⟨1, false⟩ B3] fun R => .cons R.1 fun X0 X1 => .slO ⟨1, false⟩ X0 fun A0 => .nil X1 <| .cons R.2 fun X2 X3 => .slO ⟨1, false⟩ X2 fun A1 => .nil X3 <| K A0 A1
theorem C36_S {f : FuncId} {B0 : List TV} {B1 : Int} {B2 : List TV} {B3 : List TV} {A0 : List TV} {A1 : List TV} {K : (List TV) → (List TV) → Nd} (h : tw cx 36 [.st [sl true ⟨1, true⟩ B0], i64 B1, sl false ⟨1, false⟩ B2, sl true ⟨1, false⟩ B3] = some ([sl false ⟨1, false⟩ A0], [sl false ⟨1, false⟩ A1])) : S cx f (C36 B0 B1 B2 B3 K) = S cx f (K A0 A1) := call_S h rfl
noncomputable def C37 (B0 : List TV) (K : (List TV) → Nd) : Nd := .call 37 [sl true ⟨6, false⟩ B0] fun R => .cons R.1 fun X0 X1 => .slO ⟨6, false⟩ X0 fun A0 => .nil X1 <| .nil R.2 <| K A0
theorem C37_S {f : FuncId} {B0 : List TV} {A0 : List TV} {K : (List TV) → Nd} (h : tw cx 37 [sl true ⟨6, false⟩ B0] = some ([sl false ⟨6, false⟩ A0], [])) : S cx f (C37 B0 K) = S cx f (K A0) := call_S h rfl
noncomputable def C38 (B0 : List TV) (K : (List TV) → Nd) : Nd := .call 38 [sl true ⟨1, false⟩ B0] fun R => .cons R.1 fun X0 X1 => .slO ⟨1, false⟩ X0 fun A0 => .nil X1 <| .nil R.2 <| K A0
theorem C38_S {f : FuncId} {B0 : List TV} {A0 : List TV} {K : (List TV) → Nd} (h : tw cx 38 [sl true ⟨1, false⟩ B0] = some ([sl false ⟨1, false⟩ A0], [])) : S cx f (C38 B0 K) = S cx f (K A0) := call_S h rfl
noncomputable def C44 (B0 : List TV) (K : (List TV) → Nd) : Nd := .call 44 [sl true ⟨1, true⟩ B0] fun R => .cons R.1 fun X0 X1 => .slO ⟨1, true⟩ X0 fun A0 => .nil X1 <| .nil R.2 <| K A0
theorem C44_S {f : FuncId} {B0 : List TV} {A0 : List TV} {K : (List TV) → Nd} (h : tw cx 44 [sl true ⟨1, true⟩ B0] = some ([sl false ⟨1, true⟩ A0], [])) : S cx f (C44 B0 K) = S cx f (K A0) := call_S h rfl
noncomputable def C39 (B0 : List TV) (K : Bool → Nd) : Nd := .call 39 [sl true ⟨4, true⟩ B0] fun R => .cons R.1 fun X0 X1 => .bool X0 fun A0 => .nil X1 <| .nil R.2 <| K A0
theorem C39_S {f : FuncId} {B0 : List TV} {A0 : Bool} {K : Bool → Nd} (h : tw cx 39 [sl true ⟨4, true⟩ B0] = some ([tb A0], [])) : S cx f (C39 B0 K) = S cx f (K A0) := call_S h rfl
noncomputable def C40 (B0 : List TV) (K : Bool → Nd) : Nd := .call 40 [sl true ⟨4, true⟩ B0] fun R => .cons R.1 fun X0 X1 => .bool X0 fun A0 => .nil X1 <| .nil R.2 <| K A0
theorem C40_S {f : FuncId} {B0 : List TV} {A0 : Bool} {K : Bool → Nd} (h : tw cx 40 [sl true ⟨4, true⟩ B0] = some ([tb A0], [])) : S cx f (C40 B0 K) = S cx f (K A0) := call_S h rfl
noncomputable def C42 (B0 : List TV) (K : (List TV) → Nd) : Nd := .call 42 [sl true ⟨4, true⟩ B0] fun R => .cons R.1 fun X0 X1 => .slO ⟨1, true⟩ X0 fun A0 => .nil X1 <| .nil R.2 <| K A0
theorem C42_S {f : FuncId} {B0 : List TV} {A0 : List TV} {K : (List TV) → Nd} (h : tw cx 42 [sl true ⟨4, true⟩ B0] = some ([sl false ⟨1, true⟩ A0], [])) : S cx f (C42 B0 K) = S cx f (K A0) := call_S h rfl
noncomputable def C41 (B0 : List TV) (K : (List TV) → Nd) : Nd := .call 41 [sl true ⟨1, true⟩ B0] fun R => .cons R.1 fun X0 X1 => .st X0 fun X2 => .cons X2 fun X3 X4 => .slO ⟨1, true⟩ X3 fun A0 => .nil X4 <| .nil X1 <| .nil R.2 <| K A0
theorem C41_S {f : FuncId} {B0 : List TV} {A0 : List TV} {K : (List TV) → Nd} (h : tw cx 41 [sl true ⟨1, true⟩ B0] = some ([.st [sl false ⟨1, true⟩ A0]], [])) : S cx f (C41 B0 K) = S cx f (K A0) := call_S h rfl
noncomputable def C43 (B0 : List TV) (K : (List TV) → Nd) : Nd := .call 43 [.pt true () (.st [sl false ⟨1, true⟩ B0])] fun R => .cons R.1 fun X0 X1 => .slO ⟨1, false⟩ X0 fun A0 => .nil X1 <| .nil R.2 <| K A0
theorem C43_S {f : FuncId} {B0 : List TV} {A0 : List TV} {K : (List TV) → Nd} (h : tw cx 43 [.pt true () (.st [sl false ⟨1, true⟩ B0])] = some ([sl false ⟨1, false⟩ A0], [])) : S cx f (C43 B0 K) = S cx f (K A0) := call_S h rfl
noncomputable def C45 (B0 : List TV) (K : (List TV) → Nd) : Nd := .call 45 [sl true ⟨1, false⟩ B0] fun R => .cons R.1 fun X0 X1 => .slO ⟨1, false⟩ X0 fun A0 => .nil X1 <| .nil R.2 <| K A0
theorem C45_S {f : FuncId} {B0 : List TV} {A0 : List TV} {K : (List TV) → Nd} (h : tw cx 45 [sl true ⟨1, false⟩ B0] = some ([sl false ⟨1, false⟩ A0], [])) : S cx f (C45 B0 K) = S cx f (K A0) := call_S h rfl
noncomputable def C46 (B0 : List TV) (B1 : List TV) (K : Bool → Nd) : Nd := .call 46 [sl true ⟨6, false⟩ B0, sl true ⟨6, false⟩ B1] fun R => .cons R.1 fun X0 X1 => .bool X0 fun A0 => .nil X1 <| .nil R.2 <| K A0
theorem C46_S {f : FuncId} {B0 : List TV} {B1 : List TV} {A0 : Bool} {K : Bool → Nd} (h : tw cx 46 [sl true ⟨6, false⟩ B0, sl true ⟨6, false⟩ B1] = some ([tb A0], [])) : S cx f (C46 B0 B1 K) = S cx f (K A0) := call_S h rfl
noncomputable def V6 (t : TV) (K : Int → Int → Int → Int → Int → Int → Nd) : Nd := .st t fun L => .cons L fun TV0 L0 => .int .i64 TV0 fun A0 => .cons L0 fun TV1 L1 => .int .i64 TV1 fun A1 => .cons L1 fun TV2 L2 => .int .i64 TV2 fun A2 => .cons L2 fun TV3 L3 => .int .i64 TV3 fun A3 => .cons L3 fun TV4 L4 => .int .i64 TV4 fun A4 => .cons L4 fun TV5 L5 => .int .i64 TV5 fun A5 => .nil L5 <| K A0 A1 A2 A3 A4 A5
theorem V6_S {f : FuncId} {A0 : Int} {A1 : Int} {A2 : Int} {A3 : Int} {A4 : Int} {A5 : Int} {K : Int → Int → Int → Int → Int → Int → Nd} : S cx f (V6 (.st [i64 A0, i64 A1, i64 A2, i64 A3, i64 A4, i64 A5]) K) = S cx f (K A0 A1 A2 A3 A4 A5) := rfl
noncomputable def C47 (B0 : List TV) (B1 : Int) (B2 : Int) (B3 : List TV) (B4 : Int) (K : Bool → Nd) : Nd := .call 47 [.st [sl true ⟨6, false⟩ B0, i64 B1, i64 B2, sl true ⟨1, false⟩ B3], i64 B4] fun R => .cons R.1 fun X0 X1 => .bool X0 fun A0 => .nil X1 <| .nil R.2 <| K A0
theorem C47_S {f : FuncId} {B0 : List TV} {B1 : Int} {B2 : Int} {B3 : List TV} {B4 : Int} {A0 : Bool} {K : Bool → Nd} (h : tw cx 47 [.st [sl true ⟨6, false⟩ B0, i64 B1, i64 B2, sl true ⟨1, false⟩ B3], i64 B4] = some ([tb A0], [])) : S cx f (C47 B0 B1 B2 B3 B4 K) = S cx f (K A0) := call_S h rfl
noncomputable def C48 (B0 : Int) (B1 : Int) (B2 : Int) (K : Bool → Nd) : Nd := .call 48 [i64 B0, i64 B1, i64 B2] fun R => .cons R.1 fun X0 X1 => .bool X0 fun A0 => .nil X1 <| .nil R.2 <| K A0
theorem C48_S {f : FuncId} {B0 : Int} {B1 : Int} {B2 : Int} {A0 : Bool} {K : Bool → Nd} (h : tw cx 48 [i64 B0, i64 B1, i64 B2] = some ([tb A0], [])) : S cx f (C48 B0 B1 B2 K) = S cx f (K A0) := call_S h rfl
noncomputable def C49 (B0 : Int) (B1 : Int) (B2 : Int) (B3 : Int) (B4 : Int) (B5 : Int) (K : Bool → Nd) : Nd := .call 49 [.st [i64 B0, i64 B1, i64 B2, i64 B3, i64 B4, i64 B5]] fun R => .cons R.1 fun X0 X1 => .bool X0 fun A0 => .nil X1 <| .nil R.2 <| K A0
theorem C49_S {f : FuncId} {B0 : Int} {B1 : Int} {B2 : Int} {B3 : Int} {B4 : Int} {B5 : Int} {A0 : Bool} {K : Bool → Nd} (h : tw cx 49 [.st [i64 B0, i64 B1, i64 B2, i64 B3, i64 B4, i64 B5]] = some ([tb A0], [])) : S cx f (C49 B0 B1 B2 B3 B4 B5 K) = S cx f (K A0) := call_S h rfl
noncomputable def C50 (B0 : Int) (B1 : Int) (B2 : Int) (B3 : Int) (B4 : Int) (B5 : Int) (K : Int → Int → Int → Int → Int → Int → Nd) : Nd := .call 50 [.st [i64 B0, i64 B1, i64 B2, i64 B3, i64 B4, i64 B5]] fun R => .cons R.1 fun X0 X1 => .st X0 fun X2 => .cons X2 fun X3 X4 => .int .i64 X3 fun A0 => .cons X4 fun X5 X6 => .int .i64 X5 fun A1 => .cons X6 fun X7 X8 => .int .i64 X7 fun A2 => .cons X8 fun X9 X10 => .int .i64 X9 fun A3 => .cons X10 fun X11 X12 => .int .i64 X11 fun A4 => .cons X12 fun X13 X14 => .int .i64 X13 fun A5 => .nil X14 <| .nil X1 <| .nil R.2 <| K A0 A1 A2 A3 A4 A5
theorem C50_S {f : FuncId} {B0 : Int} {B1 : Int} {B2 : Int} {B3 : Int} {B4 : Int} {B5 : Int} {A0 : Int} {A1 : Int} {A2 : Int} {A3 : Int} {A4 : Int} {A5 : Int} {K : Int → Int → Int → Int → Int → Int → Nd} (h : tw cx 50 [.st [i64 B0, i64 B1, i64 B2, i64 B3, i64 B4, i64 B5]] = some ([.st [i64 A0, i64 A1, i64 A2, i64 A3, i64 A4, i64 A5]], [])) : S cx f (C50 B0 B1 B2 B3 B4 B5 K) = S cx f (K A0 A1 A2 A3 A4 A5) := call_S h rfl
noncomputable def C51 (B0 : Int) (B1 : Int) (B2 : Int) (K : Bool → Nd) : Nd := .call 51 [i64 B0, i64 B1, i64 B2] fun R => .cons R.1 fun X0 X1 => .bool X0 fun A0 => .nil X1 <| .nil R.2 <| K A0
theorem C51_S {f : FuncId} {B0 : Int} {B1 : Int} {B2 : Int} {A0 : Bool} {K : Bool → Nd} (h : tw cx 51 [i64 B0, i64 B1, i64 B2] = some ([tb A0], [])) : S cx f (C51 B0 B1 B2 K) = S cx f (K A0) := call_S h rfl
noncomputable def C52 (B0 : List TV) (B1 : List TV) (K : Bool → Nd) : Nd := .call 52 [sl true ⟨4, true⟩ B0, .cl 53 [.pt true () (sl true ⟨4, true⟩ B1)]] fun R => .cons R.1 fun X0 X1 => .bool X0 fun A0 => .nil X1 <| .nil R.2 <| K A0
theorem C52_S {f : FuncId} {B0 : List TV} {B1 : List TV} {A0 : Bool} {K : Bool → Nd} (h : tw cx 52 [sl true ⟨4, true⟩ B0, .cl 53 [.pt true () (sl true ⟨4, true⟩ B1)]] = some ([tb A0], [])) : S cx f (C52 B0 B1 K) = S cx f (K A0) := call_S h rfl
noncomputable def C57 (B0 : List TV) (B1 : Int) (B2 : List TV) (K : (List TV) → Nd) : Nd := .call 57 [sl true ⟨1, true⟩ B0, i64 B1, sl true ⟨1, false⟩ B2] fun R => .cons R.1 fun X0 X1 => .slO ⟨1, false⟩ X0 fun A0 => .nil X1 <| .nil R.2 <| K A0
theorem C57_S {f : FuncId} {B0 : List TV} {B1 : Int} {B2 : List TV} {A0 : List TV} {K : (List TV) → Nd} (h : tw cx 57 [sl true ⟨1, true⟩ B0, i64 B1, sl true ⟨1, false⟩ B2] = some ([sl false ⟨1, false⟩ A0], [])) : S cx f (C57 B0 B1 B2 K) = S cx f (K A0) := call_S h rfl
noncomputable def C56 (B0 : List TV) (B1 : Bool) (K : Bool → Nd) : Nd := .call 56 [sl true ⟨1, false⟩ B0, tb B1] fun R => .cons R.1 fun X0 X1 => .bool X0 fun A0 => .nil X1 <| .nil R.2 <| K A0
theorem C56_S {f : FuncId} {B0 : List TV} {B1 : Bool} {A0 : Bool} {K : Bool → Nd} (h : tw cx 56 [sl true ⟨1, false⟩ B0, tb B1] = some ([tb A0], [])) : S cx f (C56 B0 B1 K) = S cx f (K A0) := call_S h rfl
noncomputable def C58 (B0 : List TV) (K : Bool → Nd) : Nd := .call 58 [sl true ⟨6, false⟩ B0] fun R => .cons R.1 fun X0 X1 => .bool X0 fun A0 => .nil X1 <| .nil R.2 <| K A0
theorem C58_S {f : FuncId} {B0 : List TV} {A0 : Bool} {K : Bool → Nd} (h : tw cx 58 [sl true ⟨6, false⟩ B0] = some ([tb A0], [])) : S cx f (C58 B0 K) = S cx f (K A0) := call_S h rfl
noncomputable def C59 (B0 : List TV) (K : Bool → Nd) : Nd := .call 59 [.pt true () (.st [sl false ⟨1, true⟩ B0])] fun R => .cons R.1 fun X0 X1 => .bool X0 fun A0 => .nil X1 <| .nil R.2 <| K A0
theorem C59_S {f : FuncId} {B0 : List TV} {A0 : Bool} {K : Bool → Nd} (h : tw cx 59 [.pt true () (.st [sl false ⟨1, true⟩ B0])] = some ([tb A0], [])) : S cx f (C59 B0 K) = S cx f (K A0) := call_S h rfl
noncomputable def C62 (B0 : List TV) (K : (List TV) → Nd) : Nd := .call 62 [sl false ⟨1, false⟩ B0] fun R => .cons R.1 fun X0 X1 => .slR ⟨1, false⟩ X0 fun A0 => .nil X1 <| .nil R.2 <| K A0
theorem C62_S {f : FuncId} {B0 : List TV} {A0 : List TV} {q0 : Bool} {K : (List TV) → Nd} (h : tw cx 62 [sl false ⟨1, false⟩ B0] = some ([sl q0 ⟨1, false⟩ A0], [])) : S cx f (C62 B0 K) = S cx f (K A0) := call_S h rfl
noncomputable def C60 (B0 : List TV) (K : (List TV) → Nd) : Nd := .call 60 [sl true ⟨1, false⟩ B0] fun R => .cons R.1 fun X0 X1 => .slO ⟨1, false⟩ X0 fun A0 => .nil X1 <| .nil R.2 <| K A0
theorem C60_S {f : FuncId} {B0 : List TV} {A0 : List TV} {K : (List TV) → Nd} (h : tw cx 60 [sl true ⟨1, false⟩ B0] = some ([sl false ⟨1, false⟩ A0], [])) : S cx f (C60 B0 K) = S cx f (K A0) := call_S h rfl
noncomputable def C61 (B0 : List TV) (K : (List TV) → Nd) : Nd := .call 61 [sl false ⟨1, false⟩ B0] fun R => .nil R.1 <| .cons R.2 fun X0 X1 => .slO ⟨1, false⟩ X0 fun A0 => .nil X1 <| K A0
theorem C61_S {f : FuncId} {B0 : List TV} {A0 : List TV} {K : (List TV) → Nd} (h : tw cx 61 [sl false ⟨1, false⟩ B0] = some ([], [sl false ⟨1, false⟩ A0])) : S cx f (C61 B0 K) = S cx f (K A0) := call_S h rfl
noncomputable def C65 (B0 : Int) (B1 : Int) (B2 : Int) (B3 : Int) (B4 : Int) (B5 : Int) (B6 : Int) (B7 : Int) (B8 : Int) (B9 : Int) (B10 : Int) (B11 : Int) (K : Bool → Nd) : Nd := .call 65 [.st [i64 B0, i64 B1, i64 B2, i64 B3, i64 B4, i64 B5], .st [i64 B6, i64 B7, i64 B8, i64 B9, i64 B10, i64 B11]] fun R => .cons R.1 fun X0 X1 => .bool X0 fun A0 => .nil X1 <| .nil R.2 <| K A0
theorem C65_S {f : FuncId} {B0 : Int} {B1 : Int} {B2 : Int} {B3 : Int} {B4 : Int} {B5 : Int} {B6 : Int} {B7 : Int} {B8 : Int} {B9 : Int} {B10 : Int} {B11 : Int} {A0 : Bool} {K : Bool → Nd} (h : tw cx 65 [.st [i64 B0, i64 B1, i64 B2, i64 B3, i64 B4, i64 B5], .st [i64 B6, i64 B7, i64 B8, i64 B9, i64 B10, i64 B11]] = some ([tb A0], [])) : S cx f (C65 B0 B1 B2 B3 B4 B5 B6 B7 B8 B9 B10 B11 K) = S cx f (K A0) := call_S h rfl
noncomputable def C66 (B0 : Int) (K : Bool → Nd) : Nd := .call 66 [i64 B0] fun R => .cons R.1 fun X0 X1 => .bool X0 fun A0 => .nil X1 <| .nil R.2 <| K A0
theorem C66_S {f : FuncId} {B0 : Int} {A0 : Bool} {K : Bool → Nd} (h : tw cx 66 [i64 B0] = some ([tb A0], [])) : S cx f (C66 B0 K) = S cx f (K A0) := call_S h rfl
noncomputable def C67 (B0 : List TV) (B1 : List TV) (K : Int → Nd) : Nd := .call 67 [sl true ⟨4, true⟩ B0, .cl 53 [.pt true () (sl true ⟨4, true⟩ B1)]] fun R => .cons R.1 fun X0 X1 => .int .i64 X0 fun A0 => .nil X1 <| .nil R.2 <| K A0
theorem C67_S {f : FuncId} {B0 : List TV} {B1 : List TV} {A0 : Int} {K : Int → Nd} (h : tw cx 67 [sl true ⟨4, true⟩ B0, .cl 53 [.pt true () (sl true ⟨4, true⟩ B1)]] = some ([i64 A0], [])) : S cx f (C67 B0 B1 K) = S cx f (K A0) := call_S h rfl
noncomputable def C54 (B0 : List TV) (B1 : Int) (K : Bool → Nd) : Nd := .call 54 [sl true ⟨6, false⟩ B0, i64 B1] fun R => .cons R.1 fun X0 X1 => .bool X0 fun A0 => .nil X1 <| .nil R.2 <| K A0
theorem C54_S {f : FuncId} {B0 : List TV} {B1 : Int} {A0 : Bool} {K : Bool → Nd} (h : tw cx 54 [sl true ⟨6, false⟩ B0, i64 B1] = some ([tb A0], [])) : S cx f (C54 B0 B1 K) = S cx f (K A0) := call_S h rfl
noncomputable def C55 (B0 : Int) (B1 : Int) (B2 : List TV) (B3 : Int) (B4 : Int) (K : Bool → Nd) : Nd := .call 55 [i64 B0, i64 B1, sl true ⟨1, false⟩ B2, i64 B3, i64 B4] fun R => .cons R.1 fun X0 X1 => .bool X0 fun A0 => .nil X1 <| .nil R.2 <| K A0
theorem C55_S {f : FuncId} {B0 : Int} {B1 : Int} {B2 : List TV} {B3 : Int} {B4 : Int} {A0 : Bool} {K : Bool → Nd} (h : tw cx 55 [i64 B0, i64 B1, sl true ⟨1, false⟩ B2, i64 B3, i64 B4] = some ([tb A0], [])) : S cx f (C55 B0 B1 B2 B3 B4 K) = S cx f (K A0) := call_S h rfl
noncomputable def C68 (B0 : List TV) (B1 : Int) (K : Bool → Nd) : Nd := .call 68 [sl true ⟨6, false⟩ B0, .cl 69 [.pt true () (i64 B1)]] fun R => .cons R.1 fun X0 X1 => .bool X0 fun A0 => .nil X1 <| .nil R.2 <| K A0
theorem C68_S {f : FuncId} {B0 : List TV} {B1 : Int} {A0 : Bool} {K : Bool → Nd} (h : tw cx 68 [sl true ⟨6, false⟩ B0, .cl 69 [.pt true () (i64 B1)]] = some ([tb A0], [])) : S cx f (C68 B0 B1 K) = S cx f (K A0) := call_S h rfl
noncomputable def C72 (B0 : List TV) (B1 : Int) (K : Bool → Nd) : Nd := .call 72 [sl true ⟨1, false⟩ B0, .cl 73 [.pt true () (i64 B1)]] fun R => .cons R.1 fun X0 X1 => .bool X0 fun A0 => .nil X1 <| .nil R.2 <| K A0
theorem C72_S {f : FuncId} {B0 : List TV} {B1 : Int} {A0 : Bool} {K : Bool → Nd} (h : tw cx 72 [sl true ⟨1, false⟩ B0, .cl 73 [.pt true () (i64 B1)]] = some ([tb A0], [])) : S cx f (C72 B0 B1 K) = S cx f (K A0) := call_S h rfl
noncomputable def C71 (B0 : Int) (K : Bool → Nd) : Nd := .call 71 [i64 B0] fun R => .cons R.1 fun X0 X1 => .bool X0 fun A0 => .nil X1 <| .nil R.2 <| K A0
theorem C71_S {f : FuncId} {B0 : Int} {A0 : Bool} {K : Bool → Nd} (h : tw cx 71 [i64 B0] = some ([tb A0], [])) : S cx f (C71 B0 K) = S cx f (K A0) := call_S h rfl
noncomputable def C74 (B0 : List TV) (B1 : Bool) (K : Int → Nd) : Nd := .call 74 [sl true ⟨1, false⟩ B0, tb B1] fun R => .cons R.1 fun X0 X1 => .int .i64 X0 fun A0 => .nil X1 <| .nil R.2 <| K A0
theorem C74_S {f : FuncId} {B0 : List TV} {B1 : Bool} {A0 : Int} {K : Int → Nd} (h : tw cx 74 [sl true ⟨1, false⟩ B0, tb B1] = some ([i64 A0], [])) : S cx f (C74 B0 B1 K) = S cx f (K A0) := call_S h rfl
noncomputable def C75 (B0 : List TV) (B1 : Int) (K : Bool → Nd) : Nd := .call 75 [sl true ⟨1, false⟩ B0, i64 B1] fun R => .cons R.1 fun X0 X1 => .bool X0 fun A0 => .nil X1 <| .nil R.2 <| K A0
theorem C75_S {f : FuncId} {B0 : List TV} {B1 : Int} {A0 : Bool} {K : Bool → Nd} (h : tw cx 75 [sl true ⟨1, false⟩ B0, i64 B1] = some ([tb A0], [])) : S cx f (C75 B0 B1 K) = S cx f (K A0) := call_S h rfl
noncomputable def C77 (B0 : Int) (K : Int → Nd) : Nd := .call 77 [.fl (.int .u64 B0)] fun R => .cons R.1 fun X0 X1 => .int .i64 X0 fun A0 => .nil X1 <| .nil R.2 <| K A0
theorem C77_S {f : FuncId} {B0 : Int} {A0 : Int} {K : Int → Nd} (h : tw cx 77 [.fl (.int .u64 B0)] = some ([i64 A0], [])) : S cx f (C77 B0 K) = S cx f (K A0) := call_S h rfl
noncomputable def C76 (B0 : List TV) (B1 : Int) (B2 : Int) (B3 : Int) (K : (List TV) → Nd) : Nd := .call 76 [sl false ⟨1, false⟩ B0, i64 B1, i64 B2, i64 B3] fun R => .nil R.1 <| .cons R.2 fun X0 X1 => .slO ⟨1, false⟩ X0 fun A0 => .nil X1 <| K A0
theorem C76_S {f : FuncId} {B0 : List TV} {B1 : Int} {B2 : Int} {B3 : Int} {A0 : List TV} {K : (List TV) → Nd} (h : tw cx 76 [sl false ⟨1, false⟩ B0, i64 B1, i64 B2, i64 B3] = some ([], [sl false ⟨1, false⟩ A0])) : S cx f (C76 B0 B1 B2 B3 K) = S cx f (K A0) := call_S h rfl
noncomputable def C53 (B0 : List TV) (B1 : Int) (B2 : Int) (B3 : List TV) (B4 : List TV) (K : Bool → Nd) : Nd := .call 53 [.st [sl true ⟨6, false⟩ B0, i64 B1, i64 B2, sl true ⟨1, false⟩ B3], .pt true () (sl true ⟨4, true⟩ B4)] fun R => .cons R.1 fun X0 X1 => .bool X0 fun A0 => .nil X1 <| .nil R.2 <| K A0
theorem C53_S {f : FuncId} {B0 : List TV} {B1 : Int} {B2 : Int} {B3 : List TV} {B4 : List TV} {A0 : Bool} {K : Bool → Nd} (h : tw cx 53 [.st [sl true ⟨6, false⟩ B0, i64 B1, i64 B2, sl true ⟨1, false⟩ B3], .pt true () (sl true ⟨4, true⟩ B4)] = some ([tb A0], [])) : S cx f (C53 B0 B1 B2 B3 B4 K) = S cx f (K A0) := call_S h rfl
noncomputable def C78 (B0 : List TV) (B1 : Int) (K : Int → Nd) : Nd := .call 78 [sl true ⟨6, false⟩ B0, .cl 69 [.pt true () (i64 B1)]] fun R => .cons R.1 fun X0 X1 => .int .i64 X0 fun A0 => .nil X1 <| .nil R.2 <| K A0
theorem C78_S {f : FuncId} {B0 : List TV} {B1 : Int} {A0 : Int} {K : Int → Nd} (h : tw cx 78 [sl true ⟨6, false⟩ B0, .cl 69 [.pt true () (i64 B1)]] = some ([i64 A0], [])) : S cx f (C78 B0 B1 K) = S cx f (K A0) := call_S h rfl
noncomputable def C70 (B0 : Int) (B1 : Int) (B2 : Int) (B3 : Int) (B4 : Int) (B5 : Int) (B6 : Int) (K : Bool → Nd) : Nd := .call 70 [.st [i64 B0, i64 B1, i64 B2, i64 B3, i64 B4, i64 B5], i64 B6] fun R => .cons R.1 fun X0 X1 => .bool X0 fun A0 => .nil X1 <| .nil R.2 <| K A0
theorem C70_S {f : FuncId} {B0 : Int} {B1 : Int} {B2 : Int} {B3 : Int} {B4 : Int} {B5 : Int} {B6 : Int} {A0 : Bool} {K : Bool → Nd} (h : tw cx 70 [.st [i64 B0, i64 B1, i64 B2, i64 B3, i64 B4, i64 B5], i64 B6] = some ([tb A0], [])) : S cx f (C70 B0 B1 B2 B3 B4 B5 B6 K) = S cx f (K A0) := call_S h rfl
noncomputable def C82 (B0 : Int) (K : Bool → Nd) : Nd := .call 82 [i64 B0] fun R => .cons R.1 fun X0 X1 => .bool X0 fun A0 => .nil X1 <| .nil R.2 <| K A0
theorem C82_S {f : FuncId} {B0 : Int} {A0 : Bool} {K : Bool → Nd} (h : tw cx 82 [i64 B0] = some ([tb A0], [])) : S cx f (C82 B0 K) = S cx f (K A0) := call_S h rfl
noncomputable def C79 (B0 : Int) (K : Bool → Bool → Bool → Bool → Bool → Bool → Nd) : Nd := .call 79 [i64 B0] fun R => .cons R.1 fun X0 X1 => .st X0 fun X2 => .cons X2 fun X3 X4 => .bool X3 fun A0 => .cons X4 fun X5 X6 => .bool X5 fun A1 => .cons X6 fun X7 X8 => .bool X7 fun A2 => .cons X8 fun X9 X10 => .bool X9 fun A3 => .cons X10 fun X11 X12 => .bool X11 fun A4 => .nil X12 <| .cons X1 fun X13 X14 => .bool X13 fun A5 => .nil X14 <| .nil R.2 <| K A0 A1 A2 A3 A4 A5
theorem C79_S {f : FuncId} {B0 : Int} {A0 : Bool} {A1 : Bool} {A2 : Bool} {A3 : Bool} {A4 : Bool} {A5 : Bool} {K : Bool → Bool → Bool → Bool → Bool → Bool → Nd} (h : tw cx 79 [i64 B0] = some ([.st [tb A0, tb A1, tb A2, tb A3, tb A4], tb A5], [])) : S cx f (C79 B0 K) = S cx f (K A0 A1 A2 A3 A4 A5) := call_S h rfl
noncomputable def C80 (B0 : Bool) (B1 : Int) (B2 : Int) (K : Bool → Nd) : Nd := .call 80 [tb B0, i64 B1, .pt true () (i64 B2)] fun R => .cons R.1 fun X0 X1 => .bool X0 fun A0 => .nil X1 <| .nil R.2 <| K A0
theorem C80_S {f : FuncId} {B0 : Bool} {B1 : Int} {B2 : Int} {A0 : Bool} {K : Bool → Nd} (h : tw cx 80 [tb B0, i64 B1, .pt true () (i64 B2)] = some ([tb A0], [])) : S cx f (C80 B0 B1 B2 K) = S cx f (K A0) := call_S h rfl
noncomputable def C81 (B0 : Int) (K : Bool → Nd) : Nd := .call 81 [i64 B0] fun R => .cons R.1 fun X0 X1 => .bool X0 fun A0 => .nil X1 <| .nil R.2 <| K A0
theorem C81_S {f : FuncId} {B0 : Int} {A0 : Bool} {K : Bool → Nd} (h : tw cx 81 [i64 B0] = some ([tb A0], [])) : S cx f (C81 B0 K) = S cx f (K A0) := call_S h rfl
noncomputable def C83 (B0 : List TV) (B1 : Int) (K : Int → Nd) : Nd := .call 83 [sl true ⟨1, false⟩ B0, .cl 73 [.pt true () (i64 B1)]] fun R => .cons R.1 fun X0 X1 => .int .i64 X0 fun A0 => .nil X1 <| .nil R.2 <| K A0
theorem C83_S {f : FuncId} {B0 : List TV} {B1 : Int} {A0 : Int} {K : Int → Nd} (h : tw cx 83 [sl true ⟨1, false⟩ B0, .cl 73 [.pt true () (i64 B1)]] = some ([i64 A0], [])) : S cx f (C83 B0 B1 K) = S cx f (K A0) := call_S h rfl
noncomputable def C84 (B0 : List TV) (B1 : Int) (K : Int → Nd) : Nd := .call 84 [sl true ⟨1, false⟩ B0, i64 B1] fun R => .cons R.1 fun X0 X1 => .int .i64 X0 fun A0 => .nil X1 <| .nil R.2 <| K A0
theorem C84_S {f : FuncId} {B0 : List TV} {B1 : Int} {A0 : Int} {K : Int → Nd} (h : tw cx 84 [sl true ⟨1, false⟩ B0, i64 B1] = some ([i64 A0], [])) : S cx f (C84 B0 B1 K) = S cx f (K A0) := call_S h rfl
noncomputable def C85 (B0 : List TV) (B1 : Int) (B2 : Int) (K : (List TV) → Nd) : Nd := .call 85 [sl false ⟨1, false⟩ B0, i64 B1, i64 B2] fun R => .nil R.1 <| .cons R.2 fun X0 X1 => .slO ⟨1, false⟩ X0 fun A0 => .nil X1 <| K A0
theorem C85_S {f : FuncId} {B0 : List TV} {B1 : Int} {B2 : Int} {A0 : List TV} {K : (List TV) → Nd} (h : tw cx 85 [sl false ⟨1, false⟩ B0, i64 B1, i64 B2] = some ([], [sl false ⟨1, false⟩ A0])) : S cx f (C85 B0 B1 B2 K) = S cx f (K A0) := call_S h rfl
noncomputable def C86 (B0 : List TV) (B1 : Int) (B2 : Int) (K : (List TV) → Nd) : Nd := .call 86 [sl false ⟨1, false⟩ B0, i64 B1, i64 B2] fun R => .nil R.1 <| .cons R.2 fun X0 X1 => .slO ⟨1, false⟩ X0 fun A0 => .nil X1 <| K A0
noncomputable def C87 (B0 : List TV) (B1 : Int) (B2 : Int) (K : (List TV) → Nd) : Nd := .call 87 [sl false ⟨1, false⟩ B0, i64 B1, i64 B2] fun R => .nil R.1 <| .cons R.2 fun X0 X1 => .slO ⟨1, false⟩ X0 fun A0 => .nil X1 <| K A0
noncomputable def C91 (B0 : Int) (B1 : Int) (K : Bool → Nd) : Nd := .call 91 [i64 B0, i64 B1] fun R => .cons R.1 fun X0 X1 => .bool X0 fun A0 => .nil X1 <| .nil R.2 <| K A0
theorem C91_S {f : FuncId} {B0 : Int} {B1 : Int} {A0 : Bool} {K : Bool → Nd} (h : tw cx 91 [i64 B0, i64 B1] = some ([tb A0], [])) : S cx f (C91 B0 B1 K) = S cx f (K A0) := call_S h rfl
noncomputable def C95 (B0 : Int) (K : Int → Nd) : Nd := .call 95 [.fl (.int .u64 B0)] fun R => .cons R.1 fun X0 X1 => .int .i64 X0 fun A0 => .nil X1 <| .nil R.2 <| K A0
theorem C95_S {f : FuncId} {B0 : Int} {A0 : Int} {K : Int → Nd} (h : tw cx 95 [.fl (.int .u64 B0)] = some ([i64 A0], [])) : S cx f (C95 B0 K) = S cx f (K A0) := call_S h rfl
noncomputable def C69 (B0 : Int) (B1 : Int) (B2 : Int) (B3 : Int) (B4 : Int) (B5 : Int) (B6 : Int) (K : Bool → Nd) : Nd := .call 69 [.st [i64 B0, i64 B1, i64 B2, i64 B3, i64 B4, i64 B5], .pt true () (i64 B6)] fun R => .cons R.1 fun X0 X1 => .bool X0 fun A0 => .nil X1 <| .nil R.2 <| K A0
theorem C69_S {f : FuncId} {B0 : Int} {B1 : Int} {B2 : Int} {B3 : Int} {B4 : Int} {B5 : Int} {B6 : Int} {A0 : Bool} {K : Bool → Nd} (h : tw cx 69 [.st [i64 B0, i64 B1, i64 B2, i64 B3, i64 B4, i64 B5], .pt true () (i64 B6)] = some ([tb A0], [])) : S cx f (C69 B0 B1 B2 B3 B4 B5 B6 K) = S cx f (K A0) := call_S h rfl
noncomputable def C73 (B0 : Int) (B1 : Int) (K : Bool → Nd) : Nd := .call 73 [i64 B0, .pt true () (i64 B1)] fun R => .cons R.1 fun X0 X1 => .bool X0 fun A0 => .nil X1 <| .nil R.2 <| K A0
theorem C73_S {f : FuncId} {B0 : Int} {B1 : Int} {A0 : Bool} {K : Bool → Nd} (h : tw cx 73 [i64 B0, .pt true () (i64 B1)] = some ([tb A0], [])) : S cx f (C73 B0 B1 K) = S cx f (K A0) := call_S h rfl
noncomputable def C101 (B0 : Int) (K : Bool → Nd) : Nd := .call 101 [i64 B0] fun R => .cons R.1 fun X0 X1 => .bool X0 fun A0 => .nil X1 <| .nil R.2 <| K A0
theorem C101_S {f : FuncId} {B0 : Int} {A0 : Bool} {K : Bool → Nd} (h : tw cx 101 [i64 B0] = some ([tb A0], [])) : S cx f (C101 B0 K) = S cx f (K A0) := call_S h rfl
end Go.Tree.Q

/- Trees of values: program points of functions. -/
namespace Go.Tree.Q
open Go.Proofs
set_option linter.unusedVariables false
set_option maxRecDepth 20000
noncomputable def N3 (aF_0 : List TV) : Nd :=
  C4 aF_0 1048576 fun v_c570 =>
  .bif (decide (v_c570 < 0))
  (.ret [tb true] [])
  (C6 aF_0 fun vs_2524 =>
    C5 vs_2524 fun vs_39a4 v_ada0 =>
    .ck (deepL [sl false ⟨1, true⟩ vs_39a4, tb v_ada0]) <|
    C6 aF_0 fun vs_667c =>
    C7 vs_667c fun vs_b691 v_3366 =>
    .ck (deepL [sl false ⟨1, true⟩ vs_b691, tb v_3366]) <|
    C8 vs_b691 vs_39a4 fun v_dced =>
    .bif ((!v_dced))
    (.ret [tb false] [])
    (.bif ((!(v_3366 == v_ada0)))
      (.ret [tb false] [])
      (C6 aF_0 fun vs_0be9 =>
        C9 vs_667c vs_0be9 fun v_430d =>
        .bif ((!v_430d))
        (.ret [tb false] [])
        (C10 vs_667c 1 fun v_1e78 vs_22cd =>
          .bif (decide (v_1e78 < 0))
          (.ret [tb false] [])
          (C8 vs_b691 vs_39a4 fun v_ea97 =>
            .bif ((!v_ea97))
            (.ret [tb false] [])
            (.bif ((!(v_3366 == v_ada0)))
              (.ret [tb false] [])
              (C11 vs_b691 1 fun v_4855 vs_3ed6 =>
                C12 vs_3ed6 1 fun v_5cbd =>
                .bif (decide (v_5cbd < 0))
                (.ret [tb false] [])
                (.bif ((v_5cbd != v_4855))
                  (.ret [tb false] [])
                  (C6 aF_0 fun vs_777c =>
                    C7 vs_777c fun vs_a286 v_fdfe =>
                    .ck (deepL [sl false ⟨1, true⟩ vs_a286, tb v_fdfe]) <|
                    C8 vs_a286 vs_39a4 fun v_9f62 =>
                    .bif ((!v_9f62))
                    (.ret [tb false] [])
                    (.bif ((!(v_fdfe == v_ada0)))
                      (.ret [tb false] [])
                      (C12 vs_3ed6 1 fun v_cea3 =>
                        .bif (decide (v_cea3 < 0))
                        (.ret [tb false] [])
                        (.bif ((v_cea3 != v_4855))
                          (.ret [tb false] [])
                          (.ret [tb true] [])))))))))))))
theorem e3 {aF_0 : List TV} {r : Res} (h : S cx 3 (N3 aF_0) = some r) : tw cx 3 [sl true ⟨4, true⟩ aF_0] = some r :=
  tw_of (fun call hd hb pt rg => by kernel_rfl) h
noncomputable def EH4_0 (a_0 : List TV) (left_1 : Int) (i_2 : Int) : Env := [.val [] (sl true ⟨4, true⟩ a_0), .val [] (i64 left_1), .un, .un, .un, .val [] (i64 i_2)] ++ uns 23
noncomputable abbrev H4_0 (a_0 : List TV) (left_1 : Int) (i_2 : Int) : Nd := .head [1, 1, 1, 0, 1, 2] (EH4_0 a_0 left_1 i_2)
noncomputable abbrev B4_0 (a_0 : List TV) (left_1 : Int) (i_2 : Int) : Nd := .back [1, 1, 1, 0, 1, 2] (EH4_0 a_0 left_1 i_2)
noncomputable def N4 (a_0 : List TV) (left_1 : Int) : Nd :=
  .bif (decide (w64 (left_1 - ((a_0.length : Nat) : Int)) < 0))
  (.ret [i64 (-1)] [])
  (H4_0 a_0 (w64 (left_1 - ((a_0.length : Nat) : Int))) 0)
theorem e4 {a_0 : List TV} {left_1 : Int} {r : Res} (h : S cx 4 (N4 a_0 left_1) = some r) : tw cx 4 [sl true ⟨4, true⟩ a_0, i64 left_1] = some r :=
  tw_of (fun call hd hb pt rg => by kernel_rfl) h
noncomputable def NH4_0 (a_0 : List TV) (left_1 : Int) (i_2 : Int) : Nd :=
  .bif (decide (i_2 < ((a_0.length : Nat) : Int)))
  (.ck (decide ((0 : Int) ≤ i_2) && decide (i_2 < ((a_0.length : Nat) : Int))) <|
    V4 (a_0.getD (0 + i_2.toNat) (.dead ())) fun codes_64db go_fd89 test_a015 nexts_9545 =>
    C13 codes_64db go_fd89 test_a015 nexts_9545 left_1 fun v_4c81 =>
    .bif (decide (v_4c81 < 0))
    (.ret [i64 (-1)] [])
    (B4_0 a_0 v_4c81 (w64 (i_2 + 1))))
  (.ret [i64 left_1] [])
theorem eH4_0 {a_0 : List TV} {left_1 : Int} {i_2 : Int} {r : Res} (h : S cx 4 (NH4_0 a_0 left_1 i_2) = some r) : S cx 4 (H4_0 a_0 left_1 i_2) = some r :=
  hw_of (fun call hd hb pt rg => by kernel_rfl) h
noncomputable def N5_s0 (nexts_fe94 : List TV) : Nd :=
  C17 nexts_fe94 fun vs_e33e =>
  C18 nexts_fe94 fun vs_dc67 =>
  C16 vs_e33e vs_dc67 fun vs_1da0 =>
  .ck (deepL [sl false ⟨1, true⟩ vs_1da0]) <|
  .ret [sl false ⟨1, true⟩ vs_1da0, tb true] []
noncomputable def N5 (f_0 : List TV) : Nd :=
  C14 f_0 fun v_a1ff =>
  .bif ((!v_a1ff))
  (.ret [sl false ⟨1, true⟩ ([]), tb false] [])
  (C15 f_0 fun nexts_fe94 =>
    .amb2 
    (N5_s0 nexts_fe94) 
    (N5_s0 nexts_fe94))
theorem e5 {f_0 : List TV} {r : Res} (h : S cx 5 (N5 f_0) = some r) : tw cx 5 [sl true ⟨4, true⟩ f_0] = some r :=
  tw_of (fun call hd hb pt rg => by kernel_rfl) h
noncomputable def EH6_0 (a_0 : List TV) (out_1 : List TV) (i_2 : Int) : Env := [.val [] (sl true ⟨4, true⟩ a_0), .un, .un, .val [] (sl false ⟨4, true⟩ out_1), .val [] (i64 i_2)] ++ uns 19
noncomputable abbrev H6_0 (a_0 : List TV) (out_1 : List TV) (i_2 : Int) : Nd := .head [1, 1, 0, 1, 2] (EH6_0 a_0 out_1 i_2)
noncomputable abbrev B6_0 (a_0 : List TV) (out_1 : List TV) (i_2 : Int) : Nd := .back [1, 1, 0, 1, 2] (EH6_0 a_0 out_1 i_2)
noncomputable def N6 (a_0 : List TV) : Nd :=
  .ck (decide ((0 : Int) ≤ ((a_0.length : Nat) : Int)) && decide (((a_0.length : Nat) : Int) ≤ ((a_0.length : Nat) : Int)) && decide (((a_0.length : Nat) : Int) * 64 < (lim : Int)) && decide (((a_0.length : Nat) : Int) < 9223372036854775807) && true && true) <|
  H6_0 a_0 (List.replicate (((a_0.length : Nat) : Int).toNat) (.st [sl false ⟨6, false⟩ ([]), i64 0, i64 0, sl false ⟨1, false⟩ ([])])) 0
theorem e6 {a_0 : List TV} {r : Res} (h : S cx 6 (N6 a_0) = some r) : tw cx 6 [sl true ⟨4, true⟩ a_0] = some r :=
  tw_of (fun call hd hb pt rg => by kernel_rfl) h
noncomputable def NH6_0 (a_0 : List TV) (out_1 : List TV) (i_2 : Int) : Nd :=
  .bif (decide (i_2 < ((a_0.length : Nat) : Int)))
  (.ck (decide ((0 : Int) ≤ i_2) && decide (i_2 < ((a_0.length : Nat) : Int))) <|
    V4 (a_0.getD (0 + i_2.toNat) (.dead ())) fun codes_64db go_fd89 test_a015 nexts_9545 =>
    C19 codes_64db go_fd89 test_a015 nexts_9545 fun codes_7006 go_f035 test_6476 nexts_2722 =>
    .ck (decide ((0 : Int) ≤ i_2) && decide (i_2 < ((out_1.length : Nat) : Int))) <|
    B6_0 a_0 (out_1.set (0 + i_2.toNat) (.st [sl false ⟨6, false⟩ codes_7006, i64 go_f035, i64 test_6476, sl false ⟨1, false⟩ nexts_2722])) (w64 (i_2 + 1)))
  (.ret [sl false ⟨4, true⟩ out_1] [])
theorem eH6_0 {a_0 : List TV} {out_1 : List TV} {i_2 : Int} {r : Res} (h : S cx 6 (NH6_0 a_0 out_1 i_2) = some r) : S cx 6 (H6_0 a_0 out_1 i_2) = some r :=
  hw_of (fun call hd hb pt rg => by kernel_rfl) h
noncomputable def N7 (f_0 : List TV) : Nd :=
  .call 20 [sl true ⟨4, true⟩ f_0] fun r_0d3c =>
  .cons r_0d3c.1 fun t_7847 ts_5137 =>
  .ptO t_7847 (.nil ts_5137 <|
    .nil r_0d3c.2 <|
    .ret [sl false ⟨1, true⟩ ([]), tb false] []) fun p_620b =>
  V5 p_620b fun fs_2244 doms_0148 ranks_0806 kidss_cb89 outs_2bd1 =>
  .nil ts_5137 <|
  .nil r_0d3c.2 <|
  .ret [sl false ⟨1, true⟩ kidss_cb89, tb true] []
theorem e7 {f_0 : List TV} {r : Res} (h : S cx 7 (N7 f_0) = some r) : tw cx 7 [sl true ⟨4, true⟩ f_0] = some r :=
  tw_of (fun call hd hb pt rg => by kernel_rfl) h
noncomputable def EH8_0 (a_0 : List TV) (b_1 : List TV) (i_2 : Int) : Env := [.val [] (sl true ⟨1, true⟩ a_0), .val [] (sl true ⟨1, true⟩ b_1), .un, .un, .un, .val [] (i64 i_2)] ++ uns 23
noncomputable abbrev H8_0 (a_0 : List TV) (b_1 : List TV) (i_2 : Int) : Nd := .head [1, 1, 0, 1, 2] (EH8_0 a_0 b_1 i_2)
noncomputable abbrev B8_0 (a_0 : List TV) (b_1 : List TV) (i_2 : Int) : Nd := .back [1, 1, 0, 1, 2] (EH8_0 a_0 b_1 i_2)
noncomputable def N8 (a_0 : List TV) (b_1 : List TV) : Nd :=
  .bif ((((a_0.length : Nat) : Int) != ((b_1.length : Nat) : Int)))
  (.ret [tb false] [])
  (H8_0 a_0 b_1 0)
theorem e8 {a_0 : List TV} {b_1 : List TV} {r : Res} (h : S cx 8 (N8 a_0 b_1) = some r) : tw cx 8 [sl true ⟨1, true⟩ a_0, sl true ⟨1, true⟩ b_1] = some r :=
  tw_of (fun call hd hb pt rg => by kernel_rfl) h
noncomputable def NH8_0 (a_0 : List TV) (b_1 : List TV) (i_2 : Int) : Nd :=
  .bif (decide (i_2 < ((a_0.length : Nat) : Int)))
  (.ck (decide ((0 : Int) ≤ i_2) && decide (i_2 < ((a_0.length : Nat) : Int))) <|
    .slR ⟨1, false⟩ (a_0.getD (0 + i_2.toNat) (.dead ())) fun xs_c216 =>
    .ck (decide ((0 : Int) ≤ i_2) && decide (i_2 < ((b_1.length : Nat) : Int))) <|
    .slR ⟨1, false⟩ (b_1.getD (0 + i_2.toNat) (.dead ())) fun xs_0c92 =>
    C21 xs_c216 xs_0c92 fun v_9d1f =>
    .bif ((!v_9d1f))
    (.ret [tb false] [])
    (B8_0 a_0 b_1 (w64 (i_2 + 1))))
  (.ret [tb true] [])
theorem eH8_0 {a_0 : List TV} {b_1 : List TV} {i_2 : Int} {r : Res} (h : S cx 8 (NH8_0 a_0 b_1 i_2) = some r) : S cx 8 (H8_0 a_0 b_1 i_2) = some r :=
  hw_of (fun call hd hb pt rg => by kernel_rfl) h
noncomputable def EH9_0 (a_0 : List TV) (b_1 : List TV) (i_2 : Int) : Env := [.val [] (sl true ⟨4, true⟩ a_0), .val [] (sl true ⟨4, true⟩ b_1), .un, .un, .un, .val [] (i64 i_2)] ++ uns 23
noncomputable abbrev H9_0 (a_0 : List TV) (b_1 : List TV) (i_2 : Int) : Nd := .head [1, 1, 0, 1, 2] (EH9_0 a_0 b_1 i_2)
noncomputable abbrev B9_0 (a_0 : List TV) (b_1 : List TV) (i_2 : Int) : Nd := .back [1, 1, 0, 1, 2] (EH9_0 a_0 b_1 i_2)
noncomputable def N9 (a_0 : List TV) (b_1 : List TV) : Nd :=
  .bif ((((a_0.length : Nat) : Int) != ((b_1.length : Nat) : Int)))
  (.ret [tb false] [])
  (H9_0 a_0 b_1 0)
theorem e9 {a_0 : List TV} {b_1 : List TV} {r : Res} (h : S cx 9 (N9 a_0 b_1) = some r) : tw cx 9 [sl true ⟨4, true⟩ a_0, sl true ⟨4, true⟩ b_1] = some r :=
  tw_of (fun call hd hb pt rg => by kernel_rfl) h
noncomputable def NH9_0 (a_0 : List TV) (b_1 : List TV) (i_2 : Int) : Nd :=
  .bif (decide (i_2 < ((a_0.length : Nat) : Int)))
  (.ck (decide ((0 : Int) ≤ i_2) && decide (i_2 < ((a_0.length : Nat) : Int))) <|
    V4 (a_0.getD (0 + i_2.toNat) (.dead ())) fun codes_64db go_fd89 test_a015 nexts_9545 =>
    .ck (decide ((0 : Int) ≤ i_2) && decide (i_2 < ((b_1.length : Nat) : Int))) <|
    V4 (b_1.getD (0 + i_2.toNat) (.dead ())) fun codes_ed26 go_85a0 test_4ba2 nexts_322c =>
    C22 codes_64db go_fd89 test_a015 nexts_9545 codes_ed26 go_85a0 test_4ba2 nexts_322c fun v_68b5 =>
    .bif ((!v_68b5))
    (.ret [tb false] [])
    (B9_0 a_0 b_1 (w64 (i_2 + 1))))
  (.ret [tb true] [])
theorem eH9_0 {a_0 : List TV} {b_1 : List TV} {i_2 : Int} {r : Res} (h : S cx 9 (NH9_0 a_0 b_1 i_2) = some r) : S cx 9 (H9_0 a_0 b_1 i_2) = some r :=
  hw_of (fun call hd hb pt rg => by kernel_rfl) h
noncomputable def EH10_0 (k_0 : Int) (i_2 : Int) (a_1 : List TV) : Env := [.ref 41 [] none 27 false, .val [] (i64 k_0), .un, .un, .un, .val [] (i64 i_2)] ++ uns 35 ++ [.val [] (sl false ⟨4, true⟩ a_1), .un]
noncomputable abbrev H10_0 (k_0 : Int) (i_2 : Int) (a_1 : List TV) : Nd := .head [1, 0, 1, 2] (EH10_0 k_0 i_2 a_1)
noncomputable abbrev B10_0 (k_0 : Int) (i_2 : Int) (a_1 : List TV) : Nd := .back [1, 0, 1, 2] (EH10_0 k_0 i_2 a_1)
noncomputable def N10 (a_0 : List TV) (k_1 : Int) : Nd :=
  H10_0 k_1 0 a_0
theorem e10 {a_0 : List TV} {k_1 : Int} {r : Res} (h : S cx 10 (N10 a_0 k_1) = some r) : tw cx 10 [sl false ⟨4, true⟩ a_0, i64 k_1] = some r :=
  tw_of (fun call hd hb pt rg => by kernel_rfl) h
noncomputable def NH10_0 (k_0 : Int) (i_2 : Int) (a_1 : List TV) : Nd :=
  .bif (decide (i_2 < ((a_1.length : Nat) : Int)))
  (.ck (decide ((0 : Int) ≤ i_2) && decide (i_2 < ((a_1.length : Nat) : Int))) <|
    V4_1 (a_1.getD (0 + i_2.toNat) (.dead ())) fun codes_40a7 go_be79 test_3c7b nexts_3c51 =>
    V4_1 (a_1.getD (0 + i_2.toNat) (.dead ())) fun codes_7a9a go_5ebb test_91f6 nexts_5691 =>
    V4_1 (a_1.getD (0 + i_2.toNat) (.dead ())) fun codes_07fe go_be53 test_b41e nexts_e167 =>
    .call 23 [sl false ⟨6, false⟩ codes_7a9a, i64 k_0] fun r_6f8b =>
    .cons r_6f8b.1 fun t_a220 ts_90cd =>
    .int .i64 t_a220 fun v_034a =>
    .nil ts_90cd <|
    .cons r_6f8b.2 fun u_1a66 us_7145 =>
    .slO ⟨6, false⟩ u_1a66 fun vs_49be =>
    .st ((a_1.set (0 + i_2.toNat) (.st [.dead (), i64 go_be53, i64 test_b41e, sl false ⟨1, false⟩ nexts_e167])).getD (0 + i_2.toNat) (.dead ())) fun fs_ba4c =>
    .ck (fieldOk cx.P 48 0 fs_ba4c) <|
    .ck (csz (fs_ba4c.getD 0 (.dead ())) == csz (sl false ⟨6, false⟩ vs_49be)) <|
    .nil us_7145 <|
    .ck (decide ((0 : Int) ≤ i_2) && decide (i_2 < ((((a_1.set (0 + i_2.toNat) (.st [.dead (), i64 go_be53, i64 test_b41e, sl false ⟨1, false⟩ nexts_e167])).set (0 + i_2.toNat) (.st (fs_ba4c.set 0 (sl false ⟨6, false⟩ vs_49be)))).length : Nat) : Int))) <|
    V4_1 (((a_1.set (0 + i_2.toNat) (.st [.dead (), i64 go_be53, i64 test_b41e, sl false ⟨1, false⟩ nexts_e167])).set (0 + i_2.toNat) (.st (fs_ba4c.set 0 (sl false ⟨6, false⟩ vs_49be)))).getD (0 + i_2.toNat) (.dead ())) fun codes_d372 go_032f test_19ab nexts_8a22 =>
    .ck (decide ((0 : Int) ≤ i_2) && decide (i_2 < (((((a_1.set (0 + i_2.toNat) (.st [.dead (), i64 go_be53, i64 test_b41e, sl false ⟨1, false⟩ nexts_e167])).set (0 + i_2.toNat) (.st (fs_ba4c.set 0 (sl false ⟨6, false⟩ vs_49be)))).set (0 + i_2.toNat) (.st [sl false ⟨6, false⟩ codes_d372, i64 v_034a, i64 test_19ab, sl false ⟨1, false⟩ nexts_8a22])).length : Nat) : Int))) <|
    V4_1 ((((a_1.set (0 + i_2.toNat) (.st [.dead (), i64 go_be53, i64 test_b41e, sl false ⟨1, false⟩ nexts_e167])).set (0 + i_2.toNat) (.st (fs_ba4c.set 0 (sl false ⟨6, false⟩ vs_49be)))).set (0 + i_2.toNat) (.st [sl false ⟨6, false⟩ codes_d372, i64 v_034a, i64 test_19ab, sl false ⟨1, false⟩ nexts_8a22])).getD (0 + i_2.toNat) (.dead ())) fun codes_5824 go_72c7 test_a3f9 nexts_3f93 =>
    .ck (decide ((0 : Int) ≤ i_2) && decide (i_2 < ((((((a_1.set (0 + i_2.toNat) (.st [.dead (), i64 go_be53, i64 test_b41e, sl false ⟨1, false⟩ nexts_e167])).set (0 + i_2.toNat) (.st (fs_ba4c.set 0 (sl false ⟨6, false⟩ vs_49be)))).set (0 + i_2.toNat) (.st [sl false ⟨6, false⟩ codes_d372, i64 v_034a, i64 test_19ab, sl false ⟨1, false⟩ nexts_8a22])).set (0 + i_2.toNat) (.st [sl false ⟨6, false⟩ codes_5824, i64 go_72c7, i64 (w64 (v_034a + 1)), sl false ⟨1, false⟩ nexts_3f93])).length : Nat) : Int))) <|
    V4_1 (((((a_1.set (0 + i_2.toNat) (.st [.dead (), i64 go_be53, i64 test_b41e, sl false ⟨1, false⟩ nexts_e167])).set (0 + i_2.toNat) (.st (fs_ba4c.set 0 (sl false ⟨6, false⟩ vs_49be)))).set (0 + i_2.toNat) (.st [sl false ⟨6, false⟩ codes_d372, i64 v_034a, i64 test_19ab, sl false ⟨1, false⟩ nexts_8a22])).set (0 + i_2.toNat) (.st [sl false ⟨6, false⟩ codes_5824, i64 go_72c7, i64 (w64 (v_034a + 1)), sl false ⟨1, false⟩ nexts_3f93])).getD (0 + i_2.toNat) (.dead ())) fun codes_1dea go_458d test_9468 nexts_9418 =>
    V4_1 (((((a_1.set (0 + i_2.toNat) (.st [.dead (), i64 go_be53, i64 test_b41e, sl false ⟨1, false⟩ nexts_e167])).set (0 + i_2.toNat) (.st (fs_ba4c.set 0 (sl false ⟨6, false⟩ vs_49be)))).set (0 + i_2.toNat) (.st [sl false ⟨6, false⟩ codes_d372, i64 v_034a, i64 test_19ab, sl false ⟨1, false⟩ nexts_8a22])).set (0 + i_2.toNat) (.st [sl false ⟨6, false⟩ codes_5824, i64 go_72c7, i64 (w64 (v_034a + 1)), sl false ⟨1, false⟩ nexts_3f93])).getD (0 + i_2.toNat) (.dead ())) fun codes_4a67 go_ec38 test_a89e nexts_2256 =>
    V4_1 (((((a_1.set (0 + i_2.toNat) (.st [.dead (), i64 go_be53, i64 test_b41e, sl false ⟨1, false⟩ nexts_e167])).set (0 + i_2.toNat) (.st (fs_ba4c.set 0 (sl false ⟨6, false⟩ vs_49be)))).set (0 + i_2.toNat) (.st [sl false ⟨6, false⟩ codes_d372, i64 v_034a, i64 test_19ab, sl false ⟨1, false⟩ nexts_8a22])).set (0 + i_2.toNat) (.st [sl false ⟨6, false⟩ codes_5824, i64 go_72c7, i64 (w64 (v_034a + 1)), sl false ⟨1, false⟩ nexts_3f93])).getD (0 + i_2.toNat) (.dead ())) fun codes_8bef go_9ecf test_41bd nexts_b609 =>
    .call 24 [sl false ⟨1, false⟩ nexts_2256, i64 (w64 ((w64 (v_034a + 1)) + 1))] fun r_24b5 =>
    .cons r_24b5.1 fun t_deed ts_5ee2 =>
    .int .i64 t_deed fun v_fd4d =>
    .nil ts_5ee2 <|
    .cons r_24b5.2 fun u_d021 us_d766 =>
    .slO ⟨1, false⟩ u_d021 fun vs_1dbc =>
    .st ((((((a_1.set (0 + i_2.toNat) (.st [.dead (), i64 go_be53, i64 test_b41e, sl false ⟨1, false⟩ nexts_e167])).set (0 + i_2.toNat) (.st (fs_ba4c.set 0 (sl false ⟨6, false⟩ vs_49be)))).set (0 + i_2.toNat) (.st [sl false ⟨6, false⟩ codes_d372, i64 v_034a, i64 test_19ab, sl false ⟨1, false⟩ nexts_8a22])).set (0 + i_2.toNat) (.st [sl false ⟨6, false⟩ codes_5824, i64 go_72c7, i64 (w64 (v_034a + 1)), sl false ⟨1, false⟩ nexts_3f93])).set (0 + i_2.toNat) (.st [sl false ⟨6, false⟩ codes_8bef, i64 go_9ecf, i64 test_41bd, .dead ()])).getD (0 + i_2.toNat) (.dead ())) fun fs_68a0 =>
    .ck (fieldOk cx.P 48 3 fs_68a0) <|
    .ck (csz (fs_68a0.getD 3 (.dead ())) == csz (sl false ⟨1, false⟩ vs_1dbc)) <|
    .nil us_d766 <|
    B10_0 v_fd4d (w64 (i_2 + 1)) ((((((a_1.set (0 + i_2.toNat) (.st [.dead (), i64 go_be53, i64 test_b41e, sl false ⟨1, false⟩ nexts_e167])).set (0 + i_2.toNat) (.st (fs_ba4c.set 0 (sl false ⟨6, false⟩ vs_49be)))).set (0 + i_2.toNat) (.st [sl false ⟨6, false⟩ codes_d372, i64 v_034a, i64 test_19ab, sl false ⟨1, false⟩ nexts_8a22])).set (0 + i_2.toNat) (.st [sl false ⟨6, false⟩ codes_5824, i64 go_72c7, i64 (w64 (v_034a + 1)), sl false ⟨1, false⟩ nexts_3f93])).set (0 + i_2.toNat) (.st [sl false ⟨6, false⟩ codes_8bef, i64 go_9ecf, i64 test_41bd, .dead ()])).set (0 + i_2.toNat) (.st (fs_68a0.set 3 (sl false ⟨1, false⟩ vs_1dbc)))))
  (.ret [i64 k_0] [sl false ⟨4, true⟩ a_1])
theorem eH10_0 {k_0 : Int} {i_2 : Int} {a_1 : List TV} {r : Res} (h : S cx 10 (NH10_0 k_0 i_2 a_1) = some r) : S cx 10 (H10_0 k_0 i_2 a_1) = some r :=
  hw_of (fun call hd hb pt rg => by kernel_rfl) h
noncomputable def EH11_0 (k_0 : Int) (i_2 : Int) (a_1 : List TV) : Env := [.ref 19 [] none 24 false, .val [] (i64 k_0), .un, .un, .un, .val [] (i64 i_2)] ++ uns 13 ++ [.val [] (sl false ⟨1, true⟩ a_1), .un]
noncomputable abbrev H11_0 (k_0 : Int) (i_2 : Int) (a_1 : List TV) : Nd := .head [1, 0, 1, 2] (EH11_0 k_0 i_2 a_1)
noncomputable abbrev B11_0 (k_0 : Int) (i_2 : Int) (a_1 : List TV) : Nd := .back [1, 0, 1, 2] (EH11_0 k_0 i_2 a_1)
noncomputable def N11 (a_0 : List TV) (k_1 : Int) : Nd :=
  H11_0 k_1 0 a_0
theorem e11 {a_0 : List TV} {k_1 : Int} {r : Res} (h : S cx 11 (N11 a_0 k_1) = some r) : tw cx 11 [sl false ⟨1, true⟩ a_0, i64 k_1] = some r :=
  tw_of (fun call hd hb pt rg => by kernel_rfl) h
noncomputable def NH11_0 (k_0 : Int) (i_2 : Int) (a_1 : List TV) : Nd :=
  .bif (decide (i_2 < ((a_1.length : Nat) : Int)))
  (.ck (decide ((0 : Int) ≤ i_2) && decide (i_2 < ((a_1.length : Nat) : Int))) <|
    .slO ⟨1, false⟩ (a_1.getD (0 + i_2.toNat) (.dead ())) fun vs_a421 =>
    .slO ⟨1, false⟩ (a_1.getD (0 + i_2.toNat) (.dead ())) fun vs_a421_2 =>
    C24 vs_a421_2 k_0 fun v_2ab9 vs_ed75 =>
    B11_0 v_2ab9 (w64 (i_2 + 1)) ((a_1.set (0 + i_2.toNat) (.dead ())).set (0 + i_2.toNat) (sl false ⟨1, false⟩ vs_ed75)))
  (.ret [i64 k_0] [sl false ⟨1, true⟩ a_1])
theorem eH11_0 {k_0 : Int} {i_2 : Int} {a_1 : List TV} {r : Res} (h : S cx 11 (NH11_0 k_0 i_2 a_1) = some r) : S cx 11 (H11_0 k_0 i_2 a_1) = some r :=
  hw_of (fun call hd hb pt rg => by kernel_rfl) h
noncomputable def EH12_0 (a_0 : List TV) (k_1 : Int) (i_2 : Int) : Env := [.val [] (sl true ⟨1, true⟩ a_0), .val [] (i64 k_1), .un, .un, .un, .val [] (i64 i_2)] ++ uns 17
noncomputable abbrev H12_0 (a_0 : List TV) (k_1 : Int) (i_2 : Int) : Nd := .head [1, 0, 1, 2] (EH12_0 a_0 k_1 i_2)
noncomputable abbrev B12_0 (a_0 : List TV) (k_1 : Int) (i_2 : Int) : Nd := .back [1, 0, 1, 2] (EH12_0 a_0 k_1 i_2)
noncomputable def N12 (a_0 : List TV) (k_1 : Int) : Nd :=
  H12_0 a_0 k_1 0
theorem e12 {a_0 : List TV} {k_1 : Int} {r : Res} (h : S cx 12 (N12 a_0 k_1) = some r) : tw cx 12 [sl true ⟨1, true⟩ a_0, i64 k_1] = some r :=
  tw_of (fun call hd hb pt rg => by kernel_rfl) h
noncomputable def NH12_0 (a_0 : List TV) (k_1 : Int) (i_2 : Int) : Nd :=
  .bif (decide (i_2 < ((a_0.length : Nat) : Int)))
  (.ck (decide ((0 : Int) ≤ i_2) && decide (i_2 < ((a_0.length : Nat) : Int))) <|
    .slR ⟨1, false⟩ (a_0.getD (0 + i_2.toNat) (.dead ())) fun xs_c216 =>
    C25 xs_c216 k_1 fun v_b48e =>
    .bif (decide (v_b48e < 0))
    (.ret [i64 (-1)] [])
    (B12_0 a_0 v_b48e (w64 (i_2 + 1))))
  (.ret [i64 k_1] [])
theorem eH12_0 {a_0 : List TV} {k_1 : Int} {i_2 : Int} {r : Res} (h : S cx 12 (NH12_0 a_0 k_1 i_2) = some r) : S cx 12 (H12_0 a_0 k_1 i_2) = some r :=
  hw_of (fun call hd hb pt rg => by kernel_rfl) h
noncomputable def N13 (a_0 : List TV) (a_1 : Int) (a_2 : Int) (a_3 : List TV) (left_4 : Int) : Nd :=
  C26 a_0 left_4 fun v_4f12 =>
  .bif (decide (v_4f12 < 0))
  (.ret [i64 (-1)] [])
  (C27 a_3 v_4f12 fun v_29a3 =>
    .bif (decide (v_29a3 < 0))
    (.ret [i64 (-1)] [])
    (.ret [i64 v_29a3] []))
theorem e13 {a_0 : List TV} {a_1 : Int} {a_2 : Int} {a_3 : List TV} {left_4 : Int} {r : Res} (h : S cx 13 (N13 a_0 a_1 a_2 a_3 left_4) = some r) : tw cx 13 [.st [sl true ⟨6, false⟩ a_0, i64 a_1, i64 a_2, sl true ⟨1, false⟩ a_3], i64 left_4] = some r :=
  tw_of (fun call hd hb pt rg => by kernel_rfl) h
noncomputable def EH14_0 (f_0 : List TV) (v_1 : Int) : Env := [.val [] (sl true ⟨4, true⟩ f_0)] ++ uns 21 ++ [.val [] (sl true ⟨4, true⟩ f_0), .val [] (i64 ((f_0.length : Nat) : Int)), .val [] (i64 v_1)] ++ uns 21
noncomputable abbrev H14_0 (f_0 : List TV) (v_1 : Int) : Nd := .head [1, 1, 0, 1, 2] (EH14_0 f_0 v_1)
noncomputable abbrev B14_0 (f_0 : List TV) (v_1 : Int) : Nd := .back [1, 1, 0, 1, 2] (EH14_0 f_0 v_1)
noncomputable def N14 (f_0 : List TV) : Nd :=
  C28 f_0 fun v_bada =>
  .bif ((!v_bada))
  (.ret [tb false] [])
  (.bif (decide (((f_0.length : Nat) : Int) > 12))
    (.ret [tb false] [])
    (C29 f_0 fun vs_556d =>
      .bif ((((vs_556d.length : Nat) : Int) != ((f_0.length : Nat) : Int)))
      (.ret [tb false] [])
      (H14_0 f_0 0)))
theorem e14 {f_0 : List TV} {r : Res} (h : S cx 14 (N14 f_0) = some r) : tw cx 14 [sl true ⟨4, true⟩ f_0] = some r :=
  tw_of (fun call hd hb pt rg => by kernel_rfl) h
noncomputable def NH14_0_s0 (nexts_fe94 : List TV) : Nd :=
  C17 nexts_fe94 fun vs_e33e =>
  C31 nexts_fe94 vs_e33e fun v_58bc =>
  .ret [tb (!v_58bc)] []
noncomputable def NH14_0 (f_0 : List TV) (v_1 : Int) : Nd :=
  .bif (decide (v_1 < ((f_0.length : Nat) : Int)))
  (.ck (decide ((0 : Int) ≤ v_1) && decide (v_1 < ((f_0.length : Nat) : Int))) <|
    V4 (f_0.getD (0 + v_1.toNat) (.dead ())) fun codes_4fee go_d0b0 test_d8b3 nexts_a1b5 =>
    C30 codes_4fee fun v_8e62 =>
    .bif ((!v_8e62))
    (.ret [tb false] [])
    (.bif (decide (test_d8b3 ≥ 8))
      (.ret [tb false] [])
      (B14_0 f_0 (w64 (v_1 + 1)))))
  (C15 f_0 fun nexts_fe94 =>
    .amb2 
    (NH14_0_s0 nexts_fe94) 
    (NH14_0_s0 nexts_fe94))
theorem eH14_0 {f_0 : List TV} {v_1 : Int} {r : Res} (h : S cx 14 (NH14_0 f_0 v_1) = some r) : S cx 14 (H14_0 f_0 v_1) = some r :=
  hw_of (fun call hd hb pt rg => by kernel_rfl) h
noncomputable def EH15_0 (g_1 : List TV) (v_0 : List TV) (v_2 : Int) : Env := [.un, .un, .val [] (.pt false () (.st [sl false ⟨1, true⟩ ([])])), .val [] (.pt false () (.st [sl false ⟨1, true⟩ g_1])), .un, .un, .un, .un, .un, .val [] (sl true ⟨4, true⟩ v_0), .val [] (i64 ((v_0.length : Nat) : Int)), .val [] (i64 v_2)] ++ uns 23
noncomputable abbrev H15_0 (g_1 : List TV) (v_0 : List TV) (v_2 : Int) : Nd := .head [1, 1, 0, 1, 2] (EH15_0 g_1 v_0 v_2)
noncomputable abbrev B15_0 (g_1 : List TV) (v_0 : List TV) (v_2 : Int) : Nd := .back [1, 1, 0, 1, 2] (EH15_0 g_1 v_0 v_2)
noncomputable def EH15_1 (g_4 : List TV) (l_2 : List TV) (v_0 : List TV) (v_5 : Int) (v_1 : List TV) (v_3 : Int) : Env := [.un, .un, .val [] (.pt false () (.st [sl false ⟨1, true⟩ ([])])), .val [] (.pt false () (.st [sl false ⟨1, true⟩ g_4])), .un, .un, .val [] (sl false ⟨1, false⟩ l_2), .un, .un, .val [] (sl true ⟨4, true⟩ v_0), .val [] (i64 ((v_0.length : Nat) : Int)), .val [] (i64 v_5), .un, .un, .un, .un, .val [] (sl true ⟨1, false⟩ v_1), .val [] (i64 ((v_1.length : Nat) : Int)), .val [] (i64 v_3)] ++ uns 16
noncomputable abbrev H15_1 (g_4 : List TV) (l_2 : List TV) (v_0 : List TV) (v_5 : Int) (v_1 : List TV) (v_3 : Int) : Nd := .head [1, 1, 0, 1, 2, 5, 1, 1, 0, 2, 1, 1, 0, 1, 2] (EH15_1 g_4 l_2 v_0 v_5 v_1 v_3)
noncomputable abbrev B15_1 (g_4 : List TV) (l_2 : List TV) (v_0 : List TV) (v_5 : Int) (v_1 : List TV) (v_3 : Int) : Nd := .back [1, 1, 0, 1, 2, 5, 1, 1, 0, 2, 1, 1, 0, 1, 2] (EH15_1 g_4 l_2 v_0 v_5 v_1 v_3)
noncomputable def N15 (f_0 : List TV) : Nd :=
  H15_0 ([]) f_0 0
theorem e15 {f_0 : List TV} {r : Res} (h : S cx 15 (N15 f_0) = some r) : tw cx 15 [sl true ⟨4, true⟩ f_0] = some r :=
  tw_of (fun call hd hb pt rg => by kernel_rfl) h
noncomputable def NH15_0 (g_1 : List TV) (v_0 : List TV) (v_2 : Int) : Nd :=
  .bif (decide (v_2 < ((v_0.length : Nat) : Int)))
  (.ck (decide ((0 : Int) ≤ v_2) && decide (v_2 < ((v_0.length : Nat) : Int))) <|
    V4 (v_0.getD (0 + v_2.toNat) (.dead ())) fun codes_cad5 go_acbc test_a22b nexts_e1c3 =>
    H15_1 g_1 ([]) v_0 v_2 nexts_e1c3 0)
  (.ret [.st [sl false ⟨1, true⟩ g_1]] [])
theorem eH15_0 {g_1 : List TV} {v_0 : List TV} {v_2 : Int} {r : Res} (h : S cx 15 (NH15_0 g_1 v_0 v_2) = some r) : S cx 15 (H15_0 g_1 v_0 v_2) = some r :=
  hw_of (fun call hd hb pt rg => by kernel_rfl) h
noncomputable def NH15_1 (g_4 : List TV) (l_2 : List TV) (v_0 : List TV) (v_5 : Int) (v_1 : List TV) (v_3 : Int) : Nd :=
  .bif (decide (v_3 < ((v_1.length : Nat) : Int)))
  (.ck (decide ((0 : Int) ≤ v_3) && decide (v_3 < ((v_1.length : Nat) : Int))) <|
    .int .i64 (v_1.getD (0 + v_3.toNat) (.dead ())) fun x_c303 =>
    C32 l_2 x_c303 fun vs_da15 =>
    B15_1 g_4 vs_da15 v_0 v_5 v_1 (w64 (v_3 + 1)))
  (.ck (decide ((g_4.length + ([sl false ⟨1, false⟩ l_2] : List TV).length) * 24 < lim)) <|
    B15_0 (g_4 ++ ([sl false ⟨1, false⟩ l_2])) v_0 (w64 (v_5 + 1)))
theorem eH15_1 {g_4 : List TV} {l_2 : List TV} {v_0 : List TV} {v_5 : Int} {v_1 : List TV} {v_3 : Int} {r : Res} (h : S cx 15 (NH15_1 g_4 l_2 v_0 v_5 v_1 v_3) = some r) : S cx 15 (H15_1 g_4 l_2 v_0 v_5 v_1 v_3) = some r :=
  hw_of (fun call hd hb pt rg => by kernel_rfl) h
noncomputable def EH16_0 (dom_0 : List TV) (out_2 : List TV) (v_1 : List TV) (v_3 : Int) : Env := [.val [] (sl true ⟨1, true⟩ dom_0), .un, .un, .un, .un, .val [] (sl false ⟨1, true⟩ out_2), .un, .un, .un, .un, .un, .un, .val [] (sl true ⟨1, false⟩ v_1), .val [] (i64 ((v_1.length : Nat) : Int)), .val [] (i64 v_3)] ++ uns 22
noncomputable abbrev H16_0 (dom_0 : List TV) (out_2 : List TV) (v_1 : List TV) (v_3 : Int) : Nd := .head [1, 1, 0, 1, 2] (EH16_0 dom_0 out_2 v_1 v_3)
noncomputable abbrev B16_0 (dom_0 : List TV) (out_2 : List TV) (v_1 : List TV) (v_3 : Int) : Nd := .back [1, 1, 0, 1, 2] (EH16_0 dom_0 out_2 v_1 v_3)
noncomputable def N16 (dom_0 : List TV) (order_1 : List TV) : Nd :=
  .ck (decide ((0 : Int) ≤ ((dom_0.length : Nat) : Int)) && decide (((dom_0.length : Nat) : Int) ≤ ((dom_0.length : Nat) : Int)) && decide (((dom_0.length : Nat) : Int) * 24 < (lim : Int)) && decide (((dom_0.length : Nat) : Int) < 9223372036854775807) && true && true) <|
  H16_0 dom_0 (List.replicate (((dom_0.length : Nat) : Int).toNat) (sl false ⟨1, false⟩ ([]))) order_1 0
theorem e16 {dom_0 : List TV} {order_1 : List TV} {r : Res} (h : S cx 16 (N16 dom_0 order_1) = some r) : tw cx 16 [sl true ⟨1, true⟩ dom_0, sl true ⟨1, false⟩ order_1] = some r :=
  tw_of (fun call hd hb pt rg => by kernel_rfl) h
noncomputable def NH16_0 (dom_0 : List TV) (out_2 : List TV) (v_1 : List TV) (v_3 : Int) : Nd :=
  .bif (decide (v_3 < ((v_1.length : Nat) : Int)))
  (.ck (decide ((0 : Int) ≤ v_3) && decide (v_3 < ((v_1.length : Nat) : Int))) <|
    .int .i64 (v_1.getD (0 + v_3.toNat) (.dead ())) fun x_c303 =>
    C33 dom_0 x_c303 fun v_9902 =>
    .bif (decide (v_9902 ≥ 0))
    (.ck (decide ((0 : Int) ≤ v_9902) && decide (v_9902 < ((out_2.length : Nat) : Int))) <|
      .slO ⟨1, false⟩ (out_2.getD (0 + v_9902.toNat) (.dead ())) fun vs_1a07 =>
      .slO ⟨1, false⟩ (out_2.getD (0 + v_9902.toNat) (.dead ())) fun vs_1a07_2 =>
      .ck (decide ((vs_1a07_2.length + ([i64 x_c303] : List TV).length) * 8 < lim)) <|
      .ck (decide ((0 : Int) ≤ v_9902) && decide (v_9902 < (((out_2.set (0 + v_9902.toNat) (.dead ())).length : Nat) : Int))) <|
      B16_0 dom_0 ((out_2.set (0 + v_9902.toNat) (.dead ())).set (0 + v_9902.toNat) (sl false ⟨1, false⟩ (vs_1a07_2 ++ ([i64 x_c303])))) v_1 (w64 (v_3 + 1)))
    (B16_0 dom_0 out_2 v_1 (w64 (v_3 + 1))))
  (.ret [sl false ⟨1, true⟩ out_2] [])
theorem eH16_0 {dom_0 : List TV} {out_2 : List TV} {v_1 : List TV} {v_3 : Int} {r : Res} (h : S cx 16 (NH16_0 dom_0 out_2 v_1 v_3) = some r) : S cx 16 (H16_0 dom_0 out_2 v_1 v_3) = some r :=
  hw_of (fun call hd hb pt rg => by kernel_rfl) h
noncomputable def EH17_0 (g_0 : List TV) (out_3 : List TV) (reach_1 : List TV) (v_2 : Int) : Env := [.un, .val [] (.pt false () (.st [sl true ⟨1, true⟩ g_0])), .un, .val [] (sl false ⟨1, true⟩ out_3), .val [] (sl false ⟨1, false⟩ reach_1)] ++ uns 12 ++ [.val [] (i64 ((g_0.length : Nat) : Int)), .val [] (i64 v_2)] ++ uns 33
noncomputable abbrev H17_0 (g_0 : List TV) (out_3 : List TV) (reach_1 : List TV) (v_2 : Int) : Nd := .head [1, 1, 1, 0, 1, 2] (EH17_0 g_0 out_3 reach_1 v_2)
noncomputable abbrev B17_0 (g_0 : List TV) (out_3 : List TV) (reach_1 : List TV) (v_2 : Int) : Nd := .back [1, 1, 1, 0, 1, 2] (EH17_0 g_0 out_3 reach_1 v_2)
noncomputable def EH17_1 (g_0 : List TV) (out_3 : List TV) (reach_1 : List TV) (d_5 : Int) (left_2 : List TV) (v_6 : Int) (v_4 : Int) : Env := [.un, .val [] (.pt false () (.st [sl true ⟨1, true⟩ g_0])), .un, .val [] (sl false ⟨1, true⟩ out_3), .val [] (sl false ⟨1, false⟩ reach_1), .val [] (i64 d_5), .val [] (sl false ⟨1, false⟩ left_2)] ++ uns 10 ++ [.val [] (i64 ((g_0.length : Nat) : Int)), .val [] (i64 v_6), .un, .un, .un, .un, .un, .ref 4 [] none 36 false, .val [] (i64 ((reach_1.length : Nat) : Int)), .val [] (i64 v_4)] ++ uns 25
noncomputable abbrev H17_1 (g_0 : List TV) (out_3 : List TV) (reach_1 : List TV) (d_5 : Int) (left_2 : List TV) (v_6 : Int) (v_4 : Int) : Nd := .head [1, 1, 1, 0, 1, 2, 5, 1, 1, 0, 2, 1, 1, 1, 2] (EH17_1 g_0 out_3 reach_1 d_5 left_2 v_6 v_4)
noncomputable abbrev B17_1 (g_0 : List TV) (out_3 : List TV) (reach_1 : List TV) (d_5 : Int) (left_2 : List TV) (v_6 : Int) (v_4 : Int) : Nd := .back [1, 1, 1, 0, 1, 2, 5, 1, 1, 0, 2, 1, 1, 1, 2] (EH17_1 g_0 out_3 reach_1 d_5 left_2 v_6 v_4)
noncomputable def EG17_2 (g_0 : List TV) (out_5 : List TV) (reach_1 : List TV) (d_6 : Int) (left_2 : List TV) (k_3 : Int) (v_7 : Int) (v_8 : Int) (v_4 : Bool) : Env := [.un, .val [] (.pt false () (.st [sl true ⟨1, true⟩ g_0])), .un, .val [] (sl false ⟨1, true⟩ out_5), .val [] (sl false ⟨1, false⟩ reach_1), .val [] (i64 d_6), .val [] (sl false ⟨1, false⟩ left_2), .un, .val [] (i64 k_3)] ++ uns 8 ++ [.val [] (i64 ((g_0.length : Nat) : Int)), .val [] (i64 v_7), .un, .un, .un, .un, .un, .ref 4 [] none 36 false, .val [] (i64 ((reach_1.length : Nat) : Int)), .val [] (i64 v_8)] ++ uns 11 ++ [.val [] (tb v_4)] ++ uns 13
noncomputable abbrev G17_2 (g_0 : List TV) (out_5 : List TV) (reach_1 : List TV) (d_6 : Int) (left_2 : List TV) (k_3 : Int) (v_7 : Int) (v_8 : Int) (v_4 : Bool) : Nd := .go [1, 1, 1, 0, 1, 2, 5, 1, 1, 0, 2, 1, 1, 1, 2, 5, 1, 1, 0, 2, 1, 1] (EG17_2 g_0 out_5 reach_1 d_6 left_2 k_3 v_7 v_8 v_4)
noncomputable def N17 (g_0 : List TV) : Nd :=
  .ck (decide ((0 : Int) ≤ ((g_0.length : Nat) : Int)) && decide (((g_0.length : Nat) : Int) ≤ ((g_0.length : Nat) : Int)) && decide (((g_0.length : Nat) : Int) * 24 < (lim : Int)) && decide (((g_0.length : Nat) : Int) < 9223372036854775807) && true && true) <|
  C34 g_0 (-1) fun vs_8160 =>
  H17_0 g_0 (List.replicate (((g_0.length : Nat) : Int).toNat) (sl false ⟨1, false⟩ ([]))) vs_8160 0
theorem e17 {g_0 : List TV} {r : Res} (h : S cx 17 (N17 g_0) = some r) : tw cx 17 [.st [sl true ⟨1, true⟩ g_0]] = some r :=
  tw_of (fun call hd hb pt rg => by kernel_rfl) h
noncomputable def NH17_0 (g_0 : List TV) (out_3 : List TV) (reach_1 : List TV) (v_2 : Int) : Nd :=
  .bif (decide (v_2 < ((g_0.length : Nat) : Int)))
  (C34 g_0 v_2 fun vs_1575 =>
    H17_1 g_0 out_3 reach_1 v_2 vs_1575 v_2 0)
  (.ret [sl false ⟨1, true⟩ out_3] [])
theorem eH17_0 {g_0 : List TV} {out_3 : List TV} {reach_1 : List TV} {v_2 : Int} {r : Res} (h : S cx 17 (NH17_0 g_0 out_3 reach_1 v_2) = some r) : S cx 17 (H17_0 g_0 out_3 reach_1 v_2) = some r :=
  hw_of (fun call hd hb pt rg => by kernel_rfl) h
noncomputable def NH17_1 (g_0 : List TV) (out_3 : List TV) (reach_1 : List TV) (d_5 : Int) (left_2 : List TV) (v_6 : Int) (v_4 : Int) : Nd :=
  .bif (decide (v_4 < ((reach_1.length : Nat) : Int)))
  (.ck (decide ((0 : Int) ≤ v_4) && decide (v_4 < ((reach_1.length : Nat) : Int))) <|
    .int .i64 (reach_1.getD (0 + v_4.toNat) (.dead ())) fun x_8b64 =>
    C35 reach_1 d_5 fun v_2c44 =>
    .bif (v_2c44)
    (C35 left_2 x_8b64 fun v_32d4 =>
      G17_2 g_0 out_3 reach_1 d_5 left_2 x_8b64 v_6 v_4 (!v_32d4))
    (G17_2 g_0 out_3 reach_1 d_5 left_2 x_8b64 v_6 v_4 false))
  (B17_0 g_0 out_3 reach_1 (w64 (v_6 + 1)))
theorem eH17_1 {g_0 : List TV} {out_3 : List TV} {reach_1 : List TV} {d_5 : Int} {left_2 : List TV} {v_6 : Int} {v_4 : Int} {r : Res} (h : S cx 17 (NH17_1 g_0 out_3 reach_1 d_5 left_2 v_6 v_4) = some r) : S cx 17 (H17_1 g_0 out_3 reach_1 d_5 left_2 v_6 v_4) = some r :=
  hw_of (fun call hd hb pt rg => by kernel_rfl) h
noncomputable def NG17_2 (g_0 : List TV) (out_5 : List TV) (reach_1 : List TV) (d_6 : Int) (left_2 : List TV) (k_3 : Int) (v_7 : Int) (v_8 : Int) (v_4 : Bool) : Nd :=
  .bif (v_4)
  (.ck (decide ((0 : Int) ≤ k_3) && decide (k_3 < ((out_5.length : Nat) : Int))) <|
    .slO ⟨1, false⟩ (out_5.getD (0 + k_3.toNat) (.dead ())) fun vs_9ce8 =>
    .slO ⟨1, false⟩ (out_5.getD (0 + k_3.toNat) (.dead ())) fun vs_9ce8_2 =>
    C32 vs_9ce8_2 d_6 fun vs_3e54 =>
    .ck (decide ((0 : Int) ≤ k_3) && decide (k_3 < (((out_5.set (0 + k_3.toNat) (.dead ())).length : Nat) : Int))) <|
    B17_1 g_0 ((out_5.set (0 + k_3.toNat) (.dead ())).set (0 + k_3.toNat) (sl false ⟨1, false⟩ vs_3e54)) reach_1 d_6 left_2 v_7 (w64 (v_8 + 1)))
  (B17_1 g_0 out_5 reach_1 d_6 left_2 v_7 (w64 (v_8 + 1)))
theorem eG17_2 {g_0 : List TV} {out_5 : List TV} {reach_1 : List TV} {d_6 : Int} {left_2 : List TV} {k_3 : Int} {v_7 : Int} {v_8 : Int} {v_4 : Bool} {r : Res} (h : S cx 17 (NG17_2 g_0 out_5 reach_1 d_6 left_2 k_3 v_7 v_8 v_4) = some r) : S cx 17 (G17_2 g_0 out_5 reach_1 d_6 left_2 k_3 v_7 v_8 v_4) = some r :=
  pw_of (fun call hd hb pt rg => by kernel_rfl) h
noncomputable def N18_s0 (g_0 : List TV) : Nd :=
  .ck (decide ((0 : Int) ≤ ((g_0.length : Nat) : Int)) && decide (((g_0.length : Nat) : Int) ≤ ((g_0.length : Nat) : Int)) && decide (((g_0.length : Nat) : Int) * 1 < (lim : Int)) && decide (((g_0.length : Nat) : Int) < 9223372036854775807) && true && true) <|
  C36 g_0 0 (List.replicate (((g_0.length : Nat) : Int).toNat) (tb false)) ([]) fun vs_e6c7 vs_1268 =>
  .ret [sl false ⟨1, false⟩ vs_e6c7] []
noncomputable def N18 (g_0 : List TV) : Nd :=
  .amb2 
  (N18_s0 g_0) 
  (N18_s0 g_0)
theorem e18 {g_0 : List TV} {r : Res} (h : S cx 18 (N18 g_0) = some r) : tw cx 18 [.st [sl true ⟨1, true⟩ g_0]] = some r :=
  tw_of (fun call hd hb pt rg => by kernel_rfl) h
noncomputable def N19 (a_0 : List TV) (a_1 : Int) (a_2 : Int) (a_3 : List TV) : Nd :=
  C37 a_0 fun vs_8c51 =>
  C38 a_3 fun vs_f31f =>
  .ret [.st [sl false ⟨6, false⟩ vs_8c51, i64 a_1, i64 a_2, sl false ⟨1, false⟩ vs_f31f]] []
theorem e19 {a_0 : List TV} {a_1 : Int} {a_2 : Int} {a_3 : List TV} {r : Res} (h : S cx 19 (N19 a_0 a_1 a_2 a_3) = some r) : tw cx 19 [.st [sl true ⟨6, false⟩ a_0, i64 a_1, i64 a_2, sl true ⟨1, false⟩ a_3]] = some r :=
  tw_of (fun call hd hb pt rg => by kernel_rfl) h
noncomputable def EG20_0 (order_0 : List TV) (s_1 : List TV) (s_2 : List TV) : Env := [.un, .un, .un, .un, .val [] (sl false ⟨1, false⟩ order_0), .val [] (.pt false () (.st [sl true ⟨4, true⟩ s_1, sl false ⟨1, true⟩ s_2, sl false ⟨1, false⟩ (List.replicate (((s_1.length : Nat) : Int).toNat) (i64 0)), sl false ⟨1, true⟩ (List.replicate (((s_1.length : Nat) : Int).toNat) (sl false ⟨1, false⟩ ([]))), sl false ⟨3, true⟩ ([])]))] ++ uns 110
noncomputable abbrev G20_0 (order_0 : List TV) (s_1 : List TV) (s_2 : List TV) : Nd := .go [1, 1, 1, 1, 1] (EG20_0 order_0 s_1 s_2)
noncomputable def EH20_1 (order_0 : List TV) (s_1 : List TV) (s_2 : List TV) (s_3 : List TV) (v_4 : Int) : Env := [.un, .un, .un, .un, .val [] (sl false ⟨1, false⟩ order_0), .val [] (.pt false () (.st [sl true ⟨4, true⟩ s_1, sl false ⟨1, true⟩ s_2, sl false ⟨1, false⟩ s_3, sl false ⟨1, true⟩ (List.replicate (((s_1.length : Nat) : Int).toNat) (sl false ⟨1, false⟩ ([]))), sl false ⟨3, true⟩ ([])]))] ++ uns 33 ++ [.ref 4 [] none 36 false, .val [] (i64 ((order_0.length : Nat) : Int)), .val [] (i64 v_4)] ++ uns 74
noncomputable abbrev H20_1 (order_0 : List TV) (s_1 : List TV) (s_2 : List TV) (s_3 : List TV) (v_4 : Int) : Nd := .head [1, 1, 1, 1, 1, 0, 1, 2] (EH20_1 order_0 s_1 s_2 s_3 v_4)
noncomputable abbrev B20_1 (order_0 : List TV) (s_1 : List TV) (s_2 : List TV) (s_3 : List TV) (v_4 : Int) : Nd := .back [1, 1, 1, 1, 1, 0, 1, 2] (EH20_1 order_0 s_1 s_2 s_3 v_4)
noncomputable def EH20_2 (order_0 : List TV) (s_1 : List TV) (s_2 : List TV) (s_5 : List TV) (s_3 : List TV) (v_4 : Int) : Env := [.un, .un, .un, .un, .val [] (sl false ⟨1, false⟩ order_0), .val [] (.pt false () (.st [sl true ⟨4, true⟩ s_1, sl false ⟨1, true⟩ s_2, sl false ⟨1, false⟩ s_5, sl false ⟨1, true⟩ s_3, sl false ⟨3, true⟩ ([])]))] ++ uns 49 ++ [.ref 4 [] (some (1, (((order_0.length : Nat) : Int) - 1).toNat)) 36 false, .val [] (i64 (((((order_0.length : Nat) : Int) - 1).toNat : Nat) : Int)), .val [] (i64 v_4)] ++ uns 58
noncomputable abbrev H20_2 (order_0 : List TV) (s_1 : List TV) (s_2 : List TV) (s_5 : List TV) (s_3 : List TV) (v_4 : Int) : Nd := .head [1, 1, 1, 1, 1, 1, 0, 1, 2] (EH20_2 order_0 s_1 s_2 s_5 s_3 v_4)
noncomputable abbrev B20_2 (order_0 : List TV) (s_1 : List TV) (s_2 : List TV) (s_5 : List TV) (s_3 : List TV) (v_4 : Int) : Nd := .back [1, 1, 1, 1, 1, 1, 0, 1, 2] (EH20_2 order_0 s_1 s_2 s_5 s_3 v_4)
noncomputable def EH20_3 (order_0 : List TV) (s_1 : List TV) (s_2 : List TV) (s_7 : List TV) (s_8 : List TV) (k_3 : Int) (near_10 : Int) (most_5 : Int) (v_9 : Int) (v_4 : Int) (v_6 : Int) : Env := [.un, .un, .un, .un, .val [] (sl false ⟨1, false⟩ order_0), .val [] (.pt false () (.st [sl true ⟨4, true⟩ s_1, sl false ⟨1, true⟩ s_2, sl false ⟨1, false⟩ s_7, sl false ⟨1, true⟩ s_8, sl false ⟨3, true⟩ ([])])), .un, .un, .un, .val [] (i64 k_3), .val [] (i64 near_10), .val [] (i64 most_5)] ++ uns 43 ++ [.ref 4 [] (some (1, (((order_0.length : Nat) : Int) - 1).toNat)) 36 false, .val [] (i64 (((((order_0.length : Nat) : Int) - 1).toNat : Nat) : Int)), .val [] (i64 v_9)] ++ uns 9 ++ [.ref 5 [.d 55, .f 55 1, .i 68 (0 + k_3.toNat)] none 68 false, .val [] (i64 v_4), .val [] (i64 v_6)] ++ uns 46
noncomputable abbrev H20_3 (order_0 : List TV) (s_1 : List TV) (s_2 : List TV) (s_7 : List TV) (s_8 : List TV) (k_3 : Int) (near_10 : Int) (most_5 : Int) (v_9 : Int) (v_4 : Int) (v_6 : Int) : Nd := .head [1, 1, 1, 1, 1, 1, 0, 1, 2, 5, 1, 1, 0, 2, 1, 1, 0, 1, 2] (EH20_3 order_0 s_1 s_2 s_7 s_8 k_3 near_10 most_5 v_9 v_4 v_6)
noncomputable abbrev B20_3 (order_0 : List TV) (s_1 : List TV) (s_2 : List TV) (s_7 : List TV) (s_8 : List TV) (k_3 : Int) (near_10 : Int) (most_5 : Int) (v_9 : Int) (v_4 : Int) (v_6 : Int) : Nd := .back [1, 1, 1, 1, 1, 1, 0, 1, 2, 5, 1, 1, 0, 2, 1, 1, 0, 1, 2] (EH20_3 order_0 s_1 s_2 s_7 s_8 k_3 near_10 most_5 v_9 v_4 v_6)
noncomputable def N20_s0 (f_0 : List TV) (nexts_f3b8 : List TV) (vs_9361 : List TV) : Nd :=
  C44 nexts_f3b8 fun vs_76cb =>
  .ck (deepL [sl false ⟨1, true⟩ vs_76cb]) <|
  G20_0 vs_9361 f_0 vs_76cb
noncomputable def N20_s1 (f_0 : List TV) (nexts_f3b8 : List TV) (vs_9361 : List TV) : Nd :=
  .ck (decide ((0 : Int) ≤ ((f_0.length : Nat) : Int)) && decide (((f_0.length : Nat) : Int) ≤ ((f_0.length : Nat) : Int)) && decide (((f_0.length : Nat) : Int) * 24 < (lim : Int)) && decide (((f_0.length : Nat) : Int) < 9223372036854775807) && true && true) <|
  N20_s0 f_0 nexts_f3b8 vs_9361
noncomputable def N20_s2 (f_0 : List TV) (nexts_f3b8 : List TV) (vs_9361 : List TV) : Nd :=
  .amb2 
  (C44 nexts_f3b8 fun vs_76cb =>
    .ck (deepL [sl false ⟨1, true⟩ vs_76cb]) <|
    .ck (decide ((0 : Int) ≤ ((f_0.length : Nat) : Int)) && decide (((f_0.length : Nat) : Int) ≤ ((f_0.length : Nat) : Int)) && decide (((f_0.length : Nat) : Int) * 24 < (lim : Int)) && decide (((f_0.length : Nat) : Int) < 9223372036854775807) && true && true) <|
    G20_0 vs_9361 f_0 vs_76cb) 
  (N20_s1 f_0 nexts_f3b8 vs_9361)
noncomputable def N20_s3 (f_0 : List TV) (nexts_f3b8 : List TV) (vs_9361 : List TV) : Nd :=
  .ck (decide ((0 : Int) ≤ ((f_0.length : Nat) : Int)) && decide (((f_0.length : Nat) : Int) ≤ ((f_0.length : Nat) : Int)) && decide (((f_0.length : Nat) : Int) * 8 < (lim : Int)) && decide (((f_0.length : Nat) : Int) < 9223372036854775807) && true && true) <|
  N20_s0 f_0 nexts_f3b8 vs_9361
noncomputable def N20_s4 (f_0 : List TV) (nexts_f3b8 : List TV) (vs_9361 : List TV) : Nd :=
  .amb2 
  (C44 nexts_f3b8 fun vs_76cb =>
    .ck (deepL [sl false ⟨1, true⟩ vs_76cb]) <|
    .ck (decide ((0 : Int) ≤ ((f_0.length : Nat) : Int)) && decide (((f_0.length : Nat) : Int) ≤ ((f_0.length : Nat) : Int)) && decide (((f_0.length : Nat) : Int) * 8 < (lim : Int)) && decide (((f_0.length : Nat) : Int) < 9223372036854775807) && true && true) <|
    G20_0 vs_9361 f_0 vs_76cb) 
  (N20_s3 f_0 nexts_f3b8 vs_9361)
noncomputable def N20 (f_0 : List TV) : Nd :=
  C39 f_0 fun v_3b9e =>
  .bif ((!v_3b9e))
  (.ret [tnil] [])
  (C40 f_0 fun v_ea82 =>
    .bif ((!v_ea82))
    (.ret [tnil] [])
    (C42 f_0 fun vs_8950 =>
      C41 vs_8950 fun nexts_f3b8 =>
      C43 nexts_f3b8 fun vs_9361 =>
      .amb3 
      (.amb3 
        (C44 nexts_f3b8 fun vs_76cb =>
          .ck (deepL [sl false ⟨1, true⟩ vs_76cb]) <|
          .amb2 
          (.ck (decide ((0 : Int) ≤ ((f_0.length : Nat) : Int)) && decide (((f_0.length : Nat) : Int) ≤ ((f_0.length : Nat) : Int)) && decide (((f_0.length : Nat) : Int) * 8 < (lim : Int)) && decide (((f_0.length : Nat) : Int) < 9223372036854775807) && true && true) <|
            .ck (decide ((0 : Int) ≤ ((f_0.length : Nat) : Int)) && decide (((f_0.length : Nat) : Int) ≤ ((f_0.length : Nat) : Int)) && decide (((f_0.length : Nat) : Int) * 24 < (lim : Int)) && decide (((f_0.length : Nat) : Int) < 9223372036854775807) && true && true) <|
            G20_0 vs_9361 f_0 vs_76cb) 
          (.ck (decide ((0 : Int) ≤ ((f_0.length : Nat) : Int)) && decide (((f_0.length : Nat) : Int) ≤ ((f_0.length : Nat) : Int)) && decide (((f_0.length : Nat) : Int) * 24 < (lim : Int)) && decide (((f_0.length : Nat) : Int) < 9223372036854775807) && true && true) <|
            .ck (decide ((0 : Int) ≤ ((f_0.length : Nat) : Int)) && decide (((f_0.length : Nat) : Int) ≤ ((f_0.length : Nat) : Int)) && decide (((f_0.length : Nat) : Int) * 8 < (lim : Int)) && decide (((f_0.length : Nat) : Int) < 9223372036854775807) && true && true) <|
            G20_0 vs_9361 f_0 vs_76cb)) 
        (.ck (decide ((0 : Int) ≤ ((f_0.length : Nat) : Int)) && decide (((f_0.length : Nat) : Int) ≤ ((f_0.length : Nat) : Int)) && decide (((f_0.length : Nat) : Int) * 8 < (lim : Int)) && decide (((f_0.length : Nat) : Int) < 9223372036854775807) && true && true) <|
          N20_s2 f_0 nexts_f3b8 vs_9361) 
        (.ck (decide ((0 : Int) ≤ ((f_0.length : Nat) : Int)) && decide (((f_0.length : Nat) : Int) ≤ ((f_0.length : Nat) : Int)) && decide (((f_0.length : Nat) : Int) * 24 < (lim : Int)) && decide (((f_0.length : Nat) : Int) < 9223372036854775807) && true && true) <|
          N20_s4 f_0 nexts_f3b8 vs_9361)) 
      (.ck (decide ((0 : Int) ≤ ((f_0.length : Nat) : Int)) && decide (((f_0.length : Nat) : Int) ≤ ((f_0.length : Nat) : Int)) && decide (((f_0.length : Nat) : Int) * 8 < (lim : Int)) && decide (((f_0.length : Nat) : Int) < 9223372036854775807) && true && true) <|
        .amb2 
        (N20_s2 f_0 nexts_f3b8 vs_9361) 
        (N20_s1 f_0 nexts_f3b8 vs_9361)) 
      (.ck (decide ((0 : Int) ≤ ((f_0.length : Nat) : Int)) && decide (((f_0.length : Nat) : Int) ≤ ((f_0.length : Nat) : Int)) && decide (((f_0.length : Nat) : Int) * 24 < (lim : Int)) && decide (((f_0.length : Nat) : Int) < 9223372036854775807) && true && true) <|
        .amb2 
        (N20_s4 f_0 nexts_f3b8 vs_9361) 
        (N20_s3 f_0 nexts_f3b8 vs_9361))))
theorem e20 {f_0 : List TV} {r : Res} (h : S cx 20 (N20 f_0) = some r) : tw cx 20 [sl true ⟨4, true⟩ f_0] = some r :=
  tw_of (fun call hd hb pt rg => by kernel_rfl) h
noncomputable def NG20_0 (order_0 : List TV) (s_1 : List TV) (s_2 : List TV) : Nd :=
  H20_1 order_0 s_1 s_2 (List.replicate (((s_1.length : Nat) : Int).toNat) (i64 0)) 0
theorem eG20_0 {order_0 : List TV} {s_1 : List TV} {s_2 : List TV} {r : Res} (h : S cx 20 (NG20_0 order_0 s_1 s_2) = some r) : S cx 20 (G20_0 order_0 s_1 s_2) = some r :=
  pw_of (fun call hd hb pt rg => by kernel_rfl) h
noncomputable def NH20_1 (order_0 : List TV) (s_1 : List TV) (s_2 : List TV) (s_3 : List TV) (v_4 : Int) : Nd :=
  .bif (decide (v_4 < ((order_0.length : Nat) : Int)))
  (.ck (decide ((0 : Int) ≤ v_4) && decide (v_4 < ((order_0.length : Nat) : Int))) <|
    .int .i64 (order_0.getD (0 + v_4.toNat) (.dead ())) fun x_8212 =>
    .ck (decide ((0 : Int) ≤ x_8212) && decide (x_8212 < ((s_3.length : Nat) : Int))) <|
    B20_1 order_0 s_1 s_2 (s_3.set (0 + x_8212.toNat) (i64 v_4)) (w64 (v_4 + 1)))
  (.ck (decide ((1 : Int) ≤ ((order_0.length : Nat) : Int)) && decide (((order_0.length : Nat) : Int) ≤ ((order_0.length : Nat) : Int))) <|
    H20_2 order_0 s_1 s_2 s_3 (List.replicate (((s_1.length : Nat) : Int).toNat) (sl false ⟨1, false⟩ ([]))) 0)
theorem eH20_1 {order_0 : List TV} {s_1 : List TV} {s_2 : List TV} {s_3 : List TV} {v_4 : Int} {r : Res} (h : S cx 20 (NH20_1 order_0 s_1 s_2 s_3 v_4) = some r) : S cx 20 (H20_1 order_0 s_1 s_2 s_3 v_4) = some r :=
  hw_of (fun call hd hb pt rg => by kernel_rfl) h
noncomputable def NH20_2 (order_0 : List TV) (s_1 : List TV) (s_2 : List TV) (s_5 : List TV) (s_3 : List TV) (v_4 : Int) : Nd :=
  .bif (decide (v_4 < (((((order_0.length : Nat) : Int) - 1).toNat : Nat) : Int)))
  (.ck (decide ((0 : Int) ≤ v_4) && decide (v_4 < (((((order_0.length : Nat) : Int) - 1).toNat : Nat) : Int))) <|
    .int .i64 (order_0.getD (1 + v_4.toNat) (.dead ())) fun x_fab6 =>
    .ck (decide ((0 : Int) ≤ x_fab6) && decide (x_fab6 < ((s_2.length : Nat) : Int))) <|
    .slO ⟨1, false⟩ (s_2.getD (0 + x_fab6.toNat) (.dead ())) fun vs_67ef =>
    .slB ⟨1, false⟩ (s_2.getD (0 + x_fab6.toNat) (.dead ())) fun r xs_351d => bif r then 
    (H20_3 order_0 s_1 s_2 s_5 s_3 x_fab6 0 0 v_4 ((xs_351d.length : Nat) : Int) 0)
    else (H20_3 order_0 s_1 s_2 s_5 s_3 x_fab6 0 0 v_4 ((xs_351d.length : Nat) : Int) 0))
  (.ret [.pt false () (.st [sl true ⟨4, true⟩ s_1, sl false ⟨1, true⟩ s_2, sl false ⟨1, false⟩ s_5, sl false ⟨1, true⟩ s_3, sl false ⟨3, true⟩ ([])])] [])
theorem eH20_2 {order_0 : List TV} {s_1 : List TV} {s_2 : List TV} {s_5 : List TV} {s_3 : List TV} {v_4 : Int} {r : Res} (h : S cx 20 (NH20_2 order_0 s_1 s_2 s_5 s_3 v_4) = some r) : S cx 20 (H20_2 order_0 s_1 s_2 s_5 s_3 v_4) = some r :=
  hw_of (fun call hd hb pt rg => by kernel_rfl) h
noncomputable def NH20_3_s0 (order_0 : List TV) (s_1 : List TV) (s_2 : List TV) (s_7 : List TV) (s_8 : List TV) (k_3 : Int) (near_10 : Int) (most_5 : Int) (v_9 : Int) (v_4 : Int) (v_6 : Int) (xs_41d0_2 : List TV) : Nd :=
  .bool (xs_41d0_2.getD (0 + v_6.toNat) (.dead ())) fun x_6c5c =>
  .ck (decide ((0 : Int) ≤ v_6) && decide (v_6 < ((s_2.length : Nat) : Int))) <|
  .slO ⟨1, false⟩ (s_2.getD (0 + v_6.toNat) (.dead ())) fun vs_c3ff =>
  .slO ⟨1, false⟩ (s_2.getD (0 + v_6.toNat) (.dead ())) fun vs_c3ff_2 =>
  C45 vs_c3ff_2 fun vs_b942 =>
  .bif (x_6c5c)
  (.bif ((v_6 != k_3))
    (.bif (decide (((vs_b942.length : Nat) : Int) > most_5))
      (B20_3 order_0 s_1 s_2 s_7 s_8 k_3 v_6 ((vs_b942.length : Nat) : Int) v_9 v_4 (w64 (v_6 + 1)))
      (B20_3 order_0 s_1 s_2 s_7 s_8 k_3 near_10 most_5 v_9 v_4 (w64 (v_6 + 1))))
    (B20_3 order_0 s_1 s_2 s_7 s_8 k_3 near_10 most_5 v_9 v_4 (w64 (v_6 + 1))))
  (B20_3 order_0 s_1 s_2 s_7 s_8 k_3 near_10 most_5 v_9 v_4 (w64 (v_6 + 1)))
noncomputable def NH20_3_s1 (order_0 : List TV) (s_1 : List TV) (s_2 : List TV) (s_7 : List TV) (s_8 : List TV) (k_3 : Int) (near_10 : Int) (most_5 : Int) (v_9 : Int) (v_4 : Int) (v_6 : Int) (xs_41d0 : List TV) : Nd :=
  .ck (decide ((0 : Int) ≤ v_6) && decide (v_6 < ((xs_41d0.length : Nat) : Int))) <|
  .slB ⟨1, false⟩ (s_2.getD (0 + k_3.toNat) (.dead ())) fun r xs_41d0_2 => bif r then 
  (NH20_3_s0 order_0 s_1 s_2 s_7 s_8 k_3 near_10 most_5 v_9 v_4 v_6 xs_41d0_2)
  else (NH20_3_s0 order_0 s_1 s_2 s_7 s_8 k_3 near_10 most_5 v_9 v_4 v_6 xs_41d0_2)
noncomputable def NH20_3_s2 (order_0 : List TV) (s_1 : List TV) (s_2 : List TV) (s_7 : List TV) (s_8 : List TV) (k_3 : Int) (near_10 : Int) (v_9 : Int) : Nd :=
  .slO ⟨1, false⟩ (s_8.getD (0 + near_10.toNat) (.dead ())) fun vs_0756_2 =>
  .ck (decide ((vs_0756_2.length + ([i64 k_3] : List TV).length) * 8 < lim)) <|
  .ck (decide ((0 : Int) ≤ near_10) && decide (near_10 < (((s_8.set (0 + near_10.toNat) (.dead ())).length : Nat) : Int))) <|
  B20_2 order_0 s_1 s_2 s_7 ((s_8.set (0 + near_10.toNat) (.dead ())).set (0 + near_10.toNat) (sl false ⟨1, false⟩ (vs_0756_2 ++ ([i64 k_3])))) (w64 (v_9 + 1))
noncomputable def NH20_3 (order_0 : List TV) (s_1 : List TV) (s_2 : List TV) (s_7 : List TV) (s_8 : List TV) (k_3 : Int) (near_10 : Int) (most_5 : Int) (v_9 : Int) (v_4 : Int) (v_6 : Int) : Nd :=
  .bif (decide (v_6 < v_4))
  (.slB ⟨1, false⟩ (s_2.getD (0 + k_3.toNat) (.dead ())) fun r xs_41d0 => bif r then 
    (NH20_3_s1 order_0 s_1 s_2 s_7 s_8 k_3 near_10 most_5 v_9 v_4 v_6 xs_41d0)
    else (NH20_3_s1 order_0 s_1 s_2 s_7 s_8 k_3 near_10 most_5 v_9 v_4 v_6 xs_41d0))
  (.ck (decide ((0 : Int) ≤ near_10) && decide (near_10 < ((s_8.length : Nat) : Int))) <|
    .slO ⟨1, false⟩ (s_8.getD (0 + near_10.toNat) (.dead ())) fun vs_0756 =>
    .amb2 
    (NH20_3_s2 order_0 s_1 s_2 s_7 s_8 k_3 near_10 v_9) 
    (.amb2 
      (NH20_3_s2 order_0 s_1 s_2 s_7 s_8 k_3 near_10 v_9) 
      (NH20_3_s2 order_0 s_1 s_2 s_7 s_8 k_3 near_10 v_9)))
theorem eH20_3 {order_0 : List TV} {s_1 : List TV} {s_2 : List TV} {s_7 : List TV} {s_8 : List TV} {k_3 : Int} {near_10 : Int} {most_5 : Int} {v_9 : Int} {v_4 : Int} {v_6 : Int} {r : Res} (h : S cx 20 (NH20_3 order_0 s_1 s_2 s_7 s_8 k_3 near_10 most_5 v_9 v_4 v_6) = some r) : S cx 20 (H20_3 order_0 s_1 s_2 s_7 s_8 k_3 near_10 most_5 v_9 v_4 v_6) = some r :=
  hw_of (fun call hd hb pt rg => by kernel_rfl) h
noncomputable def EH21_0 (a_0 : List TV) (b_1 : List TV) (i_2 : Int) : Env := [.val [] (sl true ⟨1, false⟩ a_0), .val [] (sl true ⟨1, false⟩ b_1), .un, .un, .un, .val [] (i64 i_2)] ++ uns 22
noncomputable abbrev H21_0 (a_0 : List TV) (b_1 : List TV) (i_2 : Int) : Nd := .head [1, 1, 0, 1, 2] (EH21_0 a_0 b_1 i_2)
noncomputable abbrev B21_0 (a_0 : List TV) (b_1 : List TV) (i_2 : Int) : Nd := .back [1, 1, 0, 1, 2] (EH21_0 a_0 b_1 i_2)
noncomputable def N21 (a_0 : List TV) (b_1 : List TV) : Nd :=
  .bif ((((a_0.length : Nat) : Int) != ((b_1.length : Nat) : Int)))
  (.ret [tb false] [])
  (H21_0 a_0 b_1 0)
theorem e21 {a_0 : List TV} {b_1 : List TV} {r : Res} (h : S cx 21 (N21 a_0 b_1) = some r) : tw cx 21 [sl true ⟨1, false⟩ a_0, sl true ⟨1, false⟩ b_1] = some r :=
  tw_of (fun call hd hb pt rg => by kernel_rfl) h
noncomputable def NH21_0 (a_0 : List TV) (b_1 : List TV) (i_2 : Int) : Nd :=
  .bif (decide (i_2 < ((a_0.length : Nat) : Int)))
  (.ck (decide ((0 : Int) ≤ i_2) && decide (i_2 < ((a_0.length : Nat) : Int))) <|
    .int .i64 (a_0.getD (0 + i_2.toNat) (.dead ())) fun x_3db5 =>
    .ck (decide ((0 : Int) ≤ i_2) && decide (i_2 < ((b_1.length : Nat) : Int))) <|
    .int .i64 (b_1.getD (0 + i_2.toNat) (.dead ())) fun x_a7d6 =>
    .bif ((x_3db5 != x_a7d6))
    (.ret [tb false] [])
    (B21_0 a_0 b_1 (w64 (i_2 + 1))))
  (.ret [tb true] [])
theorem eH21_0 {a_0 : List TV} {b_1 : List TV} {i_2 : Int} {r : Res} (h : S cx 21 (NH21_0 a_0 b_1 i_2) = some r) : S cx 21 (H21_0 a_0 b_1 i_2) = some r :=
  hw_of (fun call hd hb pt rg => by kernel_rfl) h
noncomputable def N22 (a_0 : List TV) (a_1 : Int) (a_2 : Int) (a_3 : List TV) (b_4 : List TV) (b_5 : Int) (b_6 : Int) (b_7 : List TV) : Nd :=
  C46 a_0 b_4 fun v_5220 =>
  .bif ((!v_5220))
  (.ret [tb false] [])
  (.bif ((a_1 != b_5))
    (.ret [tb false] [])
    (.bif ((a_2 != b_6))
      (.ret [tb false] [])
      (C21 a_3 b_7 fun v_a653 =>
        .bif ((!v_a653))
        (.ret [tb false] [])
        (.ret [tb true] []))))
theorem e22 {a_0 : List TV} {a_1 : Int} {a_2 : Int} {a_3 : List TV} {b_4 : List TV} {b_5 : Int} {b_6 : Int} {b_7 : List TV} {r : Res} (h : S cx 22 (N22 a_0 a_1 a_2 a_3 b_4 b_5 b_6 b_7) = some r) : tw cx 22 [.st [sl true ⟨6, false⟩ a_0, i64 a_1, i64 a_2, sl true ⟨1, false⟩ a_3], .st [sl true ⟨6, false⟩ b_4, i64 b_5, i64 b_6, sl true ⟨1, false⟩ b_7]] = some r :=
  tw_of (fun call hd hb pt rg => by kernel_rfl) h
noncomputable def EH23_0 (k_0 : Int) (i_2 : Int) (a_1 : List TV) : Env := [.ref 55 [] none 46 false, .val [] (i64 k_0), .un, .un, .un, .val [] (i64 i_2)] ++ uns 49 ++ [.val [] (sl false ⟨6, false⟩ a_1), .un]
noncomputable abbrev H23_0 (k_0 : Int) (i_2 : Int) (a_1 : List TV) : Nd := .head [1, 0, 1, 2] (EH23_0 k_0 i_2 a_1)
noncomputable abbrev B23_0 (k_0 : Int) (i_2 : Int) (a_1 : List TV) : Nd := .back [1, 0, 1, 2] (EH23_0 k_0 i_2 a_1)
noncomputable def N23 (a_0 : List TV) (k_1 : Int) : Nd :=
  H23_0 k_1 0 a_0
theorem e23 {a_0 : List TV} {k_1 : Int} {r : Res} (h : S cx 23 (N23 a_0 k_1) = some r) : tw cx 23 [sl false ⟨6, false⟩ a_0, i64 k_1] = some r :=
  tw_of (fun call hd hb pt rg => by kernel_rfl) h
noncomputable def NH23_0 (k_0 : Int) (i_2 : Int) (a_1 : List TV) : Nd :=
  .bif (decide (i_2 < ((a_1.length : Nat) : Int)))
  (.ck (decide ((0 : Int) ≤ i_2) && decide (i_2 < ((a_1.length : Nat) : Int))) <|
    V6 (a_1.getD (0 + i_2.toNat) (.dead ())) fun op_acc8 do_e983 dst_bd36 a_71bc b_ea8e n_ffdc =>
    .ck (decide ((0 : Int) ≤ i_2) && decide (i_2 < (((a_1.set (0 + i_2.toNat) (.st [i64 k_0, i64 do_e983, i64 dst_bd36, i64 a_71bc, i64 b_ea8e, i64 n_ffdc])).length : Nat) : Int))) <|
    V6 ((a_1.set (0 + i_2.toNat) (.st [i64 k_0, i64 do_e983, i64 dst_bd36, i64 a_71bc, i64 b_ea8e, i64 n_ffdc])).getD (0 + i_2.toNat) (.dead ())) fun op_522b do_24b7 dst_7ace a_35df b_10be n_13f8 =>
    .ck (decide ((0 : Int) ≤ i_2) && decide (i_2 < ((((a_1.set (0 + i_2.toNat) (.st [i64 k_0, i64 do_e983, i64 dst_bd36, i64 a_71bc, i64 b_ea8e, i64 n_ffdc])).set (0 + i_2.toNat) (.st [i64 op_522b, i64 (w64 (k_0 + 1)), i64 dst_7ace, i64 a_35df, i64 b_10be, i64 n_13f8])).length : Nat) : Int))) <|
    V6 (((a_1.set (0 + i_2.toNat) (.st [i64 k_0, i64 do_e983, i64 dst_bd36, i64 a_71bc, i64 b_ea8e, i64 n_ffdc])).set (0 + i_2.toNat) (.st [i64 op_522b, i64 (w64 (k_0 + 1)), i64 dst_7ace, i64 a_35df, i64 b_10be, i64 n_13f8])).getD (0 + i_2.toNat) (.dead ())) fun op_7fc6 do_5133 dst_fec7 a_81f0 b_7502 n_c02b =>
    .ck (decide ((0 : Int) ≤ i_2) && decide (i_2 < (((((a_1.set (0 + i_2.toNat) (.st [i64 k_0, i64 do_e983, i64 dst_bd36, i64 a_71bc, i64 b_ea8e, i64 n_ffdc])).set (0 + i_2.toNat) (.st [i64 op_522b, i64 (w64 (k_0 + 1)), i64 dst_7ace, i64 a_35df, i64 b_10be, i64 n_13f8])).set (0 + i_2.toNat) (.st [i64 op_7fc6, i64 do_5133, i64 (w64 ((w64 (k_0 + 1)) + 1)), i64 a_81f0, i64 b_7502, i64 n_c02b])).length : Nat) : Int))) <|
    V6 ((((a_1.set (0 + i_2.toNat) (.st [i64 k_0, i64 do_e983, i64 dst_bd36, i64 a_71bc, i64 b_ea8e, i64 n_ffdc])).set (0 + i_2.toNat) (.st [i64 op_522b, i64 (w64 (k_0 + 1)), i64 dst_7ace, i64 a_35df, i64 b_10be, i64 n_13f8])).set (0 + i_2.toNat) (.st [i64 op_7fc6, i64 do_5133, i64 (w64 ((w64 (k_0 + 1)) + 1)), i64 a_81f0, i64 b_7502, i64 n_c02b])).getD (0 + i_2.toNat) (.dead ())) fun op_393d do_cf0c dst_dd18 a_6de2 b_f96e n_a924 =>
    .ck (decide ((0 : Int) ≤ i_2) && decide (i_2 < ((((((a_1.set (0 + i_2.toNat) (.st [i64 k_0, i64 do_e983, i64 dst_bd36, i64 a_71bc, i64 b_ea8e, i64 n_ffdc])).set (0 + i_2.toNat) (.st [i64 op_522b, i64 (w64 (k_0 + 1)), i64 dst_7ace, i64 a_35df, i64 b_10be, i64 n_13f8])).set (0 + i_2.toNat) (.st [i64 op_7fc6, i64 do_5133, i64 (w64 ((w64 (k_0 + 1)) + 1)), i64 a_81f0, i64 b_7502, i64 n_c02b])).set (0 + i_2.toNat) (.st [i64 op_393d, i64 do_cf0c, i64 dst_dd18, i64 (w64 ((w64 ((w64 (k_0 + 1)) + 1)) + 1)), i64 b_f96e, i64 n_a924])).length : Nat) : Int))) <|
    V6 (((((a_1.set (0 + i_2.toNat) (.st [i64 k_0, i64 do_e983, i64 dst_bd36, i64 a_71bc, i64 b_ea8e, i64 n_ffdc])).set (0 + i_2.toNat) (.st [i64 op_522b, i64 (w64 (k_0 + 1)), i64 dst_7ace, i64 a_35df, i64 b_10be, i64 n_13f8])).set (0 + i_2.toNat) (.st [i64 op_7fc6, i64 do_5133, i64 (w64 ((w64 (k_0 + 1)) + 1)), i64 a_81f0, i64 b_7502, i64 n_c02b])).set (0 + i_2.toNat) (.st [i64 op_393d, i64 do_cf0c, i64 dst_dd18, i64 (w64 ((w64 ((w64 (k_0 + 1)) + 1)) + 1)), i64 b_f96e, i64 n_a924])).getD (0 + i_2.toNat) (.dead ())) fun op_7951 do_0d95 dst_4e8f a_4b62 b_539f n_c7b5 =>
    .ck (decide ((0 : Int) ≤ i_2) && decide (i_2 < (((((((a_1.set (0 + i_2.toNat) (.st [i64 k_0, i64 do_e983, i64 dst_bd36, i64 a_71bc, i64 b_ea8e, i64 n_ffdc])).set (0 + i_2.toNat) (.st [i64 op_522b, i64 (w64 (k_0 + 1)), i64 dst_7ace, i64 a_35df, i64 b_10be, i64 n_13f8])).set (0 + i_2.toNat) (.st [i64 op_7fc6, i64 do_5133, i64 (w64 ((w64 (k_0 + 1)) + 1)), i64 a_81f0, i64 b_7502, i64 n_c02b])).set (0 + i_2.toNat) (.st [i64 op_393d, i64 do_cf0c, i64 dst_dd18, i64 (w64 ((w64 ((w64 (k_0 + 1)) + 1)) + 1)), i64 b_f96e, i64 n_a924])).set (0 + i_2.toNat) (.st [i64 op_7951, i64 do_0d95, i64 dst_4e8f, i64 a_4b62, i64 (w64 ((w64 ((w64 ((w64 (k_0 + 1)) + 1)) + 1)) + 1)), i64 n_c7b5])).length : Nat) : Int))) <|
    V6 ((((((a_1.set (0 + i_2.toNat) (.st [i64 k_0, i64 do_e983, i64 dst_bd36, i64 a_71bc, i64 b_ea8e, i64 n_ffdc])).set (0 + i_2.toNat) (.st [i64 op_522b, i64 (w64 (k_0 + 1)), i64 dst_7ace, i64 a_35df, i64 b_10be, i64 n_13f8])).set (0 + i_2.toNat) (.st [i64 op_7fc6, i64 do_5133, i64 (w64 ((w64 (k_0 + 1)) + 1)), i64 a_81f0, i64 b_7502, i64 n_c02b])).set (0 + i_2.toNat) (.st [i64 op_393d, i64 do_cf0c, i64 dst_dd18, i64 (w64 ((w64 ((w64 (k_0 + 1)) + 1)) + 1)), i64 b_f96e, i64 n_a924])).set (0 + i_2.toNat) (.st [i64 op_7951, i64 do_0d95, i64 dst_4e8f, i64 a_4b62, i64 (w64 ((w64 ((w64 ((w64 (k_0 + 1)) + 1)) + 1)) + 1)), i64 n_c7b5])).getD (0 + i_2.toNat) (.dead ())) fun op_a302 do_fdb9 dst_f6e3 a_9723 b_6717 n_d42a =>
    B23_0 (w64 ((w64 ((w64 ((w64 ((w64 ((w64 (k_0 + 1)) + 1)) + 1)) + 1)) + 1)) + 1)) (w64 (i_2 + 1)) ((((((a_1.set (0 + i_2.toNat) (.st [i64 k_0, i64 do_e983, i64 dst_bd36, i64 a_71bc, i64 b_ea8e, i64 n_ffdc])).set (0 + i_2.toNat) (.st [i64 op_522b, i64 (w64 (k_0 + 1)), i64 dst_7ace, i64 a_35df, i64 b_10be, i64 n_13f8])).set (0 + i_2.toNat) (.st [i64 op_7fc6, i64 do_5133, i64 (w64 ((w64 (k_0 + 1)) + 1)), i64 a_81f0, i64 b_7502, i64 n_c02b])).set (0 + i_2.toNat) (.st [i64 op_393d, i64 do_cf0c, i64 dst_dd18, i64 (w64 ((w64 ((w64 (k_0 + 1)) + 1)) + 1)), i64 b_f96e, i64 n_a924])).set (0 + i_2.toNat) (.st [i64 op_7951, i64 do_0d95, i64 dst_4e8f, i64 a_4b62, i64 (w64 ((w64 ((w64 ((w64 (k_0 + 1)) + 1)) + 1)) + 1)), i64 n_c7b5])).set (0 + i_2.toNat) (.st [i64 op_a302, i64 do_fdb9, i64 dst_f6e3, i64 a_9723, i64 b_6717, i64 (w64 ((w64 ((w64 ((w64 ((w64 (k_0 + 1)) + 1)) + 1)) + 1)) + 1))])))
  (.ret [i64 k_0] [sl false ⟨6, false⟩ a_1])
theorem eH23_0 {k_0 : Int} {i_2 : Int} {a_1 : List TV} {r : Res} (h : S cx 23 (NH23_0 k_0 i_2 a_1) = some r) : S cx 23 (H23_0 k_0 i_2 a_1) = some r :=
  hw_of (fun call hd hb pt rg => by kernel_rfl) h
noncomputable def EH24_0 (k_0 : Int) (i_2 : Int) (a_1 : List TV) : Env := [.ref 19 [] none 36 false, .val [] (i64 k_0), .un, .un, .un, .val [] (i64 i_2)] ++ uns 13 ++ [.val [] (sl false ⟨1, false⟩ a_1), .un]
noncomputable abbrev H24_0 (k_0 : Int) (i_2 : Int) (a_1 : List TV) : Nd := .head [1, 0, 1, 2] (EH24_0 k_0 i_2 a_1)
noncomputable abbrev B24_0 (k_0 : Int) (i_2 : Int) (a_1 : List TV) : Nd := .back [1, 0, 1, 2] (EH24_0 k_0 i_2 a_1)
noncomputable def N24 (a_0 : List TV) (k_1 : Int) : Nd :=
  H24_0 k_1 0 a_0
theorem e24 {a_0 : List TV} {k_1 : Int} {r : Res} (h : S cx 24 (N24 a_0 k_1) = some r) : tw cx 24 [sl false ⟨1, false⟩ a_0, i64 k_1] = some r :=
  tw_of (fun call hd hb pt rg => by kernel_rfl) h
noncomputable def NH24_0 (k_0 : Int) (i_2 : Int) (a_1 : List TV) : Nd :=
  .bif (decide (i_2 < ((a_1.length : Nat) : Int)))
  (.ck (decide ((0 : Int) ≤ i_2) && decide (i_2 < ((a_1.length : Nat) : Int))) <|
    B24_0 (w64 (k_0 + 1)) (w64 (i_2 + 1)) (a_1.set (0 + i_2.toNat) (i64 k_0)))
  (.ret [i64 k_0] [sl false ⟨1, false⟩ a_1])
theorem eH24_0 {k_0 : Int} {i_2 : Int} {a_1 : List TV} {r : Res} (h : S cx 24 (NH24_0 k_0 i_2 a_1) = some r) : S cx 24 (H24_0 k_0 i_2 a_1) = some r :=
  hw_of (fun call hd hb pt rg => by kernel_rfl) h
noncomputable def EH25_0 (a_0 : List TV) (k_1 : Int) (i_2 : Int) : Env := [.val [] (sl true ⟨1, false⟩ a_0), .val [] (i64 k_1), .un, .un, .un, .val [] (i64 i_2)] ++ uns 17
noncomputable abbrev H25_0 (a_0 : List TV) (k_1 : Int) (i_2 : Int) : Nd := .head [1, 0, 1, 2] (EH25_0 a_0 k_1 i_2)
noncomputable abbrev B25_0 (a_0 : List TV) (k_1 : Int) (i_2 : Int) : Nd := .back [1, 0, 1, 2] (EH25_0 a_0 k_1 i_2)
noncomputable def N25 (a_0 : List TV) (k_1 : Int) : Nd :=
  H25_0 a_0 k_1 0
theorem e25 {a_0 : List TV} {k_1 : Int} {r : Res} (h : S cx 25 (N25 a_0 k_1) = some r) : tw cx 25 [sl true ⟨1, false⟩ a_0, i64 k_1] = some r :=
  tw_of (fun call hd hb pt rg => by kernel_rfl) h
noncomputable def NH25_0 (a_0 : List TV) (k_1 : Int) (i_2 : Int) : Nd :=
  .bif (decide (i_2 < ((a_0.length : Nat) : Int)))
  (.ck (decide ((0 : Int) ≤ i_2) && decide (i_2 < ((a_0.length : Nat) : Int))) <|
    .int .i64 (a_0.getD (0 + i_2.toNat) (.dead ())) fun x_3db5 =>
    .bif ((x_3db5 != k_1))
    (.ret [i64 (-1)] [])
    (B25_0 a_0 (w64 (k_1 + 1)) (w64 (i_2 + 1))))
  (.ret [i64 k_1] [])
theorem eH25_0 {a_0 : List TV} {k_1 : Int} {i_2 : Int} {r : Res} (h : S cx 25 (NH25_0 a_0 k_1 i_2) = some r) : S cx 25 (H25_0 a_0 k_1 i_2) = some r :=
  hw_of (fun call hd hb pt rg => by kernel_rfl) h
noncomputable def N26 (a_0 : List TV) (left_1 : Int) : Nd :=
  .bif (decide (w64 (left_1 - ((a_0.length : Nat) : Int)) < 0))
  (.ret [i64 (-1)] [])
  (.ret [i64 (w64 (left_1 - ((a_0.length : Nat) : Int)))] [])
theorem e26 {a_0 : List TV} {left_1 : Int} {r : Res} (h : S cx 26 (N26 a_0 left_1) = some r) : tw cx 26 [sl true ⟨6, false⟩ a_0, i64 left_1] = some r :=
  tw_of (fun call hd hb pt rg => by kernel_rfl) h
noncomputable def N27 (a_0 : List TV) (left_1 : Int) : Nd :=
  .bif (decide (w64 (left_1 - ((a_0.length : Nat) : Int)) < 0))
  (.ret [i64 (-1)] [])
  (.ret [i64 (w64 (left_1 - ((a_0.length : Nat) : Int)))] [])
theorem e27 {a_0 : List TV} {left_1 : Int} {r : Res} (h : S cx 27 (N27 a_0 left_1) = some r) : tw cx 27 [sl true ⟨1, false⟩ a_0, i64 left_1] = some r :=
  tw_of (fun call hd hb pt rg => by kernel_rfl) h
noncomputable def EH28_0 (f_0 : List TV) (v_1 : Int) : Env := [.val [] (sl true ⟨4, true⟩ f_0), .un, .un, .un, .un, .val [] (sl true ⟨4, true⟩ f_0), .val [] (i64 ((f_0.length : Nat) : Int)), .val [] (i64 v_1)] ++ uns 13
noncomputable abbrev H28_0 (f_0 : List TV) (v_1 : Int) : Nd := .head [1, 0, 1, 2] (EH28_0 f_0 v_1)
noncomputable abbrev B28_0 (f_0 : List TV) (v_1 : Int) : Nd := .back [1, 0, 1, 2] (EH28_0 f_0 v_1)
noncomputable def N28 (f_0 : List TV) : Nd :=
  H28_0 f_0 0
theorem e28 {f_0 : List TV} {r : Res} (h : S cx 28 (N28 f_0) = some r) : tw cx 28 [sl true ⟨4, true⟩ f_0] = some r :=
  tw_of (fun call hd hb pt rg => by kernel_rfl) h
noncomputable def NH28_0 (f_0 : List TV) (v_1 : Int) : Nd :=
  .bif (decide (v_1 < ((f_0.length : Nat) : Int)))
  (.ck (decide ((0 : Int) ≤ v_1) && decide (v_1 < ((f_0.length : Nat) : Int))) <|
    V4 (f_0.getD (0 + v_1.toNat) (.dead ())) fun codes_4fee go_d0b0 test_d8b3 nexts_a1b5 =>
    C47 codes_4fee go_d0b0 test_d8b3 nexts_a1b5 ((f_0.length : Nat) : Int) fun v_a278 =>
    .bif ((!v_a278))
    (.ret [tb false] [])
    (B28_0 f_0 (w64 (v_1 + 1))))
  (C48 ((f_0.length : Nat) : Int) 1 64 fun v_89c4 =>
    .ret [tb v_89c4] [])
theorem eH28_0 {f_0 : List TV} {v_1 : Int} {r : Res} (h : S cx 28 (NH28_0 f_0 v_1) = some r) : S cx 28 (H28_0 f_0 v_1) = some r :=
  hw_of (fun call hd hb pt rg => by kernel_rfl) h
noncomputable def EH29_0 (f_0 : List TV) (seen_2 : List TV) (i_1 : Int) : Env := [.val [] (sl true ⟨4, true⟩ f_0), .un, .un, .val [] (sl false ⟨1, false⟩ seen_2), .val [] (i64 i_1)] ++ uns 46
noncomputable abbrev H29_0 (f_0 : List TV) (seen_2 : List TV) (i_1 : Int) : Nd := .head [1, 1, 0, 1, 2] (EH29_0 f_0 seen_2 i_1)
noncomputable abbrev B29_0 (f_0 : List TV) (seen_2 : List TV) (i_1 : Int) : Nd := .back [1, 1, 0, 1, 2] (EH29_0 f_0 seen_2 i_1)
noncomputable def EH29_1 (f_0 : List TV) (seen_2 : List TV) (i_4 : Int) (v_1 : List TV) (v_3 : Int) : Env := [.val [] (sl true ⟨4, true⟩ f_0), .un, .un, .val [] (sl false ⟨1, false⟩ seen_2), .val [] (i64 i_4)] ++ uns 19 ++ [.val [] (sl true ⟨1, false⟩ v_1), .val [] (i64 ((v_1.length : Nat) : Int)), .val [] (i64 v_3)] ++ uns 24
noncomputable abbrev H29_1 (f_0 : List TV) (seen_2 : List TV) (i_4 : Int) (v_1 : List TV) (v_3 : Int) : Nd := .head [1, 1, 0, 1, 2, 5, 1, 0, 2, 1, 2] (EH29_1 f_0 seen_2 i_4 v_1 v_3)
noncomputable abbrev B29_1 (f_0 : List TV) (seen_2 : List TV) (i_4 : Int) (v_1 : List TV) (v_3 : Int) : Nd := .back [1, 1, 0, 1, 2, 5, 1, 0, 2, 1, 2] (EH29_1 f_0 seen_2 i_4 v_1 v_3)
noncomputable def EH29_2 (seen_2 : List TV) (out_0 : List TV) (v_3 : Int) (v_1 : Int) : Env := [.un, .un, .un, .val [] (sl false ⟨1, false⟩ seen_2), .un, .un, .un, .val [] (sl false ⟨1, false⟩ out_0)] ++ uns 31 ++ [.ref 3 [] none 36 false, .val [] (i64 v_3), .val [] (i64 v_1)] ++ uns 9
noncomputable abbrev H29_2 (seen_2 : List TV) (out_0 : List TV) (v_3 : Int) (v_1 : Int) : Nd := .head [1, 1, 1, 1, 0, 1, 2] (EH29_2 seen_2 out_0 v_3 v_1)
noncomputable abbrev B29_2 (seen_2 : List TV) (out_0 : List TV) (v_3 : Int) (v_1 : Int) : Nd := .back [1, 1, 1, 1, 0, 1, 2] (EH29_2 seen_2 out_0 v_3 v_1)
noncomputable def N29 (f_0 : List TV) : Nd :=
  H29_0 f_0 ([i64 0]) 0
theorem e29 {f_0 : List TV} {r : Res} (h : S cx 29 (N29 f_0) = some r) : tw cx 29 [sl true ⟨4, true⟩ f_0] = some r :=
  tw_of (fun call hd hb pt rg => by kernel_rfl) h
noncomputable def NH29_0 (f_0 : List TV) (seen_2 : List TV) (i_1 : Int) : Nd :=
  .bif (decide (i_1 < ((seen_2.length : Nat) : Int)))
  (.ck (decide ((0 : Int) ≤ i_1) && decide (i_1 < ((seen_2.length : Nat) : Int))) <|
    .int .i64 (seen_2.getD (0 + i_1.toNat) (.dead ())) fun x_8f92 =>
    .ck (decide ((0 : Int) ≤ x_8f92) && decide (x_8f92 < ((f_0.length : Nat) : Int))) <|
    V4 (f_0.getD (0 + x_8f92.toNat) (.dead ())) fun codes_3ea9 go_81b2 test_cc14 nexts_315c =>
    H29_1 f_0 seen_2 i_1 nexts_315c 0)
  (H29_2 seen_2 ([]) ((seen_2.length : Nat) : Int) 0)
theorem eH29_0 {f_0 : List TV} {seen_2 : List TV} {i_1 : Int} {r : Res} (h : S cx 29 (NH29_0 f_0 seen_2 i_1) = some r) : S cx 29 (H29_0 f_0 seen_2 i_1) = some r :=
  hw_of (fun call hd hb pt rg => by kernel_rfl) h
noncomputable def NH29_1 (f_0 : List TV) (seen_2 : List TV) (i_4 : Int) (v_1 : List TV) (v_3 : Int) : Nd :=
  .bif (decide (v_3 < ((v_1.length : Nat) : Int)))
  (.ck (decide ((0 : Int) ≤ v_3) && decide (v_3 < ((v_1.length : Nat) : Int))) <|
    .int .i64 (v_1.getD (0 + v_3.toNat) (.dead ())) fun x_c303 =>
    C35 seen_2 x_c303 fun v_4c02 =>
    .bif ((!v_4c02))
    (.ck (decide ((seen_2.length + ([i64 x_c303] : List TV).length) * 8 < lim)) <|
      B29_1 f_0 (seen_2 ++ ([i64 x_c303])) i_4 v_1 (w64 (v_3 + 1)))
    (B29_1 f_0 seen_2 i_4 v_1 (w64 (v_3 + 1))))
  (B29_0 f_0 seen_2 (w64 (i_4 + 1)))
theorem eH29_1 {f_0 : List TV} {seen_2 : List TV} {i_4 : Int} {v_1 : List TV} {v_3 : Int} {r : Res} (h : S cx 29 (NH29_1 f_0 seen_2 i_4 v_1 v_3) = some r) : S cx 29 (H29_1 f_0 seen_2 i_4 v_1 v_3) = some r :=
  hw_of (fun call hd hb pt rg => by kernel_rfl) h
noncomputable def NH29_2 (seen_2 : List TV) (out_0 : List TV) (v_3 : Int) (v_1 : Int) : Nd :=
  .bif (decide (v_1 < v_3))
  (.ck (decide ((0 : Int) ≤ v_1) && decide (v_1 < ((seen_2.length : Nat) : Int))) <|
    .int .i64 (seen_2.getD (0 + v_1.toNat) (.dead ())) fun x_2855 =>
    C32 out_0 x_2855 fun vs_c936 =>
    B29_2 seen_2 vs_c936 v_3 (w64 (v_1 + 1)))
  (.ret [sl false ⟨1, false⟩ out_0] [])
theorem eH29_2 {seen_2 : List TV} {out_0 : List TV} {v_3 : Int} {v_1 : Int} {r : Res} (h : S cx 29 (NH29_2 seen_2 out_0 v_3 v_1) = some r) : S cx 29 (H29_2 seen_2 out_0 v_3 v_1) = some r :=
  hw_of (fun call hd hb pt rg => by kernel_rfl) h
noncomputable def EH30_0 (l_0 : List TV) (v_1 : Int) : Env := [.val [] (sl true ⟨6, false⟩ l_0), .un, .un, .un, .un, .val [] (sl true ⟨6, false⟩ l_0), .val [] (i64 ((l_0.length : Nat) : Int)), .val [] (i64 v_1)] ++ uns 26
noncomputable abbrev H30_0 (l_0 : List TV) (v_1 : Int) : Nd := .head [1, 0, 1, 2] (EH30_0 l_0 v_1)
noncomputable abbrev B30_0 (l_0 : List TV) (v_1 : Int) : Nd := .back [1, 0, 1, 2] (EH30_0 l_0 v_1)
noncomputable def N30 (l_0 : List TV) : Nd :=
  H30_0 l_0 0
theorem e30 {l_0 : List TV} {r : Res} (h : S cx 30 (N30 l_0) = some r) : tw cx 30 [sl true ⟨6, false⟩ l_0] = some r :=
  tw_of (fun call hd hb pt rg => by kernel_rfl) h
noncomputable def NH30_0 (l_0 : List TV) (v_1 : Int) : Nd :=
  .bif (decide (v_1 < ((l_0.length : Nat) : Int)))
  (.ck (decide ((0 : Int) ≤ v_1) && decide (v_1 < ((l_0.length : Nat) : Int))) <|
    V6 (l_0.getD (0 + v_1.toNat) (.dead ())) fun op_66ce do_aaf4 dst_f6d6 a_c89a b_b554 n_2a5e =>
    C49 op_66ce do_aaf4 dst_f6d6 a_c89a b_b554 n_2a5e fun v_4c68 =>
    .bif ((!v_4c68))
    (.ret [tb false] [])
    (.bif (decide (dst_f6d6 ≥ 8))
      (.ret [tb false] [])
      (.bif (decide (a_c89a ≥ 8))
        (.ret [tb false] [])
        (.bif (decide (b_b554 ≥ 8))
          (.ret [tb false] [])
          (B30_0 l_0 (w64 (v_1 + 1)))))))
  (.ret [tb (decide (((l_0.length : Nat) : Int) ≤ 60))] [])
theorem eH30_0 {l_0 : List TV} {v_1 : Int} {r : Res} (h : S cx 30 (NH30_0 l_0 v_1) = some r) : S cx 30 (H30_0 l_0 v_1) = some r :=
  hw_of (fun call hd hb pt rg => by kernel_rfl) h
end Go.Tree.Q

/- Trees of values: program points of functions. -/
namespace Go.Tree.Q
open Go.Proofs
set_option linter.unusedVariables false
set_option maxRecDepth 20000
noncomputable def EH31_0 (dom_0 : List TV) (g_1 : List TV) (left_2 : List TV) : Env := [.un, .val [] (sl true ⟨1, true⟩ dom_0), .val [] (.pt false () (.st [sl true ⟨1, true⟩ g_1])), .un, .un, .val [] (sl false ⟨1, false⟩ left_2)] ++ uns 57
noncomputable abbrev H31_0 (dom_0 : List TV) (g_1 : List TV) (left_2 : List TV) : Nd := .head [1, 1, 2] (EH31_0 dom_0 g_1 left_2)
noncomputable abbrev B31_0 (dom_0 : List TV) (g_1 : List TV) (left_2 : List TV) : Nd := .back [1, 1, 2] (EH31_0 dom_0 g_1 left_2)
noncomputable def EH31_1 (dom_0 : List TV) (g_1 : List TV) (left_2 : List TV) (next_4 : List TV) (v_3 : Int) : Env := [.un, .val [] (sl true ⟨1, true⟩ dom_0), .val [] (.pt false () (.st [sl true ⟨1, true⟩ g_1])), .un, .un, .val [] (sl false ⟨1, false⟩ left_2), .val [] (sl false ⟨1, false⟩ next_4)] ++ uns 7 ++ [.ref 5 [] none 36 false, .val [] (i64 ((left_2.length : Nat) : Int)), .val [] (i64 v_3)] ++ uns 46
noncomputable abbrev H31_1 (dom_0 : List TV) (g_1 : List TV) (left_2 : List TV) (next_4 : List TV) (v_3 : Int) : Nd := .head [1, 1, 2, 5, 2, 1, 0, 1, 2] (EH31_1 dom_0 g_1 left_2 next_4 v_3)
noncomputable abbrev B31_1 (dom_0 : List TV) (g_1 : List TV) (left_2 : List TV) (next_4 : List TV) (v_3 : Int) : Nd := .back [1, 1, 2, 5, 2, 1, 0, 1, 2] (EH31_1 dom_0 g_1 left_2 next_4 v_3)
noncomputable def EH31_2 (dom_0 : List TV) (g_1 : List TV) (left_2 : List TV) (next_8 : List TV) (k_3 : Int) (lead_5 : Bool) (v_7 : Int) (v_4 : List TV) (v_6 : Int) : Env := [.un, .val [] (sl true ⟨1, true⟩ dom_0), .val [] (.pt false () (.st [sl true ⟨1, true⟩ g_1])), .un, .un, .val [] (sl false ⟨1, false⟩ left_2), .val [] (sl false ⟨1, false⟩ next_8), .un, .val [] (i64 k_3), .val [] (tb lead_5), .un, .un, .un, .un, .ref 5 [] none 36 false, .val [] (i64 ((left_2.length : Nat) : Int)), .val [] (i64 v_7)] ++ uns 7 ++ [.val [] (sl true ⟨1, false⟩ v_4), .val [] (i64 ((v_4.length : Nat) : Int)), .val [] (i64 v_6)] ++ uns 36
noncomputable abbrev H31_2 (dom_0 : List TV) (g_1 : List TV) (left_2 : List TV) (next_8 : List TV) (k_3 : Int) (lead_5 : Bool) (v_7 : Int) (v_4 : List TV) (v_6 : Int) : Nd := .head [1, 1, 2, 5, 2, 1, 0, 1, 2, 5, 1, 1, 0, 2, 1, 1, 0, 1, 2] (EH31_2 dom_0 g_1 left_2 next_8 k_3 lead_5 v_7 v_4 v_6)
noncomputable abbrev B31_2 (dom_0 : List TV) (g_1 : List TV) (left_2 : List TV) (next_8 : List TV) (k_3 : Int) (lead_5 : Bool) (v_7 : Int) (v_4 : List TV) (v_6 : Int) : Nd := .back [1, 1, 2, 5, 2, 1, 0, 1, 2, 5, 1, 1, 0, 2, 1, 1, 0, 1, 2] (EH31_2 dom_0 g_1 left_2 next_8 k_3 lead_5 v_7 v_4 v_6)
noncomputable def N31 (g_0 : List TV) (dom_1 : List TV) : Nd :=
  C34 g_0 (-1) fun vs_8160 =>
  H31_0 dom_1 g_0 vs_8160
theorem e31 {g_0 : List TV} {dom_1 : List TV} {r : Res} (h : S cx 31 (N31 g_0 dom_1) = some r) : tw cx 31 [.st [sl true ⟨1, true⟩ g_0], sl true ⟨1, true⟩ dom_1] = some r :=
  tw_of (fun call hd hb pt rg => by kernel_rfl) h
noncomputable def NH31_0 (dom_0 : List TV) (g_1 : List TV) (left_2 : List TV) : Nd :=
  H31_1 dom_0 g_1 left_2 ([]) 0
theorem eH31_0 {dom_0 : List TV} {g_1 : List TV} {left_2 : List TV} {r : Res} (h : S cx 31 (NH31_0 dom_0 g_1 left_2) = some r) : S cx 31 (H31_0 dom_0 g_1 left_2) = some r :=
  hw_of (fun call hd hb pt rg => by kernel_rfl) h
noncomputable def NH31_1 (dom_0 : List TV) (g_1 : List TV) (left_2 : List TV) (next_4 : List TV) (v_3 : Int) : Nd :=
  .bif (decide (v_3 < ((left_2.length : Nat) : Int)))
  (.ck (decide ((0 : Int) ≤ v_3) && decide (v_3 < ((left_2.length : Nat) : Int))) <|
    .int .i64 (left_2.getD (0 + v_3.toNat) (.dead ())) fun x_c0fb =>
    .ck (decide ((0 : Int) ≤ x_c0fb) && decide (x_c0fb < ((g_1.length : Nat) : Int))) <|
    .slR ⟨1, false⟩ (g_1.getD (0 + x_c0fb.toNat) (.dead ())) fun xs_8ecf =>
    H31_2 dom_0 g_1 left_2 next_4 x_c0fb false v_3 xs_8ecf 0)
  (.bif ((((next_4.length : Nat) : Int) == ((left_2.length : Nat) : Int)))
    (.ret [tb (decide (((left_2.length : Nat) : Int) > 0))] [])
    (B31_0 dom_0 g_1 next_4))
theorem eH31_1 {dom_0 : List TV} {g_1 : List TV} {left_2 : List TV} {next_4 : List TV} {v_3 : Int} {r : Res} (h : S cx 31 (NH31_1 dom_0 g_1 left_2 next_4 v_3) = some r) : S cx 31 (H31_1 dom_0 g_1 left_2 next_4 v_3) = some r :=
  hw_of (fun call hd hb pt rg => by kernel_rfl) h
noncomputable def NH31_2 (dom_0 : List TV) (g_1 : List TV) (left_2 : List TV) (next_8 : List TV) (k_3 : Int) (lead_5 : Bool) (v_7 : Int) (v_4 : List TV) (v_6 : Int) : Nd :=
  .bif (decide (v_6 < ((v_4.length : Nat) : Int)))
  (.ck (decide ((0 : Int) ≤ v_6) && decide (v_6 < ((v_4.length : Nat) : Int))) <|
    .int .i64 (v_4.getD (0 + v_6.toNat) (.dead ())) fun x_8fa3 =>
    .bif (lead_5)
    (B31_2 dom_0 g_1 left_2 next_8 k_3 true v_7 v_4 (w64 (v_6 + 1)))
    (C35 left_2 x_8fa3 fun v_56cf =>
      .bif (v_56cf)
      (.ck (decide ((0 : Int) ≤ k_3) && decide (k_3 < ((dom_0.length : Nat) : Int))) <|
        .slR ⟨1, false⟩ (dom_0.getD (0 + k_3.toNat) (.dead ())) fun xs_77e3 =>
        C35 xs_77e3 x_8fa3 fun v_bf7c =>
        B31_2 dom_0 g_1 left_2 next_8 k_3 (!v_bf7c) v_7 v_4 (w64 (v_6 + 1)))
      (B31_2 dom_0 g_1 left_2 next_8 k_3 false v_7 v_4 (w64 (v_6 + 1)))))
  (.bif (lead_5)
    (.ck (decide ((next_8.length + ([i64 k_3] : List TV).length) * 8 < lim)) <|
      B31_1 dom_0 g_1 left_2 (next_8 ++ ([i64 k_3])) (w64 (v_7 + 1)))
    (B31_1 dom_0 g_1 left_2 next_8 (w64 (v_7 + 1))))
theorem eH31_2 {dom_0 : List TV} {g_1 : List TV} {left_2 : List TV} {next_8 : List TV} {k_3 : Int} {lead_5 : Bool} {v_7 : Int} {v_4 : List TV} {v_6 : Int} {r : Res} (h : S cx 31 (NH31_2 dom_0 g_1 left_2 next_8 k_3 lead_5 v_7 v_4 v_6) = some r) : S cx 31 (H31_2 dom_0 g_1 left_2 next_8 k_3 lead_5 v_7 v_4 v_6) = some r :=
  hw_of (fun call hd hb pt rg => by kernel_rfl) h
noncomputable def EH32_0 (n_0 : Int) (k_2 : Int) (l_1 : List TV) : Env := [.ref 48 [] none 36 false, .val [] (i64 n_0), .un, .un, .un, .val [] (i64 k_2)] ++ uns 42 ++ [.val [] (sl false ⟨1, false⟩ l_1), .un]
noncomputable abbrev H32_0 (n_0 : Int) (k_2 : Int) (l_1 : List TV) : Nd := .head [1, 1, 0, 2] (EH32_0 n_0 k_2 l_1)
noncomputable abbrev B32_0 (n_0 : Int) (k_2 : Int) (l_1 : List TV) : Nd := .back [1, 1, 0, 2] (EH32_0 n_0 k_2 l_1)
noncomputable def N32 (l_0 : List TV) (n_1 : Int) : Nd :=
  H32_0 n_1 0 l_0
theorem e32 {l_0 : List TV} {n_1 : Int} {r : Res} (h : S cx 32 (N32 l_0 n_1) = some r) : tw cx 32 [sl false ⟨1, false⟩ l_0, i64 n_1] = some r :=
  tw_of (fun call hd hb pt rg => by kernel_rfl) h
noncomputable def NH32_0_s0 (n_0 : Int) (k_2 : Int) (l_1 : List TV) : Nd :=
  .ck (decide ((0 : Int) ≤ k_2) && decide (k_2 ≤ ((l_1.length : Nat) : Int))) <|
  .ck (decide ((0 + ((l_1.drop 0).take ((k_2 - 0).toNat)).length) * 8 < lim)) <|
  .ck (decide (((([]) ++ ((l_1.drop 0).take ((k_2 - 0).toNat))).length + ([i64 n_0] : List TV).length) * 8 < lim)) <|
  .ck (decide ((0 : Int) ≤ k_2) && decide (k_2 ≤ ((l_1.length : Nat) : Int)) && decide (((l_1.length : Nat) : Int) ≤ ((l_1.length : Nat) : Int))) <|
  .ck (decide ((((([]) ++ ((l_1.drop 0).take ((k_2 - 0).toNat))) ++ ([i64 n_0])).length + ((l_1.drop (0 + k_2.toNat)).take ((((l_1.length : Nat) : Int) - k_2).toNat)).length) * 8 < lim)) <|
  .ret [sl false ⟨1, false⟩ (((([]) ++ ((l_1.drop 0).take ((k_2 - 0).toNat))) ++ ([i64 n_0])) ++ ((l_1.drop (0 + k_2.toNat)).take ((((l_1.length : Nat) : Int) - k_2).toNat)))] []
noncomputable def NH32_0 (n_0 : Int) (k_2 : Int) (l_1 : List TV) : Nd :=
  .bif (decide (k_2 < ((l_1.length : Nat) : Int)))
  (.ck (decide ((0 : Int) ≤ k_2) && decide (k_2 < ((l_1.length : Nat) : Int))) <|
    .int .i64 (l_1.getD (0 + k_2.toNat) (.dead ())) fun x_a5c5 =>
    .bif (decide (x_a5c5 < n_0))
    (B32_0 n_0 (w64 (k_2 + 1)) l_1)
    (.bif (decide (k_2 < ((l_1.length : Nat) : Int)))
      (.ck (decide ((0 : Int) ≤ k_2) && decide (k_2 < ((l_1.length : Nat) : Int))) <|
        .int .i64 (l_1.getD (0 + k_2.toNat) (.dead ())) fun x_a5c5_2 =>
        .bif ((x_a5c5_2 == n_0))
        (.ret [sl false ⟨1, false⟩ l_1] [])
        (NH32_0_s0 n_0 k_2 l_1))
      (NH32_0_s0 n_0 k_2 l_1)))
  (.bif (decide (k_2 < ((l_1.length : Nat) : Int)))
    (.ck (decide ((0 : Int) ≤ k_2) && decide (k_2 < ((l_1.length : Nat) : Int))) <|
      .int .i64 (l_1.getD (0 + k_2.toNat) (.dead ())) fun x_a5c5 =>
      .bif ((x_a5c5 == n_0))
      (.ret [sl false ⟨1, false⟩ l_1] [])
      (NH32_0_s0 n_0 k_2 l_1))
    (NH32_0_s0 n_0 k_2 l_1))
theorem eH32_0 {n_0 : Int} {k_2 : Int} {l_1 : List TV} {r : Res} (h : S cx 32 (NH32_0 n_0 k_2 l_1) = some r) : S cx 32 (H32_0 n_0 k_2 l_1) = some r :=
  hw_of (fun call hd hb pt rg => by kernel_rfl) h
noncomputable def EH33_0 (dom_0 : List TV) (k_1 : Int) (v_2 : List TV) (v_3 : Int) : Env := [.val [] (sl true ⟨1, true⟩ dom_0), .val [] (i64 k_1)] ++ uns 11 ++ [.val [] (sl true ⟨1, false⟩ v_2), .val [] (i64 ((v_2.length : Nat) : Int)), .val [] (i64 v_3)] ++ uns 35
noncomputable abbrev H33_0 (dom_0 : List TV) (k_1 : Int) (v_2 : List TV) (v_3 : Int) : Nd := .head [1, 0, 1, 2] (EH33_0 dom_0 k_1 v_2 v_3)
noncomputable abbrev B33_0 (dom_0 : List TV) (k_1 : Int) (v_2 : List TV) (v_3 : Int) : Nd := .back [1, 0, 1, 2] (EH33_0 dom_0 k_1 v_2 v_3)
noncomputable def EH33_1 (dom_0 : List TV) (k_1 : Int) (d_2 : Int) (near_5 : Bool) (v_3 : List TV) (v_7 : Int) (v_4 : List TV) (v_6 : Int) : Env := [.val [] (sl true ⟨1, true⟩ dom_0), .val [] (i64 k_1), .un, .un, .un, .un, .val [] (i64 d_2), .val [] (tb near_5), .un, .un, .un, .un, .un, .val [] (sl true ⟨1, false⟩ v_3), .val [] (i64 ((v_3.length : Nat) : Int)), .val [] (i64 v_7)] ++ uns 9 ++ [.val [] (sl true ⟨1, false⟩ v_4), .val [] (i64 ((v_4.length : Nat) : Int)), .val [] (i64 v_6)] ++ uns 23
noncomputable abbrev H33_1 (dom_0 : List TV) (k_1 : Int) (d_2 : Int) (near_5 : Bool) (v_3 : List TV) (v_7 : Int) (v_4 : List TV) (v_6 : Int) : Nd := .head [1, 0, 1, 2, 5, 1, 1, 0, 2, 1, 1, 0, 1, 2] (EH33_1 dom_0 k_1 d_2 near_5 v_3 v_7 v_4 v_6)
noncomputable abbrev B33_1 (dom_0 : List TV) (k_1 : Int) (d_2 : Int) (near_5 : Bool) (v_3 : List TV) (v_7 : Int) (v_4 : List TV) (v_6 : Int) : Nd := .back [1, 0, 1, 2, 5, 1, 1, 0, 2, 1, 1, 0, 1, 2] (EH33_1 dom_0 k_1 d_2 near_5 v_3 v_7 v_4 v_6)
noncomputable def N33 (dom_0 : List TV) (k_1 : Int) : Nd :=
  .ck (decide ((0 : Int) ≤ k_1) && decide (k_1 < ((dom_0.length : Nat) : Int))) <|
  .slR ⟨1, false⟩ (dom_0.getD (0 + k_1.toNat) (.dead ())) fun xs_dff3 =>
  H33_0 dom_0 k_1 xs_dff3 0
theorem e33 {dom_0 : List TV} {k_1 : Int} {r : Res} (h : S cx 33 (N33 dom_0 k_1) = some r) : tw cx 33 [sl true ⟨1, true⟩ dom_0, i64 k_1] = some r :=
  tw_of (fun call hd hb pt rg => by kernel_rfl) h
noncomputable def NH33_0 (dom_0 : List TV) (k_1 : Int) (v_2 : List TV) (v_3 : Int) : Nd :=
  .bif (decide (v_3 < ((v_2.length : Nat) : Int)))
  (.ck (decide ((0 : Int) ≤ v_3) && decide (v_3 < ((v_2.length : Nat) : Int))) <|
    .int .i64 (v_2.getD (0 + v_3.toNat) (.dead ())) fun x_f036 =>
    .ck (decide ((0 : Int) ≤ k_1) && decide (k_1 < ((dom_0.length : Nat) : Int))) <|
    .slR ⟨1, false⟩ (dom_0.getD (0 + k_1.toNat) (.dead ())) fun xs_dff3 =>
    H33_1 dom_0 k_1 x_f036 (x_f036 != k_1) v_2 v_3 xs_dff3 0)
  (.ret [i64 (-1)] [])
theorem eH33_0 {dom_0 : List TV} {k_1 : Int} {v_2 : List TV} {v_3 : Int} {r : Res} (h : S cx 33 (NH33_0 dom_0 k_1 v_2 v_3) = some r) : S cx 33 (H33_0 dom_0 k_1 v_2 v_3) = some r :=
  hw_of (fun call hd hb pt rg => by kernel_rfl) h
noncomputable def NH33_1 (dom_0 : List TV) (k_1 : Int) (d_2 : Int) (near_5 : Bool) (v_3 : List TV) (v_7 : Int) (v_4 : List TV) (v_6 : Int) : Nd :=
  .bif (decide (v_6 < ((v_4.length : Nat) : Int)))
  (.ck (decide ((0 : Int) ≤ v_6) && decide (v_6 < ((v_4.length : Nat) : Int))) <|
    .int .i64 (v_4.getD (0 + v_6.toNat) (.dead ())) fun x_8fa3 =>
    .bif (near_5)
    (.bif ((x_8fa3 == k_1))
      (B33_1 dom_0 k_1 d_2 true v_3 v_7 v_4 (w64 (v_6 + 1)))
      (.ck (decide ((0 : Int) ≤ d_2) && decide (d_2 < ((dom_0.length : Nat) : Int))) <|
        .slR ⟨1, false⟩ (dom_0.getD (0 + d_2.toNat) (.dead ())) fun xs_e1bf =>
        C35 xs_e1bf x_8fa3 fun v_bf92 =>
        B33_1 dom_0 k_1 d_2 v_bf92 v_3 v_7 v_4 (w64 (v_6 + 1))))
    (B33_1 dom_0 k_1 d_2 false v_3 v_7 v_4 (w64 (v_6 + 1))))
  (.bif (near_5)
    (.ret [i64 d_2] [])
    (B33_0 dom_0 k_1 v_3 (w64 (v_7 + 1))))
theorem eH33_1 {dom_0 : List TV} {k_1 : Int} {d_2 : Int} {near_5 : Bool} {v_3 : List TV} {v_7 : Int} {v_4 : List TV} {v_6 : Int} {r : Res} (h : S cx 33 (NH33_1 dom_0 k_1 d_2 near_5 v_3 v_7 v_4 v_6) = some r) : S cx 33 (H33_1 dom_0 k_1 d_2 near_5 v_3 v_7 v_4 v_6) = some r :=
  hw_of (fun call hd hb pt rg => by kernel_rfl) h
noncomputable def EH34_0 (gone_0 : Int) (g_1 : List TV) (seen_3 : List TV) (i_2 : Int) : Env := [.un, .val [] (i64 gone_0), .val [] (.pt false () (.st [sl true ⟨1, true⟩ g_1])), .un, .un, .val [] (sl false ⟨1, false⟩ seen_3), .val [] (i64 i_2)] ++ uns 41
noncomputable abbrev H34_0 (gone_0 : Int) (g_1 : List TV) (seen_3 : List TV) (i_2 : Int) : Nd := .head [1, 1, 1, 0, 1, 2] (EH34_0 gone_0 g_1 seen_3 i_2)
noncomputable abbrev B34_0 (gone_0 : Int) (g_1 : List TV) (seen_3 : List TV) (i_2 : Int) : Nd := .back [1, 1, 1, 0, 1, 2] (EH34_0 gone_0 g_1 seen_3 i_2)
noncomputable def EH34_1 (gone_0 : Int) (g_1 : List TV) (seen_3 : List TV) (i_5 : Int) (v_2 : List TV) (v_4 : Int) : Env := [.un, .val [] (i64 gone_0), .val [] (.pt false () (.st [sl true ⟨1, true⟩ g_1])), .un, .un, .val [] (sl false ⟨1, false⟩ seen_3), .val [] (i64 i_5)] ++ uns 18 ++ [.val [] (sl true ⟨1, false⟩ v_2), .val [] (i64 ((v_2.length : Nat) : Int)), .val [] (i64 v_4)] ++ uns 20
noncomputable abbrev H34_1 (gone_0 : Int) (g_1 : List TV) (seen_3 : List TV) (i_5 : Int) (v_2 : List TV) (v_4 : Int) : Nd := .head [1, 1, 1, 0, 1, 2, 5, 1, 0, 2, 1, 2] (EH34_1 gone_0 g_1 seen_3 i_5 v_2 v_4)
noncomputable abbrev B34_1 (gone_0 : Int) (g_1 : List TV) (seen_3 : List TV) (i_5 : Int) (v_2 : List TV) (v_4 : Int) : Nd := .back [1, 1, 1, 0, 1, 2, 5, 1, 0, 2, 1, 2] (EH34_1 gone_0 g_1 seen_3 i_5 v_2 v_4)
noncomputable def N34 (g_0 : List TV) (gone_1 : Int) : Nd :=
  .bif ((gone_1 == 0))
  (.ret [sl false ⟨1, false⟩ ([])] [])
  (H34_0 gone_1 g_0 ([i64 0]) 0)
theorem e34 {g_0 : List TV} {gone_1 : Int} {r : Res} (h : S cx 34 (N34 g_0 gone_1) = some r) : tw cx 34 [.st [sl true ⟨1, true⟩ g_0], i64 gone_1] = some r :=
  tw_of (fun call hd hb pt rg => by kernel_rfl) h
noncomputable def NH34_0 (gone_0 : Int) (g_1 : List TV) (seen_3 : List TV) (i_2 : Int) : Nd :=
  .bif (decide (i_2 < ((seen_3.length : Nat) : Int)))
  (.ck (decide ((0 : Int) ≤ i_2) && decide (i_2 < ((seen_3.length : Nat) : Int))) <|
    .int .i64 (seen_3.getD (0 + i_2.toNat) (.dead ())) fun x_1201 =>
    .ck (decide ((0 : Int) ≤ x_1201) && decide (x_1201 < ((g_1.length : Nat) : Int))) <|
    .slR ⟨1, false⟩ (g_1.getD (0 + x_1201.toNat) (.dead ())) fun xs_0bc5 =>
    H34_1 gone_0 g_1 seen_3 i_2 xs_0bc5 0)
  (.ret [sl false ⟨1, false⟩ seen_3] [])
theorem eH34_0 {gone_0 : Int} {g_1 : List TV} {seen_3 : List TV} {i_2 : Int} {r : Res} (h : S cx 34 (NH34_0 gone_0 g_1 seen_3 i_2) = some r) : S cx 34 (H34_0 gone_0 g_1 seen_3 i_2) = some r :=
  hw_of (fun call hd hb pt rg => by kernel_rfl) h
noncomputable def NH34_1 (gone_0 : Int) (g_1 : List TV) (seen_3 : List TV) (i_5 : Int) (v_2 : List TV) (v_4 : Int) : Nd :=
  .bif (decide (v_4 < ((v_2.length : Nat) : Int)))
  (.ck (decide ((0 : Int) ≤ v_4) && decide (v_4 < ((v_2.length : Nat) : Int))) <|
    .int .i64 (v_2.getD (0 + v_4.toNat) (.dead ())) fun x_3136 =>
    .bif ((x_3136 != gone_0))
    (C35 seen_3 x_3136 fun v_414d =>
      .bif ((!v_414d))
      (.ck (decide ((seen_3.length + ([i64 x_3136] : List TV).length) * 8 < lim)) <|
        B34_1 gone_0 g_1 (seen_3 ++ ([i64 x_3136])) i_5 v_2 (w64 (v_4 + 1)))
      (B34_1 gone_0 g_1 seen_3 i_5 v_2 (w64 (v_4 + 1))))
    (B34_1 gone_0 g_1 seen_3 i_5 v_2 (w64 (v_4 + 1))))
  (B34_0 gone_0 g_1 seen_3 (w64 (i_5 + 1)))
theorem eH34_1 {gone_0 : Int} {g_1 : List TV} {seen_3 : List TV} {i_5 : Int} {v_2 : List TV} {v_4 : Int} {r : Res} (h : S cx 34 (NH34_1 gone_0 g_1 seen_3 i_5 v_2 v_4) = some r) : S cx 34 (H34_1 gone_0 g_1 seen_3 i_5 v_2 v_4) = some r :=
  hw_of (fun call hd hb pt rg => by kernel_rfl) h
noncomputable def EH35_0 (n_0 : Int) (v_1 : List TV) (v_2 : Int) : Env := [.un, .val [] (i64 n_0), .un, .un, .un, .un, .un, .val [] (sl true ⟨1, false⟩ v_1), .val [] (i64 ((v_1.length : Nat) : Int)), .val [] (i64 v_2)] ++ uns 9
noncomputable abbrev H35_0 (n_0 : Int) (v_1 : List TV) (v_2 : Int) : Nd := .head [1, 0, 1, 2] (EH35_0 n_0 v_1 v_2)
noncomputable abbrev B35_0 (n_0 : Int) (v_1 : List TV) (v_2 : Int) : Nd := .back [1, 0, 1, 2] (EH35_0 n_0 v_1 v_2)
noncomputable def N35 (l_0 : List TV) (n_1 : Int) : Nd :=
  H35_0 n_1 l_0 0
theorem e35 {l_0 : List TV} {n_1 : Int} {r : Res} (h : S cx 35 (N35 l_0 n_1) = some r) : tw cx 35 [sl true ⟨1, false⟩ l_0, i64 n_1] = some r :=
  tw_of (fun call hd hb pt rg => by kernel_rfl) h
noncomputable def NH35_0 (n_0 : Int) (v_1 : List TV) (v_2 : Int) : Nd :=
  .bif (decide (v_2 < ((v_1.length : Nat) : Int)))
  (.ck (decide ((0 : Int) ≤ v_2) && decide (v_2 < ((v_1.length : Nat) : Int))) <|
    .int .i64 (v_1.getD (0 + v_2.toNat) (.dead ())) fun x_e2fd =>
    .bif ((x_e2fd == n_0))
    (.ret [tb true] [])
    (B35_0 n_0 v_1 (w64 (v_2 + 1))))
  (.ret [tb false] [])
theorem eH35_0 {n_0 : Int} {v_1 : List TV} {v_2 : Int} {r : Res} (h : S cx 35 (NH35_0 n_0 v_1 v_2) = some r) : S cx 35 (H35_0 n_0 v_1 v_2) = some r :=
  hw_of (fun call hd hb pt rg => by kernel_rfl) h
noncomputable def EH36_0 (k_0 : Int) (order_1 : List TV) (g_2 : List TV) (v_3 : List TV) (v_5 : Int) (seen_4 : List TV) : Env := [.un, .val [] (i64 k_0), .ref 41 [] none 68 false, .val [] (sl true ⟨1, false⟩ order_1), .val [] (.pt false () (.st [sl true ⟨1, true⟩ g_2]))] ++ uns 13 ++ [.val [] (sl true ⟨1, false⟩ v_3), .val [] (i64 ((v_3.length : Nat) : Int)), .val [] (i64 v_5)] ++ uns 20 ++ [.val [] (sl false ⟨1, false⟩ seen_4), .un]
noncomputable abbrev H36_0 (k_0 : Int) (order_1 : List TV) (g_2 : List TV) (v_3 : List TV) (v_5 : Int) (seen_4 : List TV) : Nd := .head [1, 1, 0, 1, 2] (EH36_0 k_0 order_1 g_2 v_3 v_5 seen_4)
noncomputable abbrev B36_0 (k_0 : Int) (order_1 : List TV) (g_2 : List TV) (v_3 : List TV) (v_5 : Int) (seen_4 : List TV) : Nd := .back [1, 1, 0, 1, 2] (EH36_0 k_0 order_1 g_2 v_3 v_5 seen_4)
noncomputable def EH36_1 (k_0 : Int) (order_1 : List TV) (g_2 : List TV) (v_3 : List TV) (v_5 : Int) (seen_4 : List TV) : Env := [.un, .val [] (i64 k_0), .ref 41 [] none 68 false, .val [] (sl false ⟨1, false⟩ order_1), .val [] (.pt false () (.st [sl true ⟨1, true⟩ g_2]))] ++ uns 13 ++ [.val [] (sl true ⟨1, false⟩ v_3), .val [] (i64 ((v_3.length : Nat) : Int)), .val [] (i64 v_5)] ++ uns 20 ++ [.val [] (sl false ⟨1, false⟩ seen_4), .un]
noncomputable abbrev H36_1 (k_0 : Int) (order_1 : List TV) (g_2 : List TV) (v_3 : List TV) (v_5 : Int) (seen_4 : List TV) : Nd := .head [1, 1, 0, 1, 2] (EH36_1 k_0 order_1 g_2 v_3 v_5 seen_4)
noncomputable abbrev B36_1 (k_0 : Int) (order_1 : List TV) (g_2 : List TV) (v_3 : List TV) (v_5 : Int) (seen_4 : List TV) : Nd := .back [1, 1, 0, 1, 2] (EH36_1 k_0 order_1 g_2 v_3 v_5 seen_4)
noncomputable def N36 (g_0 : List TV) (k_1 : Int) (seen_2 : List TV) (order_3 : List TV) : Nd :=
  .ck (decide ((0 : Int) ≤ k_1) && decide (k_1 < ((seen_2.length : Nat) : Int))) <|
  .ck (decide ((0 : Int) ≤ k_1) && decide (k_1 < ((g_0.length : Nat) : Int))) <|
  .slR ⟨1, false⟩ (g_0.getD (0 + k_1.toNat) (.dead ())) fun xs_e339 =>
  H36_0 k_1 order_3 g_0 xs_e339 0 (seen_2.set (0 + k_1.toNat) (tb true))
theorem e36 {g_0 : List TV} {k_1 : Int} {seen_2 : List TV} {order_3 : List TV} {r : Res} (h : S cx 36 (N36 g_0 k_1 seen_2 order_3) = some r) : tw cx 36 [.st [sl true ⟨1, true⟩ g_0], i64 k_1, sl false ⟨1, false⟩ seen_2, sl true ⟨1, false⟩ order_3] = some r :=
  tw_of (fun call hd hb pt rg => by kernel_rfl) h
noncomputable def NH36_0 (k_0 : Int) (order_1 : List TV) (g_2 : List TV) (v_3 : List TV) (v_5 : Int) (seen_4 : List TV) : Nd :=
  .bif (decide (v_5 < ((v_3.length : Nat) : Int)))
  (.ck (decide ((0 : Int) ≤ v_5) && decide (v_5 < ((v_3.length : Nat) : Int))) <|
    .int .i64 (v_3.getD (0 + v_5.toNat) (.dead ())) fun x_b925 =>
    .ck (decide ((0 : Int) ≤ x_b925) && decide (x_b925 < ((seen_4.length : Nat) : Int))) <|
    .bool (seen_4.getD (0 + x_b925.toNat) (.dead ())) fun x_86e1 =>
    .bif ((!x_86e1))
    (C36 g_2 x_b925 seen_4 order_1 fun vs_645b vs_aa38 =>
      B36_1 k_0 vs_645b g_2 v_3 (w64 (v_5 + 1)) vs_aa38)
    (B36_0 k_0 order_1 g_2 v_3 (w64 (v_5 + 1)) seen_4))
  (.ck (decide ((([i64 k_0] : List TV).length + order_1.length) * 8 < lim)) <|
    .ret [sl false ⟨1, false⟩ (([i64 k_0]) ++ order_1)] [sl false ⟨1, false⟩ seen_4])
theorem eH36_0 {k_0 : Int} {order_1 : List TV} {g_2 : List TV} {v_3 : List TV} {v_5 : Int} {seen_4 : List TV} {r : Res} (h : S cx 36 (NH36_0 k_0 order_1 g_2 v_3 v_5 seen_4) = some r) : S cx 36 (H36_0 k_0 order_1 g_2 v_3 v_5 seen_4) = some r :=
  hw_of (fun call hd hb pt rg => by kernel_rfl) h
noncomputable def NH36_1 (k_0 : Int) (order_1 : List TV) (g_2 : List TV) (v_3 : List TV) (v_5 : Int) (seen_4 : List TV) : Nd :=
  .bif (decide (v_5 < ((v_3.length : Nat) : Int)))
  (.ck (decide ((0 : Int) ≤ v_5) && decide (v_5 < ((v_3.length : Nat) : Int))) <|
    .int .i64 (v_3.getD (0 + v_5.toNat) (.dead ())) fun x_b925 =>
    .ck (decide ((0 : Int) ≤ x_b925) && decide (x_b925 < ((seen_4.length : Nat) : Int))) <|
    .bool (seen_4.getD (0 + x_b925.toNat) (.dead ())) fun x_86e1 =>
    .bif ((!x_86e1))
    (C36 g_2 x_b925 seen_4 order_1 fun vs_645b vs_aa38 =>
      B36_1 k_0 vs_645b g_2 v_3 (w64 (v_5 + 1)) vs_aa38)
    (B36_1 k_0 order_1 g_2 v_3 (w64 (v_5 + 1)) seen_4))
  (.ck (decide ((([i64 k_0] : List TV).length + order_1.length) * 8 < lim)) <|
    .ret [sl false ⟨1, false⟩ (([i64 k_0]) ++ order_1)] [sl false ⟨1, false⟩ seen_4])
theorem eH36_1 {k_0 : Int} {order_1 : List TV} {g_2 : List TV} {v_3 : List TV} {v_5 : Int} {seen_4 : List TV} {r : Res} (h : S cx 36 (NH36_1 k_0 order_1 g_2 v_3 v_5 seen_4) = some r) : S cx 36 (H36_1 k_0 order_1 g_2 v_3 v_5 seen_4) = some r :=
  hw_of (fun call hd hb pt rg => by kernel_rfl) h
noncomputable def EH37_0 (a_0 : List TV) (out_1 : List TV) (i_2 : Int) : Env := [.val [] (sl true ⟨6, false⟩ a_0), .un, .un, .val [] (sl false ⟨6, false⟩ out_1), .val [] (i64 i_2)] ++ uns 19
noncomputable abbrev H37_0 (a_0 : List TV) (out_1 : List TV) (i_2 : Int) : Nd := .head [1, 1, 0, 1, 2] (EH37_0 a_0 out_1 i_2)
noncomputable abbrev B37_0 (a_0 : List TV) (out_1 : List TV) (i_2 : Int) : Nd := .back [1, 1, 0, 1, 2] (EH37_0 a_0 out_1 i_2)
noncomputable def N37 (a_0 : List TV) : Nd :=
  .ck (decide ((0 : Int) ≤ ((a_0.length : Nat) : Int)) && decide (((a_0.length : Nat) : Int) ≤ ((a_0.length : Nat) : Int)) && decide (((a_0.length : Nat) : Int) * 48 < (lim : Int)) && decide (((a_0.length : Nat) : Int) < 9223372036854775807) && true && true) <|
  H37_0 a_0 (List.replicate (((a_0.length : Nat) : Int).toNat) (.st [i64 0, i64 0, i64 0, i64 0, i64 0, i64 0])) 0
theorem e37 {a_0 : List TV} {r : Res} (h : S cx 37 (N37 a_0) = some r) : tw cx 37 [sl true ⟨6, false⟩ a_0] = some r :=
  tw_of (fun call hd hb pt rg => by kernel_rfl) h
noncomputable def NH37_0 (a_0 : List TV) (out_1 : List TV) (i_2 : Int) : Nd :=
  .bif (decide (i_2 < ((a_0.length : Nat) : Int)))
  (.ck (decide ((0 : Int) ≤ i_2) && decide (i_2 < ((a_0.length : Nat) : Int))) <|
    V6 (a_0.getD (0 + i_2.toNat) (.dead ())) fun op_e85d do_3fec dst_ffe3 a_68fc b_0250 n_1558 =>
    C50 op_e85d do_3fec dst_ffe3 a_68fc b_0250 n_1558 fun op_ebbc do_52b1 dst_5db7 a_e6ab b_31e4 n_290a =>
    .ck (decide ((0 : Int) ≤ i_2) && decide (i_2 < ((out_1.length : Nat) : Int))) <|
    B37_0 a_0 (out_1.set (0 + i_2.toNat) (.st [i64 op_ebbc, i64 do_52b1, i64 dst_5db7, i64 a_e6ab, i64 b_31e4, i64 n_290a])) (w64 (i_2 + 1)))
  (.ret [sl false ⟨6, false⟩ out_1] [])
theorem eH37_0 {a_0 : List TV} {out_1 : List TV} {i_2 : Int} {r : Res} (h : S cx 37 (NH37_0 a_0 out_1 i_2) = some r) : S cx 37 (H37_0 a_0 out_1 i_2) = some r :=
  hw_of (fun call hd hb pt rg => by kernel_rfl) h
noncomputable def EH38_0 (a_0 : List TV) (out_1 : List TV) (i_2 : Int) : Env := [.val [] (sl true ⟨1, false⟩ a_0), .un, .un, .val [] (sl false ⟨1, false⟩ out_1), .val [] (i64 i_2)] ++ uns 18
noncomputable abbrev H38_0 (a_0 : List TV) (out_1 : List TV) (i_2 : Int) : Nd := .head [1, 1, 0, 1, 2] (EH38_0 a_0 out_1 i_2)
noncomputable abbrev B38_0 (a_0 : List TV) (out_1 : List TV) (i_2 : Int) : Nd := .back [1, 1, 0, 1, 2] (EH38_0 a_0 out_1 i_2)
noncomputable def N38 (a_0 : List TV) : Nd :=
  .ck (decide ((0 : Int) ≤ ((a_0.length : Nat) : Int)) && decide (((a_0.length : Nat) : Int) ≤ ((a_0.length : Nat) : Int)) && decide (((a_0.length : Nat) : Int) * 8 < (lim : Int)) && decide (((a_0.length : Nat) : Int) < 9223372036854775807) && true && true) <|
  H38_0 a_0 (List.replicate (((a_0.length : Nat) : Int).toNat) (i64 0)) 0
theorem e38 {a_0 : List TV} {r : Res} (h : S cx 38 (N38 a_0) = some r) : tw cx 38 [sl true ⟨1, false⟩ a_0] = some r :=
  tw_of (fun call hd hb pt rg => by kernel_rfl) h
noncomputable def NH38_0 (a_0 : List TV) (out_1 : List TV) (i_2 : Int) : Nd :=
  .bif (decide (i_2 < ((a_0.length : Nat) : Int)))
  (.ck (decide ((0 : Int) ≤ i_2) && decide (i_2 < ((a_0.length : Nat) : Int))) <|
    .int .i64 (a_0.getD (0 + i_2.toNat) (.dead ())) fun x_3db5 =>
    .ck (decide ((0 : Int) ≤ i_2) && decide (i_2 < ((out_1.length : Nat) : Int))) <|
    B38_0 a_0 (out_1.set (0 + i_2.toNat) (i64 x_3db5)) (w64 (i_2 + 1)))
  (.ret [sl false ⟨1, false⟩ out_1] [])
theorem eH38_0 {a_0 : List TV} {out_1 : List TV} {i_2 : Int} {r : Res} (h : S cx 38 (NH38_0 a_0 out_1 i_2) = some r) : S cx 38 (H38_0 a_0 out_1 i_2) = some r :=
  hw_of (fun call hd hb pt rg => by kernel_rfl) h
noncomputable def N39 (f_0 : List TV) : Nd :=
  C51 ((f_0.length : Nat) : Int) 1 64 fun v_bf96 =>
  .bif ((!v_bf96))
  (.ret [tb false] [])
  (C52 f_0 f_0 fun v_1628 =>
    .ret [tb (!v_1628)] [])
theorem e39 {f_0 : List TV} {r : Res} (h : S cx 39 (N39 f_0) = some r) : tw cx 39 [sl true ⟨4, true⟩ f_0] = some r :=
  tw_of (fun call hd hb pt rg => by kernel_rfl) h
noncomputable def EH40_0 (f_0 : List TV) (v_1 : Int) : Env := [.val [] (sl true ⟨4, true⟩ f_0)] ++ uns 14 ++ [.val [] (sl true ⟨4, true⟩ f_0), .val [] (i64 ((f_0.length : Nat) : Int)), .val [] (i64 v_1)] ++ uns 18
noncomputable abbrev H40_0 (f_0 : List TV) (v_1 : Int) : Nd := .head [1, 1, 0, 1, 2] (EH40_0 f_0 v_1)
noncomputable abbrev B40_0 (f_0 : List TV) (v_1 : Int) : Nd := .back [1, 1, 0, 1, 2] (EH40_0 f_0 v_1)
noncomputable def N40 (f_0 : List TV) : Nd :=
  .bif (decide (((f_0.length : Nat) : Int) > 12))
  (.ret [tb false] [])
  (C42 f_0 fun vs_8950 =>
    C57 vs_8950 0 ([]) fun vs_a93e =>
    C56 vs_a93e false fun v_1ab2 =>
    .bif (v_1ab2)
    (.ret [tb false] [])
    (H40_0 f_0 0))
theorem e40 {f_0 : List TV} {r : Res} (h : S cx 40 (N40 f_0) = some r) : tw cx 40 [sl true ⟨4, true⟩ f_0] = some r :=
  tw_of (fun call hd hb pt rg => by kernel_rfl) h
noncomputable def NH40_0 (f_0 : List TV) (v_1 : Int) : Nd :=
  .bif (decide (v_1 < ((f_0.length : Nat) : Int)))
  (.ck (decide ((0 : Int) ≤ v_1) && decide (v_1 < ((f_0.length : Nat) : Int))) <|
    V4 (f_0.getD (0 + v_1.toNat) (.dead ())) fun codes_4fee go_d0b0 test_d8b3 nexts_a1b5 =>
    C58 codes_4fee fun v_edff =>
    .bif ((!v_edff))
    (.ret [tb false] [])
    (.bif (decide (test_d8b3 ≥ 8))
      (.ret [tb false] [])
      (B40_0 f_0 (w64 (v_1 + 1)))))
  (C42 f_0 fun vs_8950 =>
    C41 vs_8950 fun nexts_f3b8 =>
    C59 nexts_f3b8 fun v_0afe =>
    .ret [tb v_0afe] [])
theorem eH40_0 {f_0 : List TV} {v_1 : Int} {r : Res} (h : S cx 40 (NH40_0 f_0 v_1) = some r) : S cx 40 (H40_0 f_0 v_1) = some r :=
  hw_of (fun call hd hb pt rg => by kernel_rfl) h
noncomputable def EH41_0 (out_1 : List TV) (v_0 : List TV) (v_2 : Int) : Env := [.un, .un, .val [] (.pt false () (.st [sl false ⟨1, true⟩ ([])])), .val [] (.pt false () (.st [sl false ⟨1, true⟩ out_1])), .un, .un, .un, .un, .un, .un, .val [] (sl true ⟨1, true⟩ v_0), .val [] (i64 ((v_0.length : Nat) : Int)), .val [] (i64 v_2)] ++ uns 17
noncomputable abbrev H41_0 (out_1 : List TV) (v_0 : List TV) (v_2 : Int) : Nd := .head [1, 1, 0, 1, 2] (EH41_0 out_1 v_0 v_2)
noncomputable abbrev B41_0 (out_1 : List TV) (v_0 : List TV) (v_2 : Int) : Nd := .back [1, 1, 0, 1, 2] (EH41_0 out_1 v_0 v_2)
noncomputable def N41 (next_0 : List TV) : Nd :=
  .ck (decide ((0 : Int) ≤ ((next_0.length : Nat) : Int)) && decide (((next_0.length : Nat) : Int) ≤ ((next_0.length : Nat) : Int)) && decide (((next_0.length : Nat) : Int) * 24 < (lim : Int)) && decide (((next_0.length : Nat) : Int) < 9223372036854775807) && true && true) <|
  H41_0 (List.replicate (((next_0.length : Nat) : Int).toNat) (sl false ⟨1, false⟩ ([]))) next_0 0
theorem e41 {next_0 : List TV} {r : Res} (h : S cx 41 (N41 next_0) = some r) : tw cx 41 [sl true ⟨1, true⟩ next_0] = some r :=
  tw_of (fun call hd hb pt rg => by kernel_rfl) h
noncomputable def NH41_0_s0 (out_1 : List TV) (v_0 : List TV) (v_2 : Int) (vs_a7fb : List TV) : Nd :=
  C62 vs_a7fb fun vs_d9bb =>
  .ck (decide ((0 : Int) ≤ v_2) && decide (v_2 < ((out_1.length : Nat) : Int))) <|
  B41_0 (out_1.set (0 + v_2.toNat) (sl true ⟨1, false⟩ vs_d9bb)) v_0 (w64 (v_2 + 1))
noncomputable def NH41_0 (out_1 : List TV) (v_0 : List TV) (v_2 : Int) : Nd :=
  .bif (decide (v_2 < ((v_0.length : Nat) : Int)))
  (.ck (decide ((0 : Int) ≤ v_2) && decide (v_2 < ((v_0.length : Nat) : Int))) <|
    .slR ⟨1, false⟩ (v_0.getD (0 + v_2.toNat) (.dead ())) fun xs_c8c8 =>
    C60 xs_c8c8 fun vs_0f49 =>
    C61 vs_0f49 fun vs_a7fb =>
    .amb2 
    (NH41_0_s0 out_1 v_0 v_2 vs_a7fb) 
    (NH41_0_s0 out_1 v_0 v_2 vs_a7fb))
  (.ret [.st [sl false ⟨1, true⟩ out_1]] [])
theorem eH41_0 {out_1 : List TV} {v_0 : List TV} {v_2 : Int} {r : Res} (h : S cx 41 (NH41_0 out_1 v_0 v_2) = some r) : S cx 41 (H41_0 out_1 v_0 v_2) = some r :=
  hw_of (fun call hd hb pt rg => by kernel_rfl) h
noncomputable def EH42_0 (out_1 : List TV) (v_0 : List TV) (v_2 : Int) : Env := [.un, .un, .un, .val [] (sl false ⟨1, true⟩ out_1), .un, .un, .un, .un, .un, .val [] (sl true ⟨4, true⟩ v_0), .val [] (i64 ((v_0.length : Nat) : Int)), .val [] (i64 v_2)] ++ uns 12
noncomputable abbrev H42_0 (out_1 : List TV) (v_0 : List TV) (v_2 : Int) : Nd := .head [1, 1, 0, 1, 2] (EH42_0 out_1 v_0 v_2)
noncomputable abbrev B42_0 (out_1 : List TV) (v_0 : List TV) (v_2 : Int) : Nd := .back [1, 1, 0, 1, 2] (EH42_0 out_1 v_0 v_2)
noncomputable def N42 (f_0 : List TV) : Nd :=
  .ck (decide ((0 : Int) ≤ ((f_0.length : Nat) : Int)) && decide (((f_0.length : Nat) : Int) ≤ ((f_0.length : Nat) : Int)) && decide (((f_0.length : Nat) : Int) * 24 < (lim : Int)) && decide (((f_0.length : Nat) : Int) < 9223372036854775807) && true && true) <|
  H42_0 (List.replicate (((f_0.length : Nat) : Int).toNat) (sl false ⟨1, false⟩ ([]))) f_0 0
theorem e42 {f_0 : List TV} {r : Res} (h : S cx 42 (N42 f_0) = some r) : tw cx 42 [sl true ⟨4, true⟩ f_0] = some r :=
  tw_of (fun call hd hb pt rg => by kernel_rfl) h
noncomputable def NH42_0 (out_1 : List TV) (v_0 : List TV) (v_2 : Int) : Nd :=
  .bif (decide (v_2 < ((v_0.length : Nat) : Int)))
  (.ck (decide ((0 : Int) ≤ v_2) && decide (v_2 < ((v_0.length : Nat) : Int))) <|
    V4 (v_0.getD (0 + v_2.toNat) (.dead ())) fun codes_cad5 go_acbc test_a22b nexts_e1c3 =>
    .ck (decide ((0 : Int) ≤ v_2) && decide (v_2 < ((out_1.length : Nat) : Int))) <|
    B42_0 (out_1.set (0 + v_2.toNat) (sl true ⟨1, false⟩ nexts_e1c3)) v_0 (w64 (v_2 + 1)))
  (.ret [sl false ⟨1, true⟩ out_1] [])
theorem eH42_0 {out_1 : List TV} {v_0 : List TV} {v_2 : Int} {r : Res} (h : S cx 42 (NH42_0 out_1 v_0 v_2) = some r) : S cx 42 (H42_0 out_1 v_0 v_2) = some r :=
  hw_of (fun call hd hb pt rg => by kernel_rfl) h
noncomputable def EG44_0 (next_0 : List TV) (all_1 : List TV) : Env := [.val [] (sl true ⟨1, true⟩ next_0), .un, .un, .val [] (sl false ⟨1, true⟩ (List.replicate (((next_0.length : Nat) : Int).toNat) (sl false ⟨1, false⟩ ([])))), .val [] (sl false ⟨1, false⟩ all_1)] ++ uns 61
noncomputable abbrev G44_0 (next_0 : List TV) (all_1 : List TV) : Nd := .go [1, 1] (EG44_0 next_0 all_1)
noncomputable def EH44_1 (next_0 : List TV) (out_2 : List TV) (all_1 : List TV) (v_3 : Int) : Env := [.val [] (sl true ⟨1, true⟩ next_0), .un, .un, .val [] (sl false ⟨1, true⟩ out_2), .val [] (sl false ⟨1, false⟩ all_1)] ++ uns 11 ++ [.val [] (i64 (((List.replicate (((next_0.length : Nat) : Int).toNat) (sl false ⟨1, false⟩ ([]))).length : Nat) : Int)), .val [] (i64 v_3)] ++ uns 48
noncomputable abbrev H44_1 (next_0 : List TV) (out_2 : List TV) (all_1 : List TV) (v_3 : Int) : Nd := .head [1, 1, 0, 1, 2] (EH44_1 next_0 out_2 all_1 v_3)
noncomputable abbrev B44_1 (next_0 : List TV) (out_2 : List TV) (all_1 : List TV) (v_3 : Int) : Nd := .back [1, 1, 0, 1, 2] (EH44_1 next_0 out_2 all_1 v_3)
noncomputable def EH44_2 (next_0 : List TV) (out_3 : List TV) (all_1 : List TV) (v_2 : Int) : Env := [.val [] (sl true ⟨1, true⟩ next_0), .un, .un, .val [] (sl false ⟨1, true⟩ out_3), .val [] (sl false ⟨1, false⟩ all_1)] ++ uns 22 ++ [.ref 4 [] none 68 false, .val [] (i64 ((all_1.length : Nat) : Int)), .val [] (i64 v_2)] ++ uns 36
noncomputable abbrev H44_2 (next_0 : List TV) (out_3 : List TV) (all_1 : List TV) (v_2 : Int) : Nd := .head [1, 1, 1, 0, 1, 2] (EH44_2 next_0 out_3 all_1 v_2)
noncomputable abbrev B44_2 (next_0 : List TV) (out_3 : List TV) (all_1 : List TV) (v_2 : Int) : Nd := .back [1, 1, 1, 0, 1, 2] (EH44_2 next_0 out_3 all_1 v_2)
noncomputable def EH44_3 (next_0 : List TV) (out_3 : List TV) (all_1 : List TV) (k_5 : Int) (left_2 : List TV) (v_6 : Int) (v_7 : Int) (v_4 : Int) : Env := [.val [] (sl true ⟨1, true⟩ next_0), .un, .un, .val [] (sl false ⟨1, true⟩ out_3), .val [] (sl false ⟨1, false⟩ all_1), .un, .val [] (i64 k_5), .un, .val [] (sl false ⟨1, false⟩ left_2)] ++ uns 18 ++ [.ref 4 [] none 68 false, .val [] (i64 ((all_1.length : Nat) : Int)), .val [] (i64 v_6)] ++ uns 11 ++ [.val [] (i64 v_7), .val [] (i64 v_4)] ++ uns 23
noncomputable abbrev H44_3 (next_0 : List TV) (out_3 : List TV) (all_1 : List TV) (k_5 : Int) (left_2 : List TV) (v_6 : Int) (v_7 : Int) (v_4 : Int) : Nd := .head [1, 1, 1, 0, 1, 2, 5, 1, 1, 0, 2, 1, 1, 1, 1, 2] (EH44_3 next_0 out_3 all_1 k_5 left_2 v_6 v_7 v_4)
noncomputable abbrev B44_3 (next_0 : List TV) (out_3 : List TV) (all_1 : List TV) (k_5 : Int) (left_2 : List TV) (v_6 : Int) (v_7 : Int) (v_4 : Int) : Nd := .back [1, 1, 1, 0, 1, 2, 5, 1, 1, 0, 2, 1, 1, 1, 1, 2] (EH44_3 next_0 out_3 all_1 k_5 left_2 v_6 v_7 v_4)
noncomputable def N44 (next_0 : List TV) : Nd :=
  .amb2 
  (.ck (decide ((0 : Int) ≤ ((next_0.length : Nat) : Int)) && decide (((next_0.length : Nat) : Int) ≤ ((next_0.length : Nat) : Int)) && decide (((next_0.length : Nat) : Int) * 24 < (lim : Int)) && decide (((next_0.length : Nat) : Int) < 9223372036854775807) && true && true) <|
    C57 next_0 0 ([]) fun vs_baf7 =>
    G44_0 next_0 vs_baf7) 
  (C57 next_0 0 ([]) fun vs_baf7 =>
    .ck (decide ((0 : Int) ≤ ((next_0.length : Nat) : Int)) && decide (((next_0.length : Nat) : Int) ≤ ((next_0.length : Nat) : Int)) && decide (((next_0.length : Nat) : Int) * 24 < (lim : Int)) && decide (((next_0.length : Nat) : Int) < 9223372036854775807) && true && true) <|
    G44_0 next_0 vs_baf7)
theorem e44 {next_0 : List TV} {r : Res} (h : S cx 44 (N44 next_0) = some r) : tw cx 44 [sl true ⟨1, true⟩ next_0] = some r :=
  tw_of (fun call hd hb pt rg => by kernel_rfl) h
noncomputable def NG44_0 (next_0 : List TV) (all_1 : List TV) : Nd :=
  H44_1 next_0 (List.replicate (((next_0.length : Nat) : Int).toNat) (sl false ⟨1, false⟩ ([]))) all_1 0
theorem eG44_0 {next_0 : List TV} {all_1 : List TV} {r : Res} (h : S cx 44 (NG44_0 next_0 all_1) = some r) : S cx 44 (G44_0 next_0 all_1) = some r :=
  pw_of (fun call hd hb pt rg => by kernel_rfl) h
noncomputable def NH44_1 (next_0 : List TV) (out_2 : List TV) (all_1 : List TV) (v_3 : Int) : Nd :=
  .bif (decide (v_3 < (((List.replicate (((next_0.length : Nat) : Int).toNat) (sl false ⟨1, false⟩ ([]))).length : Nat) : Int)))
  (.ck (decide ((0 : Int) ≤ ((next_0.length : Nat) : Int)) && decide (((next_0.length : Nat) : Int) ≤ ((next_0.length : Nat) : Int)) && decide (((next_0.length : Nat) : Int) * 1 < (lim : Int)) && decide (((next_0.length : Nat) : Int) < 9223372036854775807) && true && true) <|
    .ck (decide ((0 : Int) ≤ v_3) && decide (v_3 < ((out_2.length : Nat) : Int))) <|
    B44_1 next_0 (out_2.set (0 + v_3.toNat) (sl false ⟨1, false⟩ (List.replicate (((next_0.length : Nat) : Int).toNat) (tb false)))) all_1 (w64 (v_3 + 1)))
  (H44_2 next_0 out_2 all_1 0)
theorem eH44_1 {next_0 : List TV} {out_2 : List TV} {all_1 : List TV} {v_3 : Int} {r : Res} (h : S cx 44 (NH44_1 next_0 out_2 all_1 v_3) = some r) : S cx 44 (H44_1 next_0 out_2 all_1 v_3) = some r :=
  hw_of (fun call hd hb pt rg => by kernel_rfl) h
noncomputable def NH44_2 (next_0 : List TV) (out_3 : List TV) (all_1 : List TV) (v_2 : Int) : Nd :=
  .bif (decide (v_2 < ((all_1.length : Nat) : Int)))
  (.ck (decide ((0 : Int) ≤ v_2) && decide (v_2 < ((all_1.length : Nat) : Int))) <|
    .bool (all_1.getD (0 + v_2.toNat) (.dead ())) fun x_834a =>
    .bif ((!x_834a))
    (B44_2 next_0 out_3 all_1 (w64 (v_2 + 1)))
    (C57 next_0 0 ([i64 v_2]) fun vs_18c0 =>
      H44_3 next_0 out_3 all_1 v_2 vs_18c0 v_2 ((out_3.length : Nat) : Int) 0))
  (.ret [sl false ⟨1, true⟩ out_3] [])
theorem eH44_2 {next_0 : List TV} {out_3 : List TV} {all_1 : List TV} {v_2 : Int} {r : Res} (h : S cx 44 (NH44_2 next_0 out_3 all_1 v_2) = some r) : S cx 44 (H44_2 next_0 out_3 all_1 v_2) = some r :=
  hw_of (fun call hd hb pt rg => by kernel_rfl) h
noncomputable def NH44_3_s0 (next_0 : List TV) (out_3 : List TV) (all_1 : List TV) (k_5 : Int) (left_2 : List TV) (v_6 : Int) (v_7 : Int) (v_4 : Int) (x_d611 : Bool) (xs_20b3 : List TV) : Nd :=
  .ck (decide ((0 : Int) ≤ k_5) && decide (k_5 < ((xs_20b3.length : Nat) : Int))) <|
  .slB ⟨1, false⟩ (out_3.getD (0 + v_4.toNat) (.dead ())) fun r xs_20b3_2 => bif r then 
  (.non)
  else (B44_3 next_0 (out_3.set (0 + v_4.toNat) (sl false ⟨1, false⟩ (xs_20b3_2.set (0 + k_5.toNat) (tb (!x_d611))))) all_1 k_5 left_2 v_6 v_7 (w64 (v_4 + 1)))
noncomputable def NH44_3_s1 (next_0 : List TV) (out_3 : List TV) (all_1 : List TV) (k_5 : Int) (left_2 : List TV) (v_6 : Int) (v_7 : Int) (v_4 : Int) (xs_20b3 : List TV) : Nd :=
  .ck (decide ((0 : Int) ≤ k_5) && decide (k_5 < ((xs_20b3.length : Nat) : Int))) <|
  .slB ⟨1, false⟩ (out_3.getD (0 + v_4.toNat) (.dead ())) fun r xs_20b3_2 => bif r then 
  (.non)
  else (B44_3 next_0 (out_3.set (0 + v_4.toNat) (sl false ⟨1, false⟩ (xs_20b3_2.set (0 + k_5.toNat) (tb false)))) all_1 k_5 left_2 v_6 v_7 (w64 (v_4 + 1)))
noncomputable def NH44_3 (next_0 : List TV) (out_3 : List TV) (all_1 : List TV) (k_5 : Int) (left_2 : List TV) (v_6 : Int) (v_7 : Int) (v_4 : Int) : Nd :=
  .bif (decide (v_4 < v_7))
  (.ck (decide ((0 : Int) ≤ v_4) && decide (v_4 < ((out_3.length : Nat) : Int))) <|
    .ck (decide ((0 : Int) ≤ v_4) && decide (v_4 < ((all_1.length : Nat) : Int))) <|
    .bool (all_1.getD (0 + v_4.toNat) (.dead ())) fun x_fcdb =>
    .bif (x_fcdb)
    (.ck (decide ((0 : Int) ≤ v_4) && decide (v_4 < ((left_2.length : Nat) : Int))) <|
      .bool (left_2.getD (0 + v_4.toNat) (.dead ())) fun x_d611 =>
      .slO ⟨1, false⟩ (out_3.getD (0 + v_4.toNat) (.dead ())) fun vs_8636 =>
      .slB ⟨1, false⟩ (out_3.getD (0 + v_4.toNat) (.dead ())) fun r xs_20b3 => bif r then 
      (NH44_3_s0 next_0 out_3 all_1 k_5 left_2 v_6 v_7 v_4 x_d611 xs_20b3)
      else (NH44_3_s0 next_0 out_3 all_1 k_5 left_2 v_6 v_7 v_4 x_d611 xs_20b3))
    (.slO ⟨1, false⟩ (out_3.getD (0 + v_4.toNat) (.dead ())) fun vs_8636 =>
      .slB ⟨1, false⟩ (out_3.getD (0 + v_4.toNat) (.dead ())) fun r xs_20b3 => bif r then 
      (NH44_3_s1 next_0 out_3 all_1 k_5 left_2 v_6 v_7 v_4 xs_20b3)
      else (NH44_3_s1 next_0 out_3 all_1 k_5 left_2 v_6 v_7 v_4 xs_20b3)))
  (B44_2 next_0 out_3 all_1 (w64 (v_6 + 1)))
theorem eH44_3 {next_0 : List TV} {out_3 : List TV} {all_1 : List TV} {k_5 : Int} {left_2 : List TV} {v_6 : Int} {v_7 : Int} {v_4 : Int} {r : Res} (h : S cx 44 (NH44_3 next_0 out_3 all_1 k_5 left_2 v_6 v_7 v_4) = some r) : S cx 44 (H44_3 next_0 out_3 all_1 k_5 left_2 v_6 v_7 v_4) = some r :=
  hw_of (fun call hd hb pt rg => by kernel_rfl) h
noncomputable def EH45_0 (out_1 : List TV) (v_0 : List TV) (v_2 : Int) : Env := [.un, .un, .un, .val [] (sl false ⟨1, false⟩ out_1), .un, .un, .un, .val [] (sl true ⟨1, false⟩ v_0), .val [] (i64 ((v_0.length : Nat) : Int)), .val [] (i64 v_2)] ++ uns 12
noncomputable abbrev H45_0 (out_1 : List TV) (v_0 : List TV) (v_2 : Int) : Nd := .head [1, 1, 0, 1, 2] (EH45_0 out_1 v_0 v_2)
noncomputable abbrev B45_0 (out_1 : List TV) (v_0 : List TV) (v_2 : Int) : Nd := .back [1, 1, 0, 1, 2] (EH45_0 out_1 v_0 v_2)
noncomputable def N45 (is_0 : List TV) : Nd :=
  H45_0 ([]) is_0 0
theorem e45 {is_0 : List TV} {r : Res} (h : S cx 45 (N45 is_0) = some r) : tw cx 45 [sl true ⟨1, false⟩ is_0] = some r :=
  tw_of (fun call hd hb pt rg => by kernel_rfl) h
noncomputable def NH45_0 (out_1 : List TV) (v_0 : List TV) (v_2 : Int) : Nd :=
  .bif (decide (v_2 < ((v_0.length : Nat) : Int)))
  (.ck (decide ((0 : Int) ≤ v_2) && decide (v_2 < ((v_0.length : Nat) : Int))) <|
    .bool (v_0.getD (0 + v_2.toNat) (.dead ())) fun x_b1ad =>
    .bif (x_b1ad)
    (.ck (decide ((out_1.length + ([i64 v_2] : List TV).length) * 8 < lim)) <|
      B45_0 (out_1 ++ ([i64 v_2])) v_0 (w64 (v_2 + 1)))
    (B45_0 out_1 v_0 (w64 (v_2 + 1))))
  (.ret [sl false ⟨1, false⟩ out_1] [])
theorem eH45_0 {out_1 : List TV} {v_0 : List TV} {v_2 : Int} {r : Res} (h : S cx 45 (NH45_0 out_1 v_0 v_2) = some r) : S cx 45 (H45_0 out_1 v_0 v_2) = some r :=
  hw_of (fun call hd hb pt rg => by kernel_rfl) h
noncomputable def EH46_0 (a_0 : List TV) (b_1 : List TV) (i_2 : Int) : Env := [.val [] (sl true ⟨6, false⟩ a_0), .val [] (sl true ⟨6, false⟩ b_1), .un, .un, .un, .val [] (i64 i_2)] ++ uns 23
noncomputable abbrev H46_0 (a_0 : List TV) (b_1 : List TV) (i_2 : Int) : Nd := .head [1, 1, 0, 1, 2] (EH46_0 a_0 b_1 i_2)
noncomputable abbrev B46_0 (a_0 : List TV) (b_1 : List TV) (i_2 : Int) : Nd := .back [1, 1, 0, 1, 2] (EH46_0 a_0 b_1 i_2)
noncomputable def N46 (a_0 : List TV) (b_1 : List TV) : Nd :=
  .bif ((((a_0.length : Nat) : Int) != ((b_1.length : Nat) : Int)))
  (.ret [tb false] [])
  (H46_0 a_0 b_1 0)
theorem e46 {a_0 : List TV} {b_1 : List TV} {r : Res} (h : S cx 46 (N46 a_0 b_1) = some r) : tw cx 46 [sl true ⟨6, false⟩ a_0, sl true ⟨6, false⟩ b_1] = some r :=
  tw_of (fun call hd hb pt rg => by kernel_rfl) h
noncomputable def NH46_0 (a_0 : List TV) (b_1 : List TV) (i_2 : Int) : Nd :=
  .bif (decide (i_2 < ((a_0.length : Nat) : Int)))
  (.ck (decide ((0 : Int) ≤ i_2) && decide (i_2 < ((a_0.length : Nat) : Int))) <|
    V6 (a_0.getD (0 + i_2.toNat) (.dead ())) fun op_e85d do_3fec dst_ffe3 a_68fc b_0250 n_1558 =>
    .ck (decide ((0 : Int) ≤ i_2) && decide (i_2 < ((b_1.length : Nat) : Int))) <|
    V6 (b_1.getD (0 + i_2.toNat) (.dead ())) fun op_001b do_4771 dst_5278 a_3e66 b_9cad n_8b0d =>
    C65 op_e85d do_3fec dst_ffe3 a_68fc b_0250 n_1558 op_001b do_4771 dst_5278 a_3e66 b_9cad n_8b0d fun v_2d54 =>
    .bif ((!v_2d54))
    (.ret [tb false] [])
    (B46_0 a_0 b_1 (w64 (i_2 + 1))))
  (.ret [tb true] [])
theorem eH46_0 {a_0 : List TV} {b_1 : List TV} {i_2 : Int} {r : Res} (h : S cx 46 (NH46_0 a_0 b_1 i_2) = some r) : S cx 46 (H46_0 a_0 b_1 i_2) = some r :=
  hw_of (fun call hd hb pt rg => by kernel_rfl) h
noncomputable def EH47_0 (many_0 : Int) (b_1 : List TV) (b_2 : Int) (b_3 : Int) (b_4 : List TV) (v_5 : Int) : Env := [.un, .val [] (i64 many_0), .val [] (.pt false () (.st [sl true ⟨6, false⟩ b_1, i64 b_2, i64 b_3, sl true ⟨1, false⟩ b_4]))] ++ uns 8 ++ [.val [] (sl true ⟨6, false⟩ b_1), .val [] (i64 ((b_1.length : Nat) : Int)), .val [] (i64 v_5)] ++ uns 92
noncomputable abbrev H47_0 (many_0 : Int) (b_1 : List TV) (b_2 : Int) (b_3 : Int) (b_4 : List TV) (v_5 : Int) : Nd := .head [1, 0, 1, 2] (EH47_0 many_0 b_1 b_2 b_3 b_4 v_5)
noncomputable abbrev B47_0 (many_0 : Int) (b_1 : List TV) (b_2 : Int) (b_3 : Int) (b_4 : List TV) (v_5 : Int) : Nd := .back [1, 0, 1, 2] (EH47_0 many_0 b_1 b_2 b_3 b_4 v_5)
noncomputable def EH47_1 (many_0 : Int) (b_1 : List TV) (b_2 : Int) (b_3 : Int) (b_4 : List TV) (v_5 : Int) : Env := [.un, .val [] (i64 many_0), .val [] (.pt false () (.st [sl true ⟨6, false⟩ b_1, i64 b_2, i64 b_3, sl true ⟨1, false⟩ b_4]))] ++ uns 19 ++ [.val [] (sl true ⟨1, false⟩ b_4), .val [] (i64 ((b_4.length : Nat) : Int)), .val [] (i64 v_5)] ++ uns 81
noncomputable abbrev H47_1 (many_0 : Int) (b_1 : List TV) (b_2 : Int) (b_3 : Int) (b_4 : List TV) (v_5 : Int) : Nd := .head [1, 1, 0, 1, 2] (EH47_1 many_0 b_1 b_2 b_3 b_4 v_5)
noncomputable abbrev B47_1 (many_0 : Int) (b_1 : List TV) (b_2 : Int) (b_3 : Int) (b_4 : List TV) (v_5 : Int) : Nd := .back [1, 1, 0, 1, 2] (EH47_1 many_0 b_1 b_2 b_3 b_4 v_5)
noncomputable def N47 (b_0 : List TV) (b_1 : Int) (b_2 : Int) (b_3 : List TV) (many_4 : Int) : Nd :=
  H47_0 many_4 b_0 b_1 b_2 b_3 0
theorem e47 {b_0 : List TV} {b_1 : Int} {b_2 : Int} {b_3 : List TV} {many_4 : Int} {r : Res} (h : S cx 47 (N47 b_0 b_1 b_2 b_3 many_4) = some r) : tw cx 47 [.st [sl true ⟨6, false⟩ b_0, i64 b_1, i64 b_2, sl true ⟨1, false⟩ b_3], i64 many_4] = some r :=
  tw_of (fun call hd hb pt rg => by kernel_rfl) h
noncomputable def NH47_0 (many_0 : Int) (b_1 : List TV) (b_2 : Int) (b_3 : Int) (b_4 : List TV) (v_5 : Int) : Nd :=
  .bif (decide (v_5 < ((b_1.length : Nat) : Int)))
  (.ck (decide ((0 : Int) ≤ v_5) && decide (v_5 < ((b_1.length : Nat) : Int))) <|
    V6 (b_1.getD (0 + v_5.toNat) (.dead ())) fun op_8687 do_4265 dst_27ee a_051b b_f5b0 n_6b6c =>
    C49 op_8687 do_4265 dst_27ee a_051b b_f5b0 n_6b6c fun v_ec1a =>
    .bif ((!v_ec1a))
    (.ret [tb false] [])
    (B47_0 many_0 b_1 b_2 b_3 b_4 (w64 (v_5 + 1))))
  (H47_1 many_0 b_1 b_2 b_3 b_4 0)
theorem eH47_0 {many_0 : Int} {b_1 : List TV} {b_2 : Int} {b_3 : Int} {b_4 : List TV} {v_5 : Int} {r : Res} (h : S cx 47 (NH47_0 many_0 b_1 b_2 b_3 b_4 v_5) = some r) : S cx 47 (H47_0 many_0 b_1 b_2 b_3 b_4 v_5) = some r :=
  hw_of (fun call hd hb pt rg => by kernel_rfl) h
noncomputable def NH47_1_s0 (b_1 : List TV) (b_3 : Int) : Nd :=
  C66 b_3 fun v_e187 =>
  .bif (v_e187)
  (.ret [tb (decide (((b_1.length : Nat) : Int) ≤ 60))] [])
  (.ret [tb false] [])
noncomputable def NH47_1 (many_0 : Int) (b_1 : List TV) (b_2 : Int) (b_3 : Int) (b_4 : List TV) (v_5 : Int) : Nd :=
  .bif (decide (v_5 < ((b_4.length : Nat) : Int)))
  (.ck (decide ((0 : Int) ≤ v_5) && decide (v_5 < ((b_4.length : Nat) : Int))) <|
    .int .i64 (b_4.getD (0 + v_5.toNat) (.dead ())) fun x_7bb9 =>
    .bif (decide (x_7bb9 < 0))
    (.ret [tb false] [])
    (.bif (decide (x_7bb9 ≥ many_0))
      (.ret [tb false] [])
      (B47_1 many_0 b_1 b_2 b_3 b_4 (w64 (v_5 + 1)))))
  (.bif ((b_2 == 1))
    (.bif ((((b_4.length : Nat) : Int) == 1))
      (.bif ((b_3 == 0))
        (.ret [tb (decide (((b_1.length : Nat) : Int) ≤ 60))] [])
        (.ret [tb false] []))
      (.ret [tb false] []))
    (.bif ((b_2 == 2))
      (.bif ((((b_4.length : Nat) : Int) == 2))
        (NH47_1_s0 b_1 b_3)
        (.ret [tb false] []))
      (.bif ((b_2 == 5))
        (C48 ((b_4.length : Nat) : Int) 2 6 fun v_0c7d =>
          .bif (v_0c7d)
          (NH47_1_s0 b_1 b_3)
          (.ret [tb false] []))
        (C48 b_2 3 4 fun v_3f38 =>
          .bif (v_3f38)
          (.bif ((((b_4.length : Nat) : Int) == 0))
            (.bif ((b_3 == 0))
              (.ret [tb (decide (((b_1.length : Nat) : Int) ≤ 60))] [])
              (.ret [tb false] []))
            (.ret [tb false] []))
          (.ret [tb false] [])))))
theorem eH47_1 {many_0 : Int} {b_1 : List TV} {b_2 : Int} {b_3 : Int} {b_4 : List TV} {v_5 : Int} {r : Res} (h : S cx 47 (NH47_1 many_0 b_1 b_2 b_3 b_4 v_5) = some r) : S cx 47 (H47_1 many_0 b_1 b_2 b_3 b_4 v_5) = some r :=
  hw_of (fun call hd hb pt rg => by kernel_rfl) h
noncomputable def N48 (n_0 : Int) (lo_1 : Int) (hi_2 : Int) : Nd :=
  .bif (decide (n_0 ≥ lo_1))
  (.ret [tb (decide (n_0 ≤ hi_2))] [])
  (.ret [tb false] [])
theorem e48 {n_0 : Int} {lo_1 : Int} {hi_2 : Int} {r : Res} (h : S cx 48 (N48 n_0 lo_1 hi_2) = some r) : tw cx 48 [i64 n_0, i64 lo_1, i64 hi_2] = some r :=
  tw_of (fun call hd hb pt rg => by kernel_rfl) h
noncomputable def EG49_0 (x_0 : Int) (x_1 : Int) (x_2 : Int) (x_3 : Int) (x_4 : Int) (x_5 : Int) (v_6 : Bool) : Env := [.un, .val [] (.pt false () (.st [i64 x_0, i64 x_1, i64 x_2, i64 x_3, i64 x_4, i64 x_5]))] ++ uns 20 ++ [.val [] (i64 x_0)] ++ uns 20 ++ [.val [] (tb v_6)] ++ uns 69
noncomputable abbrev G49_0 (x_0 : Int) (x_1 : Int) (x_2 : Int) (x_3 : Int) (x_4 : Int) (x_5 : Int) (v_6 : Bool) : Nd := .go [1, 1, 0, 1, 2, 1, 4, 1] (EG49_0 x_0 x_1 x_2 x_3 x_4 x_5 v_6)
noncomputable def N49_s0 (x_0 : Int) (x_1 : Int) (x_2 : Int) (x_3 : Int) (x_4 : Int) (x_5 : Int) : Nd :=
  .bif ((x_0 == 1))
  (C66 x_2 fun v_caca =>
    .bif (v_caca)
    (.bif ((x_3 == 0))
      (.bif ((x_4 == 0))
        (C48 x_5 0 65535 fun v_e2ba =>
          .ret [tb v_e2ba] [])
        (.ret [tb false] []))
      (.ret [tb false] []))
    (.ret [tb false] []))
  (.bif ((x_0 == 2))
    (G49_0 x_0 x_1 x_2 x_3 x_4 x_5 (x_0 == 2))
    (G49_0 x_0 x_1 x_2 x_3 x_4 x_5 (x_0 == 4)))
noncomputable def N49_s1 (x_0 : Int) (x_1 : Int) (x_2 : Int) (x_3 : Int) (x_4 : Int) (x_5 : Int) : Nd :=
  .bif ((x_0 != 1))
  (.bif ((x_5 != 0))
    (.ret [tb false] [])
    (N49_s0 x_0 x_1 x_2 x_3 x_4 x_5))
  (N49_s0 x_0 x_1 x_2 x_3 x_4 x_5)
noncomputable def N49 (x_0 : Int) (x_1 : Int) (x_2 : Int) (x_3 : Int) (x_4 : Int) (x_5 : Int) : Nd :=
  .bif ((x_0 != 3))
  (.bif ((x_1 != 0))
    (.ret [tb false] [])
    (N49_s1 x_0 x_1 x_2 x_3 x_4 x_5))
  (N49_s1 x_0 x_1 x_2 x_3 x_4 x_5)
theorem e49 {x_0 : Int} {x_1 : Int} {x_2 : Int} {x_3 : Int} {x_4 : Int} {x_5 : Int} {r : Res} (h : S cx 49 (N49 x_0 x_1 x_2 x_3 x_4 x_5) = some r) : tw cx 49 [.st [i64 x_0, i64 x_1, i64 x_2, i64 x_3, i64 x_4, i64 x_5]] = some r :=
  tw_of (fun call hd hb pt rg => by kernel_rfl) h
noncomputable def NG49_0_s0 (x_3 : Int) (x_4 : Int) : Nd :=
  C66 x_3 fun v_ad95 =>
  .bif (v_ad95)
  (.ret [tb (x_4 == 0)] [])
  (.ret [tb false] [])
noncomputable def NG49_0 (x_0 : Int) (x_1 : Int) (x_2 : Int) (x_3 : Int) (x_4 : Int) (x_5 : Int) (v_6 : Bool) : Nd :=
  .bif (v_6)
  (C66 x_2 fun v_caca =>
    .bif (v_caca)
    (NG49_0_s0 x_3 x_4)
    (.ret [tb false] []))
  (.bif ((x_0 == 3))
    (C66 x_2 fun v_caca =>
      .bif (v_caca)
      (C66 x_3 fun v_ad95 =>
        .bif (v_ad95)
        (C66 x_4 fun v_a3ba =>
          .bif (v_a3ba)
          (C48 x_1 4 9 fun v_6947 =>
            .ret [tb v_6947] [])
          (.ret [tb false] []))
        (.ret [tb false] []))
      (.ret [tb false] []))
    (.bif ((x_0 == 5))
      (.bif ((x_2 == 0))
        (C66 x_3 fun v_ad95 =>
          .bif (v_ad95)
          (C66 x_4 fun v_a3ba =>
            .ret [tb v_a3ba] [])
          (.ret [tb false] []))
        (.ret [tb false] []))
      (.bif ((x_0 == 6))
        (.bif ((x_2 == 0))
          (NG49_0_s0 x_3 x_4)
          (.ret [tb false] []))
        (.ret [tb false] []))))
theorem eG49_0 {x_0 : Int} {x_1 : Int} {x_2 : Int} {x_3 : Int} {x_4 : Int} {x_5 : Int} {v_6 : Bool} {r : Res} (h : S cx 49 (NG49_0 x_0 x_1 x_2 x_3 x_4 x_5 v_6) = some r) : S cx 49 (G49_0 x_0 x_1 x_2 x_3 x_4 x_5 v_6) = some r :=
  pw_of (fun call hd hb pt rg => by kernel_rfl) h
noncomputable def N50 (a_0 : Int) (a_1 : Int) (a_2 : Int) (a_3 : Int) (a_4 : Int) (a_5 : Int) : Nd :=
  .ret [.st [i64 a_0, i64 a_1, i64 a_2, i64 a_3, i64 a_4, i64 a_5]] []
theorem e50 {a_0 : Int} {a_1 : Int} {a_2 : Int} {a_3 : Int} {a_4 : Int} {a_5 : Int} {r : Res} (h : S cx 50 (N50 a_0 a_1 a_2 a_3 a_4 a_5) = some r) : tw cx 50 [.st [i64 a_0, i64 a_1, i64 a_2, i64 a_3, i64 a_4, i64 a_5]] = some r :=
  tw_of (fun call hd hb pt rg => by kernel_rfl) h
noncomputable def N51 (n_0 : Int) (low_1 : Int) (high_2 : Int) : Nd :=
  .bif (decide (n_0 ≥ low_1))
  (.ret [tb (decide (n_0 ≤ high_2))] [])
  (.ret [tb false] [])
theorem e51 {n_0 : Int} {low_1 : Int} {high_2 : Int} {r : Res} (h : S cx 51 (N51 n_0 low_1 high_2) = some r) : tw cx 51 [i64 n_0, i64 low_1, i64 high_2] = some r :=
  tw_of (fun call hd hb pt rg => by kernel_rfl) h
noncomputable def N52 (s_0 : List TV) (f_1 : List TV) : Nd :=
  C67 s_0 f_1 fun v_7b9d =>
  .ret [tb (decide (v_7b9d ≥ 0))] []
theorem e52 {s_0 : List TV} {f_1 : List TV} {r : Res} (h : S cx 52 (N52 s_0 f_1) = some r) : tw cx 52 [sl true ⟨4, true⟩ s_0, .cl 53 [.pt true () (sl true ⟨4, true⟩ f_1)]] = some r :=
  tw_of (fun call hd hb pt rg => by kernel_rfl) h
noncomputable def N53 (b_0 : List TV) (b_1 : Int) (b_2 : Int) (b_3 : List TV) (v_4 : List TV) : Nd :=
  C54 b_0 12 fun v_3938 =>
  .bif ((!v_3938))
  (.ret [tb true] [])
  (C55 b_1 b_2 b_3 12 ((v_4.length : Nat) : Int) fun v_4d79 =>
    .ret [tb (!v_4d79)] [])
theorem e53 {b_0 : List TV} {b_1 : Int} {b_2 : Int} {b_3 : List TV} {v_4 : List TV} {r : Res} (h : S cx 53 (N53 b_0 b_1 b_2 b_3 v_4) = some r) : tw cx 53 [.st [sl true ⟨6, false⟩ b_0, i64 b_1, i64 b_2, sl true ⟨1, false⟩ b_3], .pt true () (sl true ⟨4, true⟩ v_4)] = some r :=
  tw_of (fun call hd hb pt rg => by kernel_rfl) h
noncomputable def N54 (l_0 : List TV) (many_1 : Int) : Nd :=
  .bif (decide (((l_0.length : Nat) : Int) ≤ 60))
  (C68 l_0 many_1 fun v_8186 =>
    .ret [tb (!v_8186)] [])
  (.ret [tb false] [])
theorem e54 {l_0 : List TV} {many_1 : Int} {r : Res} (h : S cx 54 (N54 l_0 many_1) = some r) : tw cx 54 [sl true ⟨6, false⟩ l_0, i64 many_1] = some r :=
  tw_of (fun call hd hb pt rg => by kernel_rfl) h
noncomputable def N55_s0 (kind_0 : Int) (next_2 : List TV) (blocks_4 : Int) : Nd :=
  C72 next_2 blocks_4 fun v_c1ac =>
  .bif (v_c1ac)
  (.ret [tb false] [])
  (.bif ((kind_0 == 1))
    (.ret [tb (((next_2.length : Nat) : Int) == 1)] [])
    (.bif ((kind_0 == 2))
      (.ret [tb (((next_2.length : Nat) : Int) == 2)] [])
      (.bif ((kind_0 == 5))
        (C51 ((next_2.length : Nat) : Int) 2 6 fun v_7cc5 =>
          .ret [tb v_7cc5] [])
        (.bif ((kind_0 == 3))
          (.ret [tb (((next_2.length : Nat) : Int) == 0)] [])
          (.bif ((kind_0 == 4))
            (.ret [tb (((next_2.length : Nat) : Int) == 0)] [])
            (.ret [tb false] []))))))
noncomputable def N55_s1 (kind_0 : Int) (test_1 : Int) (next_2 : List TV) (blocks_4 : Int) : Nd :=
  C71 kind_0 fun v_74e6 =>
  .bif ((!v_74e6))
  (.bif ((test_1 != 0))
    (.ret [tb false] [])
    (N55_s0 kind_0 next_2 blocks_4))
  (N55_s0 kind_0 next_2 blocks_4)
noncomputable def N55 (kind_0 : Int) (test_1 : Int) (next_2 : List TV) (many_3 : Int) (blocks_4 : Int) : Nd :=
  C71 kind_0 fun v_28f0 =>
  .bif (v_28f0)
  (C51 test_1 0 (w64 (many_3 - 1)) fun v_0a95 =>
    .bif ((!v_0a95))
    (.ret [tb false] [])
    (N55_s1 kind_0 test_1 next_2 blocks_4))
  (N55_s1 kind_0 test_1 next_2 blocks_4)
theorem e55 {kind_0 : Int} {test_1 : Int} {next_2 : List TV} {many_3 : Int} {blocks_4 : Int} {r : Res} (h : S cx 55 (N55 kind_0 test_1 next_2 many_3 blocks_4) = some r) : tw cx 55 [i64 kind_0, i64 test_1, sl true ⟨1, false⟩ next_2, i64 many_3, i64 blocks_4] = some r :=
  tw_of (fun call hd hb pt rg => by kernel_rfl) h
noncomputable def N56 (s_0 : List TV) (v_1 : Bool) : Nd :=
  C74 s_0 v_1 fun v_9b78 =>
  .ret [tb (decide (v_9b78 ≥ 0))] []
theorem e56 {s_0 : List TV} {v_1 : Bool} {r : Res} (h : S cx 56 (N56 s_0 v_1) = some r) : tw cx 56 [sl true ⟨1, false⟩ s_0, tb v_1] = some r :=
  tw_of (fun call hd hb pt rg => by kernel_rfl) h
noncomputable def EH57_0 (next_0 : List TV) (but_1 : List TV) (out_2 : List TV) (todo_3 : List TV) : Env := [.val [] (sl true ⟨1, true⟩ next_0), .un, .val [] (sl true ⟨1, false⟩ but_1), .un, .un, .un, .un, .val [] (sl false ⟨1, false⟩ out_2), .val [] (sl false ⟨1, false⟩ todo_3)] ++ uns 53
noncomputable abbrev H57_0 (next_0 : List TV) (but_1 : List TV) (out_2 : List TV) (todo_3 : List TV) : Nd := .head [1, 1, 1, 1, 0, 1, 2] (EH57_0 next_0 but_1 out_2 todo_3)
noncomputable abbrev B57_0 (next_0 : List TV) (but_1 : List TV) (out_2 : List TV) (todo_3 : List TV) : Nd := .back [1, 1, 1, 1, 0, 1, 2] (EH57_0 next_0 but_1 out_2 todo_3)
noncomputable def EH57_1 (next_0 : List TV) (but_1 : List TV) (out_2 : List TV) (todo_3 : List TV) (v_4 : List TV) (v_5 : Int) : Env := [.val [] (sl true ⟨1, true⟩ next_0), .un, .val [] (sl true ⟨1, false⟩ but_1), .un, .un, .un, .un, .val [] (sl false ⟨1, false⟩ out_2), .val [] (sl false ⟨1, false⟩ todo_3)] ++ uns 24 ++ [.val [] (sl true ⟨1, false⟩ v_4), .val [] (i64 ((v_4.length : Nat) : Int)), .val [] (i64 v_5)] ++ uns 26
noncomputable abbrev H57_1 (next_0 : List TV) (but_1 : List TV) (out_2 : List TV) (todo_3 : List TV) (v_4 : List TV) (v_5 : Int) : Nd := .head [1, 1, 1, 1, 0, 1, 2, 5, 1, 0, 2, 1, 2] (EH57_1 next_0 but_1 out_2 todo_3 v_4 v_5)
noncomputable abbrev B57_1 (next_0 : List TV) (but_1 : List TV) (out_2 : List TV) (todo_3 : List TV) (v_4 : List TV) (v_5 : Int) : Nd := .back [1, 1, 1, 1, 0, 1, 2, 5, 1, 0, 2, 1, 2] (EH57_1 next_0 but_1 out_2 todo_3 v_4 v_5)
noncomputable def EG57_2 (next_0 : List TV) (but_1 : List TV) (out_2 : List TV) (todo_3 : List TV) (k_4 : Int) (v_5 : List TV) (v_7 : Int) (v_6 : Bool) : Env := [.val [] (sl true ⟨1, true⟩ next_0), .un, .val [] (sl true ⟨1, false⟩ but_1), .un, .un, .un, .un, .val [] (sl false ⟨1, false⟩ out_2), .val [] (sl false ⟨1, false⟩ todo_3), .un, .val [] (i64 k_4)] ++ uns 22 ++ [.val [] (sl true ⟨1, false⟩ v_5), .val [] (i64 ((v_5.length : Nat) : Int)), .val [] (i64 v_7)] ++ uns 13 ++ [.val [] (tb v_6)] ++ uns 12
noncomputable abbrev G57_2 (next_0 : List TV) (but_1 : List TV) (out_2 : List TV) (todo_3 : List TV) (k_4 : Int) (v_5 : List TV) (v_7 : Int) (v_6 : Bool) : Nd := .go [1, 1, 1, 1, 0, 1, 2, 5, 1, 0, 2, 1, 2, 5, 1, 1, 0, 2, 1, 1] (EG57_2 next_0 but_1 out_2 todo_3 k_4 v_5 v_7 v_6)
noncomputable def N57 (next_0 : List TV) (from_1 : Int) (but_2 : List TV) : Nd :=
  .ck (decide ((0 : Int) ≤ ((next_0.length : Nat) : Int)) && decide (((next_0.length : Nat) : Int) ≤ ((next_0.length : Nat) : Int)) && decide (((next_0.length : Nat) : Int) * 1 < (lim : Int)) && decide (((next_0.length : Nat) : Int) < 9223372036854775807) && true && true) <|
  C75 but_2 from_1 fun v_2f77 =>
  .bif (v_2f77)
  (.ret [sl false ⟨1, false⟩ (List.replicate (((next_0.length : Nat) : Int).toNat) (tb false))] [])
  (.ck (decide ((0 : Int) ≤ from_1) && decide (from_1 < (((List.replicate (((next_0.length : Nat) : Int).toNat) (tb false)).length : Nat) : Int))) <|
    H57_0 next_0 but_2 ((List.replicate (((next_0.length : Nat) : Int).toNat) (tb false)).set (0 + from_1.toNat) (tb true)) ([i64 from_1]))
theorem e57 {next_0 : List TV} {from_1 : Int} {but_2 : List TV} {r : Res} (h : S cx 57 (N57 next_0 from_1 but_2) = some r) : tw cx 57 [sl true ⟨1, true⟩ next_0, i64 from_1, sl true ⟨1, false⟩ but_2] = some r :=
  tw_of (fun call hd hb pt rg => by kernel_rfl) h
noncomputable def NH57_0 (next_0 : List TV) (but_1 : List TV) (out_2 : List TV) (todo_3 : List TV) : Nd :=
  .bif (decide (((todo_3.length : Nat) : Int) > 0))
  (.ck (decide ((0 : Int) < ((todo_3.length : Nat) : Int))) <|
    .int .i64 (todo_3.getD 0 (.dead ())) fun x_eea8 =>
    .ck (decide ((0 : Int) ≤ x_eea8) && decide (x_eea8 < ((next_0.length : Nat) : Int))) <|
    .slR ⟨1, false⟩ (next_0.getD (0 + x_eea8.toNat) (.dead ())) fun xs_d681 =>
    H57_1 next_0 but_1 out_2 todo_3 xs_d681 0)
  (.ret [sl false ⟨1, false⟩ out_2] [])
theorem eH57_0 {next_0 : List TV} {but_1 : List TV} {out_2 : List TV} {todo_3 : List TV} {r : Res} (h : S cx 57 (NH57_0 next_0 but_1 out_2 todo_3) = some r) : S cx 57 (H57_0 next_0 but_1 out_2 todo_3) = some r :=
  hw_of (fun call hd hb pt rg => by kernel_rfl) h
noncomputable def NH57_1 (next_0 : List TV) (but_1 : List TV) (out_2 : List TV) (todo_3 : List TV) (v_4 : List TV) (v_5 : Int) : Nd :=
  .bif (decide (v_5 < ((v_4.length : Nat) : Int)))
  (.ck (decide ((0 : Int) ≤ v_5) && decide (v_5 < ((v_4.length : Nat) : Int))) <|
    .int .i64 (v_4.getD (0 + v_5.toNat) (.dead ())) fun x_45a3 =>
    .ck (decide ((0 : Int) ≤ x_45a3) && decide (x_45a3 < ((out_2.length : Nat) : Int))) <|
    .bool (out_2.getD (0 + x_45a3.toNat) (.dead ())) fun x_3900 =>
    .bif ((!x_3900))
    (C75 but_1 x_45a3 fun v_0050 =>
      G57_2 next_0 but_1 out_2 todo_3 x_45a3 v_4 v_5 (!v_0050))
    (G57_2 next_0 but_1 out_2 todo_3 x_45a3 v_4 v_5 false))
  (.ck (decide ((1 : Int) ≤ ((todo_3.length : Nat) : Int)) && decide (((todo_3.length : Nat) : Int) ≤ ((todo_3.length : Nat) : Int))) <|
    B57_0 next_0 but_1 out_2 ((todo_3.drop 1).take ((((todo_3.length : Nat) : Int) - 1).toNat)))
theorem eH57_1 {next_0 : List TV} {but_1 : List TV} {out_2 : List TV} {todo_3 : List TV} {v_4 : List TV} {v_5 : Int} {r : Res} (h : S cx 57 (NH57_1 next_0 but_1 out_2 todo_3 v_4 v_5) = some r) : S cx 57 (H57_1 next_0 but_1 out_2 todo_3 v_4 v_5) = some r :=
  hw_of (fun call hd hb pt rg => by kernel_rfl) h
noncomputable def NG57_2 (next_0 : List TV) (but_1 : List TV) (out_2 : List TV) (todo_3 : List TV) (k_4 : Int) (v_5 : List TV) (v_7 : Int) (v_6 : Bool) : Nd :=
  .bif (v_6)
  (.ck (decide ((0 : Int) ≤ k_4) && decide (k_4 < ((out_2.length : Nat) : Int))) <|
    .ck (decide ((todo_3.length + ([i64 k_4] : List TV).length) * 8 < lim)) <|
    B57_1 next_0 but_1 (out_2.set (0 + k_4.toNat) (tb true)) (todo_3 ++ ([i64 k_4])) v_5 (w64 (v_7 + 1)))
  (B57_1 next_0 but_1 out_2 todo_3 v_5 (w64 (v_7 + 1)))
theorem eG57_2 {next_0 : List TV} {but_1 : List TV} {out_2 : List TV} {todo_3 : List TV} {k_4 : Int} {v_5 : List TV} {v_7 : Int} {v_6 : Bool} {r : Res} (h : S cx 57 (NG57_2 next_0 but_1 out_2 todo_3 k_4 v_5 v_7 v_6) = some r) : S cx 57 (G57_2 next_0 but_1 out_2 todo_3 k_4 v_5 v_7 v_6) = some r :=
  pw_of (fun call hd hb pt rg => by kernel_rfl) h
noncomputable def N58 (l_0 : List TV) : Nd :=
  .bif (decide (((l_0.length : Nat) : Int) ≤ 60))
  (C54 l_0 8 fun v_2caf =>
    .ret [tb v_2caf] [])
  (.ret [tb false] [])
theorem e58 {l_0 : List TV} {r : Res} (h : S cx 58 (N58 l_0) = some r) : tw cx 58 [sl true ⟨6, false⟩ l_0] = some r :=
  tw_of (fun call hd hb pt rg => by kernel_rfl) h
end Go.Tree.Q

/- Trees of values: program points of functions. -/
namespace Go.Tree.Q
open Go.Proofs
set_option linter.unusedVariables false
set_option maxRecDepth 20000
noncomputable def EG59_0 (g_0 : List TV) (dom_1 : List TV) : Env := [.val [] (.pt true () (.st [sl false ⟨1, true⟩ g_0])), .un, .un, .val [] (sl false ⟨1, true⟩ dom_1), .val [] (sl false ⟨1, true⟩ (List.replicate (((g_0.length : Nat) : Int).toNat) (sl false ⟨1, false⟩ ([]))))] ++ uns 84
noncomputable abbrev G59_0 (g_0 : List TV) (dom_1 : List TV) : Nd := .go [1, 1] (EG59_0 g_0 dom_1)
noncomputable def EH59_1 (g_0 : List TV) (dom_1 : List TV) (next_3 : List TV) (v_2 : Int) : Env := [.val [] (.pt true () (.st [sl false ⟨1, true⟩ g_0])), .un, .un, .val [] (sl false ⟨1, true⟩ dom_1), .val [] (sl false ⟨1, true⟩ next_3)] ++ uns 22 ++ [.val [] (sl true ⟨1, true⟩ g_0), .val [] (i64 ((g_0.length : Nat) : Int)), .val [] (i64 v_2)] ++ uns 59
noncomputable abbrev H59_1 (g_0 : List TV) (dom_1 : List TV) (next_3 : List TV) (v_2 : Int) : Nd := .head [1, 1, 0, 1, 2] (EH59_1 g_0 dom_1 next_3 v_2)
noncomputable abbrev B59_1 (g_0 : List TV) (dom_1 : List TV) (next_3 : List TV) (v_2 : Int) : Nd := .back [1, 1, 0, 1, 2] (EH59_1 g_0 dom_1 next_3 v_2)
noncomputable def EH59_2 (g_0 : List TV) (dom_1 : List TV) (next_3 : List TV) (from_5 : Int) (v_6 : Int) (v_2 : List TV) (v_4 : Int) : Env := [.val [] (.pt true () (.st [sl false ⟨1, true⟩ g_0])), .un, .un, .val [] (sl false ⟨1, true⟩ dom_1), .val [] (sl false ⟨1, true⟩ next_3), .val [] (i64 from_5)] ++ uns 21 ++ [.val [] (sl true ⟨1, true⟩ g_0), .val [] (i64 ((g_0.length : Nat) : Int)), .val [] (i64 v_6), .un, .un, .un, .un, .val [] (sl true ⟨1, false⟩ v_2), .val [] (i64 ((v_2.length : Nat) : Int)), .val [] (i64 v_4)] ++ uns 52
noncomputable abbrev H59_2 (g_0 : List TV) (dom_1 : List TV) (next_3 : List TV) (from_5 : Int) (v_6 : Int) (v_2 : List TV) (v_4 : Int) : Nd := .head [1, 1, 0, 1, 2, 5, 1, 1, 0, 2, 1, 1, 2] (EH59_2 g_0 dom_1 next_3 from_5 v_6 v_2 v_4)
noncomputable abbrev B59_2 (g_0 : List TV) (dom_1 : List TV) (next_3 : List TV) (from_5 : Int) (v_6 : Int) (v_2 : List TV) (v_4 : Int) : Nd := .back [1, 1, 0, 1, 2, 5, 1, 1, 0, 2, 1, 1, 2] (EH59_2 g_0 dom_1 next_3 from_5 v_6 v_2 v_4)
noncomputable def EH59_3 (next_1 : List TV) (v_0 : List TV) (v_2 : Int) : Env := [.un, .un, .un, .un, .val [] (sl false ⟨1, true⟩ next_1)] ++ uns 60 ++ [.val [] (sl false ⟨1, false⟩ v_0), .val [] (i64 ((v_0.length : Nat) : Int)), .val [] (i64 v_2)] ++ uns 21
noncomputable abbrev H59_3 (next_1 : List TV) (v_0 : List TV) (v_2 : Int) : Nd := .head [1, 1, 1, 0, 1, 2] (EH59_3 next_1 v_0 v_2)
noncomputable abbrev B59_3 (next_1 : List TV) (v_0 : List TV) (v_2 : Int) : Nd := .back [1, 1, 1, 0, 1, 2] (EH59_3 next_1 v_0 v_2)
noncomputable def EH59_4 (next_0 : List TV) (k_1 : Int) (v_2 : List TV) (v_5 : Int) (v_3 : Int) (v_4 : Int) : Env := [.un, .un, .un, .un, .val [] (sl false ⟨1, true⟩ next_0), .un, .un, .un, .un, .un, .val [] (i64 k_1)] ++ uns 54 ++ [.val [] (sl false ⟨1, false⟩ v_2), .val [] (i64 ((v_2.length : Nat) : Int)), .val [] (i64 v_5), .un, .un, .un, .un, .un, .un, .ref 4 [.i 36 (0 + k_1.toNat)] none 36 false, .val [] (i64 v_3), .val [] (i64 v_4)] ++ uns 12
noncomputable abbrev H59_4 (next_0 : List TV) (k_1 : Int) (v_2 : List TV) (v_5 : Int) (v_3 : Int) (v_4 : Int) : Nd := .head [1, 1, 1, 0, 1, 2, 5, 1, 1, 0, 2, 1, 1, 2] (EH59_4 next_0 k_1 v_2 v_5 v_3 v_4)
noncomputable abbrev B59_4 (next_0 : List TV) (k_1 : Int) (v_2 : List TV) (v_5 : Int) (v_3 : Int) (v_4 : Int) : Nd := .back [1, 1, 1, 0, 1, 2, 5, 1, 1, 0, 2, 1, 1, 2] (EH59_4 next_0 k_1 v_2 v_5 v_3 v_4)
noncomputable def N59_s0 (g_0 : List TV) : Nd :=
  C44 g_0 fun vs_e1e5 =>
  .ck (deepL [sl false ⟨1, true⟩ vs_e1e5]) <|
  .ck (decide ((0 : Int) ≤ ((g_0.length : Nat) : Int)) && decide (((g_0.length : Nat) : Int) ≤ ((g_0.length : Nat) : Int)) && decide (((g_0.length : Nat) : Int) * 24 < (lim : Int)) && decide (((g_0.length : Nat) : Int) < 9223372036854775807) && true && true) <|
  G59_0 g_0 vs_e1e5
noncomputable def N59_s1 (g_0 : List TV) : Nd :=
  .ck (decide ((0 : Int) ≤ ((g_0.length : Nat) : Int)) && decide (((g_0.length : Nat) : Int) ≤ ((g_0.length : Nat) : Int)) && decide (((g_0.length : Nat) : Int) * 24 < (lim : Int)) && decide (((g_0.length : Nat) : Int) < 9223372036854775807) && true && true) <|
  C44 g_0 fun vs_e1e5 =>
  .ck (deepL [sl false ⟨1, true⟩ vs_e1e5]) <|
  G59_0 g_0 vs_e1e5
noncomputable def N59_s2 (g_0 : List TV) : Nd :=
  .amb2 
  (N59_s0 g_0) 
  (N59_s1 g_0)
noncomputable def N59 (g_0 : List TV) : Nd :=
  .amb2 
  (.amb2 
    (N59_s0 g_0) 
    (N59_s2 g_0)) 
  (.amb2 
    (N59_s2 g_0) 
    (N59_s1 g_0))
theorem e59 {g_0 : List TV} {r : Res} (h : S cx 59 (N59 g_0) = some r) : tw cx 59 [.pt true () (.st [sl false ⟨1, true⟩ g_0])] = some r :=
  tw_of (fun call hd hb pt rg => by kernel_rfl) h
noncomputable def NG59_0 (g_0 : List TV) (dom_1 : List TV) : Nd :=
  H59_1 g_0 dom_1 (List.replicate (((g_0.length : Nat) : Int).toNat) (sl false ⟨1, false⟩ ([]))) 0
theorem eG59_0 {g_0 : List TV} {dom_1 : List TV} {r : Res} (h : S cx 59 (NG59_0 g_0 dom_1) = some r) : S cx 59 (G59_0 g_0 dom_1) = some r :=
  pw_of (fun call hd hb pt rg => by kernel_rfl) h
noncomputable def NH59_1 (g_0 : List TV) (dom_1 : List TV) (next_3 : List TV) (v_2 : Int) : Nd :=
  .bif (decide (v_2 < ((g_0.length : Nat) : Int)))
  (.ck (decide ((0 : Int) ≤ v_2) && decide (v_2 < ((g_0.length : Nat) : Int))) <|
    .slR ⟨1, false⟩ (g_0.getD (0 + v_2.toNat) (.dead ())) fun xs_c14c =>
    H59_2 g_0 dom_1 next_3 v_2 v_2 xs_c14c 0)
  (C57 g_0 0 ([]) fun vs_835b =>
    C45 vs_835b fun vs_cb54 =>
    H59_3 next_3 vs_cb54 0)
theorem eH59_1 {g_0 : List TV} {dom_1 : List TV} {next_3 : List TV} {v_2 : Int} {r : Res} (h : S cx 59 (NH59_1 g_0 dom_1 next_3 v_2) = some r) : S cx 59 (H59_1 g_0 dom_1 next_3 v_2) = some r :=
  hw_of (fun call hd hb pt rg => by kernel_rfl) h
noncomputable def NH59_2_s0 (g_0 : List TV) (dom_1 : List TV) (next_3 : List TV) (from_5 : Int) (v_6 : Int) (v_2 : List TV) (v_4 : Int) (x_3136 : Int) (xs_2803_2 : List TV) : Nd :=
  .bool (xs_2803_2.getD (0 + x_3136.toNat) (.dead ())) fun x_a71f =>
  .bif ((!x_a71f))
  (.ck (decide ((0 : Int) ≤ from_5) && decide (from_5 < ((next_3.length : Nat) : Int))) <|
    .slO ⟨1, false⟩ (next_3.getD (0 + from_5.toNat) (.dead ())) fun vs_9eec =>
    .slO ⟨1, false⟩ (next_3.getD (0 + from_5.toNat) (.dead ())) fun vs_9eec_2 =>
    .ck (decide ((vs_9eec_2.length + ([i64 x_3136] : List TV).length) * 8 < lim)) <|
    .ck (decide ((0 : Int) ≤ from_5) && decide (from_5 < (((next_3.set (0 + from_5.toNat) (.dead ())).length : Nat) : Int))) <|
    B59_2 g_0 dom_1 ((next_3.set (0 + from_5.toNat) (.dead ())).set (0 + from_5.toNat) (sl false ⟨1, false⟩ (vs_9eec_2 ++ ([i64 x_3136])))) from_5 v_6 v_2 (w64 (v_4 + 1)))
  (B59_2 g_0 dom_1 next_3 from_5 v_6 v_2 (w64 (v_4 + 1)))
noncomputable def NH59_2_s1 (g_0 : List TV) (dom_1 : List TV) (next_3 : List TV) (from_5 : Int) (v_6 : Int) (v_2 : List TV) (v_4 : Int) (x_3136 : Int) (xs_2803 : List TV) : Nd :=
  .ck (decide ((0 : Int) ≤ x_3136) && decide (x_3136 < ((xs_2803.length : Nat) : Int))) <|
  .slB ⟨1, false⟩ (dom_1.getD (0 + from_5.toNat) (.dead ())) fun r xs_2803_2 => bif r then 
  (NH59_2_s0 g_0 dom_1 next_3 from_5 v_6 v_2 v_4 x_3136 xs_2803_2)
  else (NH59_2_s0 g_0 dom_1 next_3 from_5 v_6 v_2 v_4 x_3136 xs_2803_2)
noncomputable def NH59_2 (g_0 : List TV) (dom_1 : List TV) (next_3 : List TV) (from_5 : Int) (v_6 : Int) (v_2 : List TV) (v_4 : Int) : Nd :=
  .bif (decide (v_4 < ((v_2.length : Nat) : Int)))
  (.ck (decide ((0 : Int) ≤ v_4) && decide (v_4 < ((v_2.length : Nat) : Int))) <|
    .int .i64 (v_2.getD (0 + v_4.toNat) (.dead ())) fun x_3136 =>
    .ck (decide ((0 : Int) ≤ from_5) && decide (from_5 < ((dom_1.length : Nat) : Int))) <|
    .slO ⟨1, false⟩ (dom_1.getD (0 + from_5.toNat) (.dead ())) fun vs_592c =>
    .slB ⟨1, false⟩ (dom_1.getD (0 + from_5.toNat) (.dead ())) fun r xs_2803 => bif r then 
    (NH59_2_s1 g_0 dom_1 next_3 from_5 v_6 v_2 v_4 x_3136 xs_2803)
    else (NH59_2_s1 g_0 dom_1 next_3 from_5 v_6 v_2 v_4 x_3136 xs_2803))
  (B59_1 g_0 dom_1 next_3 (w64 (v_6 + 1)))
theorem eH59_2 {g_0 : List TV} {dom_1 : List TV} {next_3 : List TV} {from_5 : Int} {v_6 : Int} {v_2 : List TV} {v_4 : Int} {r : Res} (h : S cx 59 (NH59_2 g_0 dom_1 next_3 from_5 v_6 v_2 v_4) = some r) : S cx 59 (H59_2 g_0 dom_1 next_3 from_5 v_6 v_2 v_4) = some r :=
  hw_of (fun call hd hb pt rg => by kernel_rfl) h
noncomputable def NH59_3 (next_1 : List TV) (v_0 : List TV) (v_2 : Int) : Nd :=
  .bif (decide (v_2 < ((v_0.length : Nat) : Int)))
  (.ck (decide ((0 : Int) ≤ v_2) && decide (v_2 < ((v_0.length : Nat) : Int))) <|
    .int .i64 (v_0.getD (0 + v_2.toNat) (.dead ())) fun x_b1ad =>
    .ck (decide ((0 : Int) ≤ x_b1ad) && decide (x_b1ad < ((next_1.length : Nat) : Int))) <|
    .slO ⟨1, false⟩ (next_1.getD (0 + x_b1ad.toNat) (.dead ())) fun vs_099c =>
    .slB ⟨1, false⟩ (next_1.getD (0 + x_b1ad.toNat) (.dead ())) fun r xs_8615 => bif r then 
    (H59_4 next_1 x_b1ad v_0 v_2 ((xs_8615.length : Nat) : Int) 0)
    else (H59_4 next_1 x_b1ad v_0 v_2 ((xs_8615.length : Nat) : Int) 0))
  (.ret [tb true] [])
theorem eH59_3 {next_1 : List TV} {v_0 : List TV} {v_2 : Int} {r : Res} (h : S cx 59 (NH59_3 next_1 v_0 v_2) = some r) : S cx 59 (H59_3 next_1 v_0 v_2) = some r :=
  hw_of (fun call hd hb pt rg => by kernel_rfl) h
noncomputable def NH59_4_s0 (next_0 : List TV) (k_1 : Int) (v_2 : List TV) (v_5 : Int) (v_3 : Int) (v_4 : Int) (xs_40c6_2 : List TV) : Nd :=
  .int .i64 (xs_40c6_2.getD (0 + v_4.toNat) (.dead ())) fun x_3b74 =>
  C57 next_0 x_3b74 ([]) fun vs_385d =>
  .ck (decide ((0 : Int) ≤ k_1) && decide (k_1 < ((vs_385d.length : Nat) : Int))) <|
  .bool (vs_385d.getD (0 + k_1.toNat) (.dead ())) fun x_0dd7 =>
  .bif (x_0dd7)
  (.ret [tb false] [])
  (B59_4 next_0 k_1 v_2 v_5 v_3 (w64 (v_4 + 1)))
noncomputable def NH59_4_s1 (next_0 : List TV) (k_1 : Int) (v_2 : List TV) (v_5 : Int) (v_3 : Int) (v_4 : Int) (xs_40c6 : List TV) : Nd :=
  .ck (decide ((0 : Int) ≤ v_4) && decide (v_4 < ((xs_40c6.length : Nat) : Int))) <|
  .slB ⟨1, false⟩ (next_0.getD (0 + k_1.toNat) (.dead ())) fun r xs_40c6_2 => bif r then 
  (NH59_4_s0 next_0 k_1 v_2 v_5 v_3 v_4 xs_40c6_2)
  else (NH59_4_s0 next_0 k_1 v_2 v_5 v_3 v_4 xs_40c6_2)
noncomputable def NH59_4 (next_0 : List TV) (k_1 : Int) (v_2 : List TV) (v_5 : Int) (v_3 : Int) (v_4 : Int) : Nd :=
  .bif (decide (v_4 < v_3))
  (.slB ⟨1, false⟩ (next_0.getD (0 + k_1.toNat) (.dead ())) fun r xs_40c6 => bif r then 
    (NH59_4_s1 next_0 k_1 v_2 v_5 v_3 v_4 xs_40c6)
    else (NH59_4_s1 next_0 k_1 v_2 v_5 v_3 v_4 xs_40c6))
  (B59_3 next_0 v_2 (w64 (v_5 + 1)))
theorem eH59_4 {next_0 : List TV} {k_1 : Int} {v_2 : List TV} {v_5 : Int} {v_3 : Int} {v_4 : Int} {r : Res} (h : S cx 59 (NH59_4 next_0 k_1 v_2 v_5 v_3 v_4) = some r) : S cx 59 (H59_4 next_0 k_1 v_2 v_5 v_3 v_4) = some r :=
  hw_of (fun call hd hb pt rg => by kernel_rfl) h
noncomputable def N60 (s_0 : List TV) : Nd :=
  .isNil s_0
  (.amb2 
    (.ret [sl false ⟨1, false⟩ ([])] []) 
    (.ck (decide ((0 + s_0.length) * 8 < lim)) <|
      .ret [sl false ⟨1, false⟩ (([]) ++ s_0)] []))
  (.ck (decide ((0 + s_0.length) * 8 < lim)) <|
    .ret [sl false ⟨1, false⟩ (([]) ++ s_0)] [])
theorem e60 {s_0 : List TV} {r : Res} (h : S cx 60 (N60 s_0) = some r) : tw cx 60 [sl true ⟨1, false⟩ s_0] = some r :=
  tw_of (fun call hd hb pt rg => by kernel_rfl) h
noncomputable def N61 (x_0 : List TV) : Nd :=
  C77 (IntKind.u64.wrap (((x_0.length : Nat) : Int))) fun v_9897 =>
  C76 x_0 0 ((x_0.length : Nat) : Int) v_9897 fun vs_1bde =>
  .ret [] [sl false ⟨1, false⟩ vs_1bde]
theorem e61 {x_0 : List TV} {r : Res} (h : S cx 61 (N61 x_0) = some r) : tw cx 61 [sl false ⟨1, false⟩ x_0] = some r :=
  tw_of (fun call hd hb pt rg => by kernel_rfl) h
noncomputable def EH62_0 (k_1 : Int) (s_0 : List TV) : Env := [.ref 61 [] none 36 false, .un, .un, .val [] (i64 k_1)] ++ uns 57 ++ [.val [] (sl false ⟨1, false⟩ s_0)]
noncomputable abbrev H62_0 (k_1 : Int) (s_0 : List TV) : Nd := .head [1, 1, 0, 1, 2] (EH62_0 k_1 s_0)
noncomputable abbrev B62_0 (k_1 : Int) (s_0 : List TV) : Nd := .back [1, 1, 0, 1, 2] (EH62_0 k_1 s_0)
noncomputable def EH62_1 (k_1 : Int) (s2_4 : Nat) (s2_2 : Nat) (k2_3 : Int) (s_0 : List TV) : Env := [.ref 61 [] none 36 false, .un, .un, .val [] (i64 k_1), .ref 61 [] (some (s2_4, s2_2)) 36 false, .val [] (i64 k2_3)] ++ uns 55 ++ [.val [] (sl false ⟨1, false⟩ s_0)]
noncomputable abbrev H62_1 (k_1 : Int) (s2_4 : Nat) (s2_2 : Nat) (k2_3 : Int) (s_0 : List TV) : Nd := .head [1, 1, 0, 1, 2, 5, 1, 0, 2, 1, 3, 1, 0, 1, 2] (EH62_1 k_1 s2_4 s2_2 k2_3 s_0)
noncomputable abbrev B62_1 (k_1 : Int) (s2_4 : Nat) (s2_2 : Nat) (k2_3 : Int) (s_0 : List TV) : Nd := .back [1, 1, 0, 1, 2, 5, 1, 0, 2, 1, 3, 1, 0, 1, 2] (EH62_1 k_1 s2_4 s2_2 k2_3 s_0)
noncomputable def N62 (s_0 : List TV) : Nd :=
  .bif (decide (((s_0.length : Nat) : Int) < 2))
  (.ret [sl false ⟨1, false⟩ s_0] [])
  (H62_0 1 s_0)
theorem e62 {s_0 : List TV} {r : Res} (h : S cx 62 (N62 s_0) = some r) : tw cx 62 [sl false ⟨1, false⟩ s_0] = some r :=
  tw_of (fun call hd hb pt rg => by kernel_rfl) h
noncomputable def NH62_0 (k_1 : Int) (s_0 : List TV) : Nd :=
  .bif (decide (k_1 < ((s_0.length : Nat) : Int)))
  (.ck (decide ((0 : Int) ≤ k_1) && decide (k_1 < ((s_0.length : Nat) : Int))) <|
    .int .i64 (s_0.getD (0 + k_1.toNat) (.dead ())) fun x_0cb5 =>
    .ck (decide ((0 : Int) ≤ w64 (k_1 - 1)) && decide (w64 (k_1 - 1) < ((s_0.length : Nat) : Int))) <|
    .int .i64 (s_0.getD (0 + (w64 (k_1 - 1)).toNat) (.dead ())) fun x_82f2 =>
    .bif ((x_0cb5 == x_82f2))
    (.ck (decide ((0 : Int) ≤ k_1) && decide (k_1 ≤ ((s_0.length : Nat) : Int)) && decide (((s_0.length : Nat) : Int) ≤ ((s_0.length : Nat) : Int))) <|
      H62_1 k_1 (0 + k_1.toNat) ((((s_0.length : Nat) : Int) - k_1).toNat) 1 s_0)
    (B62_0 (w64 (k_1 + 1)) s_0))
  (.ret [sl false ⟨1, false⟩ s_0] [])
theorem eH62_0 {k_1 : Int} {s_0 : List TV} {r : Res} (h : S cx 62 (NH62_0 k_1 s_0) = some r) : S cx 62 (H62_0 k_1 s_0) = some r :=
  hw_of (fun call hd hb pt rg => by kernel_rfl) h
noncomputable def NH62_1 (k_1 : Int) (s2_4 : Nat) (s2_2 : Nat) (k2_3 : Int) (s_0 : List TV) : Nd :=
  .bif (decide (k2_3 < ((s2_2 : Nat) : Int)))
  (.ck (decide ((0 : Int) ≤ k2_3) && decide (k2_3 < ((s2_2 : Nat) : Int))) <|
    .int .i64 (s_0.getD (s2_4 + k2_3.toNat) (.dead ())) fun x_db8f =>
    .ck (decide ((0 : Int) ≤ w64 (k2_3 - 1)) && decide (w64 (k2_3 - 1) < ((s2_2 : Nat) : Int))) <|
    .int .i64 (s_0.getD (s2_4 + (w64 (k2_3 - 1)).toNat) (.dead ())) fun x_fa7b =>
    .bif ((x_db8f != x_fa7b))
    (.ck (decide ((0 : Int) ≤ k2_3) && decide (k2_3 < ((s2_2 : Nat) : Int))) <|
      .int .i64 (s_0.getD (s2_4 + k2_3.toNat) (.dead ())) fun x_db8f_2 =>
      .ck (decide ((0 : Int) ≤ k_1) && decide (k_1 < ((s_0.length : Nat) : Int))) <|
      B62_1 (w64 (k_1 + 1)) s2_4 s2_2 (w64 (k2_3 + 1)) (s_0.set (0 + k_1.toNat) (i64 x_db8f_2)))
    (B62_1 k_1 s2_4 s2_2 (w64 (k2_3 + 1)) s_0))
  (.ck (decide ((0 : Int) ≤ k_1) && decide (k_1 ≤ ((s_0.length : Nat) : Int)) && decide (((s_0.length : Nat) : Int) ≤ ((s_0.length : Nat) : Int))) <|
    .ck (decide ((0 : Int) ≤ k_1) && decide (k_1 ≤ (((cpyS (some ((0 + k_1.toNat), (((s_0.length : Nat) : Int) - k_1).toNat)) s_0 (List.replicate ((((s_0.length : Nat) : Int) - k_1).toNat) (i64 0))).length : Nat) : Int))) <|
    .ret [sl false ⟨1, false⟩ (((cpyS (some ((0 + k_1.toNat), (((s_0.length : Nat) : Int) - k_1).toNat)) s_0 (List.replicate ((((s_0.length : Nat) : Int) - k_1).toNat) (i64 0))).drop 0).take ((k_1 - 0).toNat))] [])
theorem eH62_1 {k_1 : Int} {s2_4 : Nat} {s2_2 : Nat} {k2_3 : Int} {s_0 : List TV} {r : Res} (h : S cx 62 (NH62_1 k_1 s2_4 s2_2 k2_3 s_0) = some r) : S cx 62 (H62_1 k_1 s2_4 s2_2 k2_3 s_0) = some r :=
  hw_of (fun call hd hb pt rg => by kernel_rfl) h
noncomputable def N65 (a_0 : Int) (a_1 : Int) (a_2 : Int) (a_3 : Int) (a_4 : Int) (a_5 : Int) (b_6 : Int) (b_7 : Int) (b_8 : Int) (b_9 : Int) (b_10 : Int) (b_11 : Int) : Nd :=
  .bif ((a_0 != b_6))
  (.ret [tb false] [])
  (.bif ((a_1 != b_7))
    (.ret [tb false] [])
    (.bif ((a_2 != b_8))
      (.ret [tb false] [])
      (.bif ((a_3 != b_9))
        (.ret [tb false] [])
        (.bif ((a_4 != b_10))
          (.ret [tb false] [])
          (.bif ((a_5 != b_11))
            (.ret [tb false] [])
            (.ret [tb true] []))))))
theorem e65 {a_0 : Int} {a_1 : Int} {a_2 : Int} {a_3 : Int} {a_4 : Int} {a_5 : Int} {b_6 : Int} {b_7 : Int} {b_8 : Int} {b_9 : Int} {b_10 : Int} {b_11 : Int} {r : Res} (h : S cx 65 (N65 a_0 a_1 a_2 a_3 a_4 a_5 b_6 b_7 b_8 b_9 b_10 b_11) = some r) : tw cx 65 [.st [i64 a_0, i64 a_1, i64 a_2, i64 a_3, i64 a_4, i64 a_5], .st [i64 b_6, i64 b_7, i64 b_8, i64 b_9, i64 b_10, i64 b_11]] = some r :=
  tw_of (fun call hd hb pt rg => by kernel_rfl) h
noncomputable def N66 (n_0 : Int) : Nd :=
  C48 n_0 0 11 fun v_9f71 =>
  .ret [tb v_9f71] []
theorem e66 {n_0 : Int} {r : Res} (h : S cx 66 (N66 n_0) = some r) : tw cx 66 [i64 n_0] = some r :=
  tw_of (fun call hd hb pt rg => by kernel_rfl) h
noncomputable def EH67_0 (s_0 : List TV) (f_1 : List TV) (v_2 : Int) : Env := [.val [] (sl true ⟨4, true⟩ s_0), .val [] (.cl 53 [.pt true () (sl true ⟨4, true⟩ f_1)]), .un, .un, .un, .un, .un, .val [] (i64 ((s_0.length : Nat) : Int)), .val [] (i64 v_2)] ++ uns 12
noncomputable abbrev H67_0 (s_0 : List TV) (f_1 : List TV) (v_2 : Int) : Nd := .head [1, 0, 1, 2] (EH67_0 s_0 f_1 v_2)
noncomputable abbrev B67_0 (s_0 : List TV) (f_1 : List TV) (v_2 : Int) : Nd := .back [1, 0, 1, 2] (EH67_0 s_0 f_1 v_2)
noncomputable def N67 (s_0 : List TV) (f_1 : List TV) : Nd :=
  H67_0 s_0 f_1 0
theorem e67 {s_0 : List TV} {f_1 : List TV} {r : Res} (h : S cx 67 (N67 s_0 f_1) = some r) : tw cx 67 [sl true ⟨4, true⟩ s_0, .cl 53 [.pt true () (sl true ⟨4, true⟩ f_1)]] = some r :=
  tw_of (fun call hd hb pt rg => by kernel_rfl) h
noncomputable def NH67_0 (s_0 : List TV) (f_1 : List TV) (v_2 : Int) : Nd :=
  .bif (decide (v_2 < ((s_0.length : Nat) : Int)))
  (.ck (decide ((0 : Int) ≤ v_2) && decide (v_2 < ((s_0.length : Nat) : Int))) <|
    V4 (s_0.getD (0 + v_2.toNat) (.dead ())) fun codes_8806 go_0bb1 test_8cba nexts_1f22 =>
    C53 codes_8806 go_0bb1 test_8cba nexts_1f22 f_1 fun v_eda6 =>
    .bif (v_eda6)
    (.ret [i64 v_2] [])
    (B67_0 s_0 f_1 (w64 (v_2 + 1))))
  (.ret [i64 (-1)] [])
theorem eH67_0 {s_0 : List TV} {f_1 : List TV} {v_2 : Int} {r : Res} (h : S cx 67 (NH67_0 s_0 f_1 v_2) = some r) : S cx 67 (H67_0 s_0 f_1 v_2) = some r :=
  hw_of (fun call hd hb pt rg => by kernel_rfl) h
noncomputable def N68 (s_0 : List TV) (f_1 : Int) : Nd :=
  C78 s_0 f_1 fun v_a3ba =>
  .ret [tb (decide (v_a3ba ≥ 0))] []
theorem e68 {s_0 : List TV} {f_1 : Int} {r : Res} (h : S cx 68 (N68 s_0 f_1) = some r) : tw cx 68 [sl true ⟨6, false⟩ s_0, .cl 69 [.pt true () (i64 f_1)]] = some r :=
  tw_of (fun call hd hb pt rg => by kernel_rfl) h
noncomputable def N69 (x_0 : Int) (x_1 : Int) (x_2 : Int) (x_3 : Int) (x_4 : Int) (x_5 : Int) (v_6 : Int) : Nd :=
  C70 x_0 x_1 x_2 x_3 x_4 x_5 v_6 fun v_5ea7 =>
  .ret [tb (!v_5ea7)] []
theorem e69 {x_0 : Int} {x_1 : Int} {x_2 : Int} {x_3 : Int} {x_4 : Int} {x_5 : Int} {v_6 : Int} {r : Res} (h : S cx 69 (N69 x_0 x_1 x_2 x_3 x_4 x_5 v_6) = some r) : tw cx 69 [.st [i64 x_0, i64 x_1, i64 x_2, i64 x_3, i64 x_4, i64 x_5], .pt true () (i64 v_6)] = some r :=
  tw_of (fun call hd hb pt rg => by kernel_rfl) h
noncomputable def N70_s0 (x_1 : Int) (do_5b0e : Bool) : Nd :=
  .bif (do_5b0e)
  (C82 x_1 fun v_8771 =>
    .bif (v_8771)
    (.ret [tb true] [])
    (.bif ((!do_5b0e))
      (.ret [tb (x_1 == 0)] [])
      (.ret [tb false] [])))
  (.bif ((!do_5b0e))
    (.ret [tb (x_1 == 0)] [])
    (.ret [tb false] []))
noncomputable def N70_s1 (x_1 : Int) (x_5 : Int) (n_773f : Bool) (do_5b0e : Bool) : Nd :=
  .bif ((!n_773f))
  (.bif ((x_5 == 0))
    (N70_s0 x_1 do_5b0e)
    (.ret [tb false] []))
  (.ret [tb false] [])
noncomputable def N70 (x_0 : Int) (x_1 : Int) (x_2 : Int) (x_3 : Int) (x_4 : Int) (x_5 : Int) (many_6 : Int) : Nd :=
  C79 x_0 fun dst_38e8 a_bb22 b_c6d6 n_773f do_5b0e v_9cca =>
  .bif ((!v_9cca))
  (.ret [tb false] [])
  (C80 dst_38e8 x_2 many_6 fun v_46f3 =>
    .bif ((!v_46f3))
    (.ret [tb false] [])
    (C80 a_bb22 x_3 many_6 fun v_71f6 =>
      .bif ((!v_71f6))
      (.ret [tb false] [])
      (C80 b_c6d6 x_4 many_6 fun v_d467 =>
        .bif ((!v_d467))
        (.ret [tb false] [])
        (.bif (n_773f)
          (C81 x_5 fun v_f199 =>
            .bif (v_f199)
            (N70_s0 x_1 do_5b0e)
            (N70_s1 x_1 x_5 n_773f do_5b0e))
          (N70_s1 x_1 x_5 n_773f do_5b0e)))))
theorem e70 {x_0 : Int} {x_1 : Int} {x_2 : Int} {x_3 : Int} {x_4 : Int} {x_5 : Int} {many_6 : Int} {r : Res} (h : S cx 70 (N70 x_0 x_1 x_2 x_3 x_4 x_5 many_6) = some r) : tw cx 70 [.st [i64 x_0, i64 x_1, i64 x_2, i64 x_3, i64 x_4, i64 x_5], i64 many_6] = some r :=
  tw_of (fun call hd hb pt rg => by kernel_rfl) h
noncomputable def N71 (kind_0 : Int) : Nd :=
  .bif ((kind_0 == 2))
  (.ret [tb true] [])
  (.ret [tb (kind_0 == 5)] [])
theorem e71 {kind_0 : Int} {r : Res} (h : S cx 71 (N71 kind_0) = some r) : tw cx 71 [i64 kind_0] = some r :=
  tw_of (fun call hd hb pt rg => by kernel_rfl) h
noncomputable def N72 (s_0 : List TV) (f_1 : Int) : Nd :=
  C83 s_0 f_1 fun v_737f =>
  .ret [tb (decide (v_737f ≥ 0))] []
theorem e72 {s_0 : List TV} {f_1 : Int} {r : Res} (h : S cx 72 (N72 s_0 f_1) = some r) : tw cx 72 [sl true ⟨1, false⟩ s_0, .cl 73 [.pt true () (i64 f_1)]] = some r :=
  tw_of (fun call hd hb pt rg => by kernel_rfl) h
noncomputable def N73 (k_0 : Int) (v_1 : Int) : Nd :=
  C51 k_0 0 (w64 (v_1 - 1)) fun v_a8ab =>
  .ret [tb (!v_a8ab)] []
theorem e73 {k_0 : Int} {v_1 : Int} {r : Res} (h : S cx 73 (N73 k_0 v_1) = some r) : tw cx 73 [i64 k_0, .pt true () (i64 v_1)] = some r :=
  tw_of (fun call hd hb pt rg => by kernel_rfl) h
noncomputable def EH74_0 (s_0 : List TV) (v_1 : Bool) (v_2 : Int) : Env := [.val [] (sl true ⟨1, false⟩ s_0), .val [] (tb v_1), .un, .un, .un, .un, .un, .val [] (i64 ((s_0.length : Nat) : Int)), .val [] (i64 v_2)] ++ uns 12
noncomputable abbrev H74_0 (s_0 : List TV) (v_1 : Bool) (v_2 : Int) : Nd := .head [1, 0, 1, 2] (EH74_0 s_0 v_1 v_2)
noncomputable abbrev B74_0 (s_0 : List TV) (v_1 : Bool) (v_2 : Int) : Nd := .back [1, 0, 1, 2] (EH74_0 s_0 v_1 v_2)
noncomputable def N74 (s_0 : List TV) (v_1 : Bool) : Nd :=
  H74_0 s_0 v_1 0
theorem e74 {s_0 : List TV} {v_1 : Bool} {r : Res} (h : S cx 74 (N74 s_0 v_1) = some r) : tw cx 74 [sl true ⟨1, false⟩ s_0, tb v_1] = some r :=
  tw_of (fun call hd hb pt rg => by kernel_rfl) h
noncomputable def NH74_0 (s_0 : List TV) (v_1 : Bool) (v_2 : Int) : Nd :=
  .bif (decide (v_2 < ((s_0.length : Nat) : Int)))
  (.ck (decide ((0 : Int) ≤ v_2) && decide (v_2 < ((s_0.length : Nat) : Int))) <|
    .bool (s_0.getD (0 + v_2.toNat) (.dead ())) fun x_5429 =>
    .bif ((v_1 == x_5429))
    (.ret [i64 v_2] [])
    (B74_0 s_0 v_1 (w64 (v_2 + 1))))
  (.ret [i64 (-1)] [])
theorem eH74_0 {s_0 : List TV} {v_1 : Bool} {v_2 : Int} {r : Res} (h : S cx 74 (NH74_0 s_0 v_1 v_2) = some r) : S cx 74 (H74_0 s_0 v_1 v_2) = some r :=
  hw_of (fun call hd hb pt rg => by kernel_rfl) h
noncomputable def N75 (s_0 : List TV) (v_1 : Int) : Nd :=
  C84 s_0 v_1 fun v_d84e =>
  .ret [tb (decide (v_d84e ≥ 0))] []
theorem e75 {s_0 : List TV} {v_1 : Int} {r : Res} (h : S cx 75 (N75 s_0 v_1) = some r) : tw cx 75 [sl true ⟨1, false⟩ s_0, i64 v_1] = some r :=
  tw_of (fun call hd hb pt rg => by kernel_rfl) h
noncomputable def EH76_0 (a_0 : Int) (b_1 : Int) (limit_2 : Int) (wasBalanced_4 : Bool) (wasPartitioned_5 : Bool) (data_3 : List TV) : Env := [.ref 134 [] none 36 false, .val [] (i64 a_0), .val [] (i64 b_1), .val [] (i64 limit_2), .un, .un, .un, .un, .val [] (tb wasBalanced_4), .val [] (tb wasPartitioned_5)] ++ uns 124 ++ [.val [] (sl false ⟨1, false⟩ data_3), .un, .un, .un]
noncomputable abbrev H76_0 (a_0 : Int) (b_1 : Int) (limit_2 : Int) (wasBalanced_4 : Bool) (wasPartitioned_5 : Bool) (data_3 : List TV) : Nd := .head [1, 1, 2] (EH76_0 a_0 b_1 limit_2 wasBalanced_4 wasPartitioned_5 data_3)
noncomputable def EG76_1 (a_0 : Int) (b_1 : Int) (limit_2 : Int) (wasBalanced_4 : Bool) (wasPartitioned_5 : Bool) (data_3 : List TV) : Env := [.ref 134 [] none 36 false, .val [] (i64 a_0), .val [] (i64 b_1), .val [] (i64 limit_2), .un, .un, .un, .un, .val [] (tb wasBalanced_4), .val [] (tb wasPartitioned_5), .val [] (i64 (w64 (b_1 - a_0)))] ++ uns 123 ++ [.val [] (sl false ⟨1, false⟩ data_3), .un, .un, .un]
noncomputable abbrev G76_1 (a_0 : Int) (b_1 : Int) (limit_2 : Int) (wasBalanced_4 : Bool) (wasPartitioned_5 : Bool) (data_3 : List TV) : Nd := .go [1, 1, 2, 5, 2, 1, 1, 1, 1] (EG76_1 a_0 b_1 limit_2 wasBalanced_4 wasPartitioned_5 data_3)
noncomputable def N76 (data_0 : List TV) (a_1 : Int) (b_2 : Int) (limit_3 : Int) : Nd :=
  H76_0 a_1 b_2 limit_3 true true data_0
theorem e76 {data_0 : List TV} {a_1 : Int} {b_2 : Int} {limit_3 : Int} {r : Res} (h : S cx 76 (N76 data_0 a_1 b_2 limit_3) = some r) : tw cx 76 [sl false ⟨1, false⟩ data_0, i64 a_1, i64 b_2, i64 limit_3] = some r :=
  tw_of (fun call hd hb pt rg => by kernel_rfl) h
noncomputable def NH76_0 (a_0 : Int) (b_1 : Int) (limit_2 : Int) (wasBalanced_4 : Bool) (wasPartitioned_5 : Bool) (data_3 : List TV) : Nd :=
  .bif (decide (w64 (b_1 - a_0) ≤ 12))
  (C85 data_3 a_0 b_1 fun vs_6617 =>
    .ret [] [sl false ⟨1, false⟩ vs_6617])
  (.bif ((limit_2 == 0))
    (C86 data_3 a_0 b_1 fun vs_e6e9 =>
      .ret [] [sl false ⟨1, false⟩ vs_e6e9])
    (.bif ((!wasBalanced_4))
      (C87 data_3 a_0 b_1 fun vs_d9db =>
        G76_1 a_0 b_1 (w64 (limit_2 - 1)) wasBalanced_4 wasPartitioned_5 vs_d9db)
      (G76_1 a_0 b_1 limit_2 wasBalanced_4 wasPartitioned_5 data_3)))
theorem eH76_0 {a_0 : Int} {b_1 : Int} {limit_2 : Int} {wasBalanced_4 : Bool} {wasPartitioned_5 : Bool} {data_3 : List TV} {r : Res} (h : S cx 76 (NH76_0 a_0 b_1 limit_2 wasBalanced_4 wasPartitioned_5 data_3) = some r) : S cx 76 (H76_0 a_0 b_1 limit_2 wasBalanced_4 wasPartitioned_5 data_3) = some r :=
  hw_of (fun call hd hb pt rg => by kernel_rfl) h
noncomputable def N77 (x_0 : Int) : Nd :=
  C95 x_0 fun v_aa50 =>
  .ret [i64 v_aa50] []
theorem e77 {x_0 : Int} {r : Res} (h : S cx 77 (N77 x_0) = some r) : tw cx 77 [.fl (.int .u64 x_0)] = some r :=
  tw_of (fun call hd hb pt rg => by kernel_rfl) h
noncomputable def EH78_0 (s_0 : List TV) (f_1 : Int) (v_2 : Int) : Env := [.val [] (sl true ⟨6, false⟩ s_0), .val [] (.cl 69 [.pt true () (i64 f_1)]), .un, .un, .un, .un, .un, .val [] (i64 ((s_0.length : Nat) : Int)), .val [] (i64 v_2)] ++ uns 12
noncomputable abbrev H78_0 (s_0 : List TV) (f_1 : Int) (v_2 : Int) : Nd := .head [1, 0, 1, 2] (EH78_0 s_0 f_1 v_2)
noncomputable abbrev B78_0 (s_0 : List TV) (f_1 : Int) (v_2 : Int) : Nd := .back [1, 0, 1, 2] (EH78_0 s_0 f_1 v_2)
noncomputable def N78 (s_0 : List TV) (f_1 : Int) : Nd :=
  H78_0 s_0 f_1 0
theorem e78 {s_0 : List TV} {f_1 : Int} {r : Res} (h : S cx 78 (N78 s_0 f_1) = some r) : tw cx 78 [sl true ⟨6, false⟩ s_0, .cl 69 [.pt true () (i64 f_1)]] = some r :=
  tw_of (fun call hd hb pt rg => by kernel_rfl) h
noncomputable def NH78_0 (s_0 : List TV) (f_1 : Int) (v_2 : Int) : Nd :=
  .bif (decide (v_2 < ((s_0.length : Nat) : Int)))
  (.ck (decide ((0 : Int) ≤ v_2) && decide (v_2 < ((s_0.length : Nat) : Int))) <|
    V6 (s_0.getD (0 + v_2.toNat) (.dead ())) fun op_5762 do_2a6b dst_68ab a_50bf b_9d57 n_7666 =>
    C69 op_5762 do_2a6b dst_68ab a_50bf b_9d57 n_7666 f_1 fun v_c269 =>
    .bif (v_c269)
    (.ret [i64 v_2] [])
    (B78_0 s_0 f_1 (w64 (v_2 + 1))))
  (.ret [i64 (-1)] [])
theorem eH78_0 {s_0 : List TV} {f_1 : Int} {v_2 : Int} {r : Res} (h : S cx 78 (NH78_0 s_0 f_1 v_2) = some r) : S cx 78 (H78_0 s_0 f_1 v_2) = some r :=
  hw_of (fun call hd hb pt rg => by kernel_rfl) h
noncomputable def EG79_0 (v_0 : Int) (v_1 : Bool) : Env := [.un, .un, .val [] (.pt false () (.st [tb false, tb false, tb false, tb false, tb false])), .un, .val [] (i64 v_0), .un, .un, .un, .val [] (tb v_1)] ++ uns 14
noncomputable abbrev G79_0 (v_0 : Int) (v_1 : Bool) : Nd := .go [1, 0, 1, 2, 1, 4, 1] (EG79_0 v_0 v_1)
noncomputable def N79 (op_0 : Int) : Nd :=
  .bif ((op_0 == 1))
  (.ret [.st [tb true, tb false, tb false, tb true, tb false], tb true] [])
  (.bif ((op_0 == 2))
    (G79_0 op_0 (op_0 == 2))
    (G79_0 op_0 (op_0 == 4)))
theorem e79 {op_0 : Int} {r : Res} (h : S cx 79 (N79 op_0) = some r) : tw cx 79 [i64 op_0] = some r :=
  tw_of (fun call hd hb pt rg => by kernel_rfl) h
noncomputable def NG79_0 (v_0 : Int) (v_1 : Bool) : Nd :=
  .bif (v_1)
  (.ret [.st [tb true, tb true, tb false, tb false, tb false], tb true] [])
  (.bif ((v_0 == 3))
    (.ret [.st [tb true, tb true, tb true, tb false, tb true], tb true] [])
    (.bif ((v_0 == 5))
      (.ret [.st [tb false, tb true, tb true, tb false, tb false], tb true] [])
      (.bif ((v_0 == 6))
        (.ret [.st [tb false, tb true, tb false, tb false, tb false], tb true] [])
        (.ret [.st [tb false, tb false, tb false, tb false, tb false], tb false] []))))
theorem eG79_0 {v_0 : Int} {v_1 : Bool} {r : Res} (h : S cx 79 (NG79_0 v_0 v_1) = some r) : S cx 79 (G79_0 v_0 v_1) = some r :=
  pw_of (fun call hd hb pt rg => by kernel_rfl) h
noncomputable def N80_s0 (has_0 : Bool) (n_1 : Int) (v_2 : Int) : Nd :=
  .bif (has_0)
  (C51 n_1 0 (w64 (v_2 - 1)) fun v_2d5e =>
    .ret [tb v_2d5e] [])
  (.ret [tb false] [])
noncomputable def N80 (has_0 : Bool) (n_1 : Int) (v_2 : Int) : Nd :=
  .bif ((!has_0))
  (.bif ((n_1 == 0))
    (.ret [tb true] [])
    (N80_s0 has_0 n_1 v_2))
  (N80_s0 has_0 n_1 v_2)
theorem e80 {has_0 : Bool} {n_1 : Int} {v_2 : Int} {r : Res} (h : S cx 80 (N80 has_0 n_1 v_2) = some r) : tw cx 80 [tb has_0, i64 n_1, .pt true () (i64 v_2)] = some r :=
  tw_of (fun call hd hb pt rg => by kernel_rfl) h
noncomputable def N81 (n_0 : Int) : Nd :=
  C51 n_0 0 65535 fun v_5ae6 =>
  .ret [tb v_5ae6] []
theorem e81 {n_0 : Int} {r : Res} (h : S cx 81 (N81 n_0) = some r) : tw cx 81 [i64 n_0] = some r :=
  tw_of (fun call hd hb pt rg => by kernel_rfl) h
noncomputable def N82 (op_0 : Int) : Nd :=
  C51 op_0 4 9 fun v_296e =>
  .ret [tb v_296e] []
theorem e82 {op_0 : Int} {r : Res} (h : S cx 82 (N82 op_0) = some r) : tw cx 82 [i64 op_0] = some r :=
  tw_of (fun call hd hb pt rg => by kernel_rfl) h
noncomputable def EH83_0 (s_0 : List TV) (f_1 : Int) (v_2 : Int) : Env := [.val [] (sl true ⟨1, false⟩ s_0), .val [] (.cl 73 [.pt true () (i64 f_1)]), .un, .un, .un, .un, .un, .val [] (i64 ((s_0.length : Nat) : Int)), .val [] (i64 v_2)] ++ uns 12
noncomputable abbrev H83_0 (s_0 : List TV) (f_1 : Int) (v_2 : Int) : Nd := .head [1, 0, 1, 2] (EH83_0 s_0 f_1 v_2)
noncomputable abbrev B83_0 (s_0 : List TV) (f_1 : Int) (v_2 : Int) : Nd := .back [1, 0, 1, 2] (EH83_0 s_0 f_1 v_2)
noncomputable def N83 (s_0 : List TV) (f_1 : Int) : Nd :=
  H83_0 s_0 f_1 0
theorem e83 {s_0 : List TV} {f_1 : Int} {r : Res} (h : S cx 83 (N83 s_0 f_1) = some r) : tw cx 83 [sl true ⟨1, false⟩ s_0, .cl 73 [.pt true () (i64 f_1)]] = some r :=
  tw_of (fun call hd hb pt rg => by kernel_rfl) h
noncomputable def NH83_0 (s_0 : List TV) (f_1 : Int) (v_2 : Int) : Nd :=
  .bif (decide (v_2 < ((s_0.length : Nat) : Int)))
  (.ck (decide ((0 : Int) ≤ v_2) && decide (v_2 < ((s_0.length : Nat) : Int))) <|
    .int .i64 (s_0.getD (0 + v_2.toNat) (.dead ())) fun x_5429 =>
    C73 x_5429 f_1 fun v_0bcd =>
    .bif (v_0bcd)
    (.ret [i64 v_2] [])
    (B83_0 s_0 f_1 (w64 (v_2 + 1))))
  (.ret [i64 (-1)] [])
theorem eH83_0 {s_0 : List TV} {f_1 : Int} {v_2 : Int} {r : Res} (h : S cx 83 (NH83_0 s_0 f_1 v_2) = some r) : S cx 83 (H83_0 s_0 f_1 v_2) = some r :=
  hw_of (fun call hd hb pt rg => by kernel_rfl) h
noncomputable def EH84_0 (s_0 : List TV) (v_1 : Int) (v_2 : Int) : Env := [.val [] (sl true ⟨1, false⟩ s_0), .val [] (i64 v_1), .un, .un, .un, .un, .un, .val [] (i64 ((s_0.length : Nat) : Int)), .val [] (i64 v_2)] ++ uns 12
noncomputable abbrev H84_0 (s_0 : List TV) (v_1 : Int) (v_2 : Int) : Nd := .head [1, 0, 1, 2] (EH84_0 s_0 v_1 v_2)
noncomputable abbrev B84_0 (s_0 : List TV) (v_1 : Int) (v_2 : Int) : Nd := .back [1, 0, 1, 2] (EH84_0 s_0 v_1 v_2)
noncomputable def N84 (s_0 : List TV) (v_1 : Int) : Nd :=
  H84_0 s_0 v_1 0
theorem e84 {s_0 : List TV} {v_1 : Int} {r : Res} (h : S cx 84 (N84 s_0 v_1) = some r) : tw cx 84 [sl true ⟨1, false⟩ s_0, i64 v_1] = some r :=
  tw_of (fun call hd hb pt rg => by kernel_rfl) h
noncomputable def NH84_0 (s_0 : List TV) (v_1 : Int) (v_2 : Int) : Nd :=
  .bif (decide (v_2 < ((s_0.length : Nat) : Int)))
  (.ck (decide ((0 : Int) ≤ v_2) && decide (v_2 < ((s_0.length : Nat) : Int))) <|
    .int .i64 (s_0.getD (0 + v_2.toNat) (.dead ())) fun x_5429 =>
    .bif ((v_1 == x_5429))
    (.ret [i64 v_2] [])
    (B84_0 s_0 v_1 (w64 (v_2 + 1))))
  (.ret [i64 (-1)] [])
theorem eH84_0 {s_0 : List TV} {v_1 : Int} {v_2 : Int} {r : Res} (h : S cx 84 (NH84_0 s_0 v_1 v_2) = some r) : S cx 84 (H84_0 s_0 v_1 v_2) = some r :=
  hw_of (fun call hd hb pt rg => by kernel_rfl) h
noncomputable def EH85_0 (a_0 : Int) (b_1 : Int) (i_3 : Int) (data_2 : List TV) : Env := [.ref 49 [] none 36 false, .val [] (i64 a_0), .val [] (i64 b_1), .un, .un, .un, .val [] (i64 i_3)] ++ uns 42 ++ [.val [] (sl false ⟨1, false⟩ data_2), .un, .un]
noncomputable abbrev H85_0 (a_0 : Int) (b_1 : Int) (i_3 : Int) (data_2 : List TV) : Nd := .head [1, 2] (EH85_0 a_0 b_1 i_3 data_2)
noncomputable abbrev B85_0 (a_0 : Int) (b_1 : Int) (i_3 : Int) (data_2 : List TV) : Nd := .back [1, 2] (EH85_0 a_0 b_1 i_3 data_2)
noncomputable def EH85_1 (a_0 : Int) (b_1 : Int) (i_4 : Int) (j_3 : Int) (data_2 : List TV) : Env := [.ref 49 [] none 36 false, .val [] (i64 a_0), .val [] (i64 b_1), .un, .un, .un, .val [] (i64 i_4), .val [] (i64 j_3)] ++ uns 41 ++ [.val [] (sl false ⟨1, false⟩ data_2), .un, .un]
noncomputable abbrev H85_1 (a_0 : Int) (b_1 : Int) (i_4 : Int) (j_3 : Int) (data_2 : List TV) : Nd := .head [1, 2, 5, 1, 0, 2, 1, 2] (EH85_1 a_0 b_1 i_4 j_3 data_2)
noncomputable abbrev B85_1 (a_0 : Int) (b_1 : Int) (i_4 : Int) (j_3 : Int) (data_2 : List TV) : Nd := .back [1, 2, 5, 1, 0, 2, 1, 2] (EH85_1 a_0 b_1 i_4 j_3 data_2)
noncomputable def N85 (data_0 : List TV) (a_1 : Int) (b_2 : Int) : Nd :=
  H85_0 a_1 b_2 (w64 (a_1 + 1)) data_0
theorem e85 {data_0 : List TV} {a_1 : Int} {b_2 : Int} {r : Res} (h : S cx 85 (N85 data_0 a_1 b_2) = some r) : tw cx 85 [sl false ⟨1, false⟩ data_0, i64 a_1, i64 b_2] = some r :=
  tw_of (fun call hd hb pt rg => by kernel_rfl) h
noncomputable def NH85_0 (a_0 : Int) (b_1 : Int) (i_3 : Int) (data_2 : List TV) : Nd :=
  .bif (decide (i_3 < b_1))
  (H85_1 a_0 b_1 i_3 i_3 data_2)
  (.ret [] [sl false ⟨1, false⟩ data_2])
theorem eH85_0 {a_0 : Int} {b_1 : Int} {i_3 : Int} {data_2 : List TV} {r : Res} (h : S cx 85 (NH85_0 a_0 b_1 i_3 data_2) = some r) : S cx 85 (H85_0 a_0 b_1 i_3 data_2) = some r :=
  hw_of (fun call hd hb pt rg => by kernel_rfl) h
noncomputable def NH85_1 (a_0 : Int) (b_1 : Int) (i_4 : Int) (j_3 : Int) (data_2 : List TV) : Nd :=
  .bif (decide (j_3 > a_0))
  (.ck (decide ((0 : Int) ≤ j_3) && decide (j_3 < ((data_2.length : Nat) : Int))) <|
    .int .i64 (data_2.getD (0 + j_3.toNat) (.dead ())) fun x_0573 =>
    .ck (decide ((0 : Int) ≤ w64 (j_3 - 1)) && decide (w64 (j_3 - 1) < ((data_2.length : Nat) : Int))) <|
    .int .i64 (data_2.getD (0 + (w64 (j_3 - 1)).toNat) (.dead ())) fun x_d30c =>
    C91 x_0573 x_d30c fun v_deb4 =>
    .bif (v_deb4)
    (.ck (decide ((0 : Int) ≤ w64 (j_3 - 1)) && decide (w64 (j_3 - 1) < ((data_2.length : Nat) : Int))) <|
      .int .i64 (data_2.getD (0 + (w64 (j_3 - 1)).toNat) (.dead ())) fun x_d30c_2 =>
      .ck (decide ((0 : Int) ≤ j_3) && decide (j_3 < ((data_2.length : Nat) : Int))) <|
      .int .i64 (data_2.getD (0 + j_3.toNat) (.dead ())) fun x_0573_2 =>
      .ck (decide ((0 : Int) ≤ j_3) && decide (j_3 < ((data_2.length : Nat) : Int))) <|
      .ck (decide ((0 : Int) ≤ w64 (j_3 - 1)) && decide (w64 (j_3 - 1) < (((data_2.set (0 + j_3.toNat) (i64 x_d30c_2)).length : Nat) : Int))) <|
      B85_1 a_0 b_1 i_4 (w64 (j_3 - 1)) ((data_2.set (0 + j_3.toNat) (i64 x_d30c_2)).set (0 + (w64 (j_3 - 1)).toNat) (i64 x_0573_2)))
    (B85_0 a_0 b_1 (w64 (i_4 + 1)) data_2))
  (B85_0 a_0 b_1 (w64 (i_4 + 1)) data_2)
theorem eH85_1 {a_0 : Int} {b_1 : Int} {i_4 : Int} {j_3 : Int} {data_2 : List TV} {r : Res} (h : S cx 85 (NH85_1 a_0 b_1 i_4 j_3 data_2) = some r) : S cx 85 (H85_1 a_0 b_1 i_4 j_3 data_2) = some r :=
  hw_of (fun call hd hb pt rg => by kernel_rfl) h
noncomputable def N91 (x_0 : Int) (y_1 : Int) : Nd :=
  C101 x_0 fun v_6814 =>
  .bif (v_6814)
  (C101 y_1 fun v_f7ee =>
    .bif ((!v_f7ee))
    (.ret [tb true] [])
    (.ret [tb (decide (x_0 < y_1))] []))
  (.ret [tb (decide (x_0 < y_1))] [])
theorem e91 {x_0 : Int} {y_1 : Int} {r : Res} (h : S cx 91 (N91 x_0 y_1) = some r) : tw cx 91 [i64 x_0, i64 y_1] = some r :=
  tw_of (fun call hd hb pt rg => by kernel_rfl) h
noncomputable def EG95_0 (x_0 : Int) (n_1 : Int) : Env := [.val [] (.fl (.int .u64 x_0)), .un, .val [] (i64 n_1)] ++ uns 23
noncomputable abbrev G95_0 (x_0 : Int) (n_1 : Int) : Nd := .go [1, 1] (EG95_0 x_0 n_1)
noncomputable def EG95_1 (x_0 : Int) (n_1 : Int) : Env := [.val [] (.fl (.int .u64 x_0)), .un, .val [] (i64 n_1)] ++ uns 23
noncomputable abbrev G95_1 (x_0 : Int) (n_1 : Int) : Nd := .go [1, 1, 1] (EG95_1 x_0 n_1)
noncomputable def EG95_2 (x_0 : Int) (n_1 : Int) : Env := [.val [] (.fl (.int .u64 x_0)), .un, .val [] (i64 n_1)] ++ uns 23
noncomputable abbrev G95_2 (x_0 : Int) (n_1 : Int) : Nd := .go [1, 1, 1, 1] (EG95_2 x_0 n_1)
noncomputable def N95 (x_0 : Int) : Nd :=
  .bif (decide (x_0 ≥ 4294967296))
  (G95_0 (x_0.fdiv (2 ^ (32))) 32)
  (G95_0 x_0 0)
theorem e95 {x_0 : Int} {r : Res} (h : S cx 95 (N95 x_0) = some r) : tw cx 95 [.fl (.int .u64 x_0)] = some r :=
  tw_of (fun call hd hb pt rg => by kernel_rfl) h
noncomputable def NG95_0 (x_0 : Int) (n_1 : Int) : Nd :=
  .bif (decide (x_0 ≥ 65536))
  (G95_1 (x_0.fdiv (2 ^ (16))) (w64 (n_1 + 16)))
  (G95_1 x_0 n_1)
theorem eG95_0 {x_0 : Int} {n_1 : Int} {r : Res} (h : S cx 95 (NG95_0 x_0 n_1) = some r) : S cx 95 (G95_0 x_0 n_1) = some r :=
  pw_of (fun call hd hb pt rg => by kernel_rfl) h
noncomputable def NG95_1 (x_0 : Int) (n_1 : Int) : Nd :=
  .bif (decide (x_0 ≥ 256))
  (G95_2 (x_0.fdiv (2 ^ (8))) (w64 (n_1 + 8)))
  (G95_2 x_0 n_1)
theorem eG95_1 {x_0 : Int} {n_1 : Int} {r : Res} (h : S cx 95 (NG95_1 x_0 n_1) = some r) : S cx 95 (G95_1 x_0 n_1) = some r :=
  pw_of (fun call hd hb pt rg => by kernel_rfl) h
noncomputable def NG95_2 (x_0 : Int) (n_1 : Int) : Nd :=
  .ck (decide ((0 : Int) ≤ IntKind.u8.wrap (x_0)) && decide (IntKind.u8.wrap (x_0) < (tab8.size : Int))) <|
  .ret [i64 (w64 (n_1 + (w64 (((tab8.get! (IntKind.u8.wrap (x_0)).toNat).toNat : Int)))))] []
theorem eG95_2 {x_0 : Int} {n_1 : Int} {r : Res} (h : S cx 95 (NG95_2 x_0 n_1) = some r) : S cx 95 (G95_2 x_0 n_1) = some r :=
  pw_of (fun call hd hb pt rg => by kernel_rfl) h
noncomputable def N101 (x_0 : Int) : Nd :=
  .ret [tb (x_0 != x_0)] []
theorem e101 {x_0 : Int} {r : Res} (h : S cx 101 (N101 x_0) = some r) : tw cx 101 [i64 x_0] = some r :=
  tw_of (fun call hd hb pt rg => by kernel_rfl) h
end Go.Tree.Q
