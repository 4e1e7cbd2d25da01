/- RunFlow: the functions that the law reaches, told as points of a program. Conditions: none. -/
import Derived.Test.YtipikejhchpfnaaTree3
import Derived.Test.YtipikejhchpfnaaProg
import Derived.KernelRfl
/- Trees of values: what is told of the functions, and words for views and calls. -/
namespace Go.Tree.Q
open Go.Proofs
set_option linter.unusedVariables false
set_option maxRecDepth 20000
abbrev i64 (n : Int) : TV := .fl (.int .i64 n)
abbrev tb (b : Bool) : TV := .fl (.bool b)
abbrev tnil : TV := .fl (.pointer none)
abbrev sl (r : Bool) (k : Ek) (xs : List TV) : TV := .sl r k () xs
abbrev w64 (n : Int) : Int := IntKind.i64.wrap n
abbrev uns (n : Nat) : Env := List.replicate n .un
/-- The numbers from one on, in a row. -/
def marks (k : Int) (n : Nat) : List TV := (List.range n).map fun (i : Nat) => .fl (.int .i64 (k + (i : Int)))
def g43 : List TV → Option Res
  | [.st [.sl false ⟨1, false⟩ () xs, .sl false ⟨1, false⟩ () ys, .sl false ⟨1, false⟩ () zs], .fl (.int .i64 k)] =>
    if 0 ≤ k ∧ k ≤ 1152921504606846976 ∧ xs.length ≤ 1073741824 ∧ ys.length ≤ 1073741824 ∧ zs.length ≤ 1073741824 then
      some ([.fl (.int .i64 (k + xs.length + ys.length + zs.length))], [.st [.sl false ⟨1, false⟩ () (marks k xs.length), .sl false ⟨1, false⟩ () (marks (k + xs.length) ys.length), .sl false ⟨1, false⟩ () (marks (k + xs.length + ys.length) zs.length)]])
    else none
  | _ => none
/-- A table. -/
def tab {β : Type} (d : β) : List (Nat × β) → Nat → β
  | [], _ => d
  | (k, v) :: l, n => bif Nat.beq k n then v else tab d l n
/-- What the evaluator is told of the functions: who writes what, what lives where. -/
noncomputable def cx : Ctx where
  P := Try.prog
  sig := tab ⟨[], [], [], false⟩ [(23, ⟨[true], [], [], false⟩), (24, ⟨[true], [], [], false⟩), (42, ⟨[true], [], [], false⟩), (43, ⟨[true], [], [], true⟩), (94, ⟨[true, false, true], [], [], false⟩), (123, ⟨[false, true, true], [], [], false⟩), (132, ⟨[true], [], [], false⟩), (133, ⟨[true], [], [], false⟩)]
  given := fun f => bif Nat.beq f 43 then some g43 else none
  keep := fun f r => tab [] [(16003, [0, 3, 4]), (17003, [0, 3, 4]), (19004, [0, 1, 5]), (20004, [0, 1, 5]), (23002, [0, 1, 5, 55]), (24002, [0, 1, 5, 19]), (25002, [0, 1, 5]), (34005, [0, 1, 5]), (37003, [0, 3, 4]), (39007, [0, 2, 6, 10, 11, 12, 13, 14]), (39011, [0, 2, 6, 10, 11, 12, 13, 14, 15, 53, 54, 55]), (41004, [0, 1, 5]), (42002, [0, 1, 5, 41]), (85002, [0, 5, 6, 7]), (88006, [0, 2, 6, 9, 10, 11, 12, 13]), (88011, [0, 2, 6, 9, 10, 11, 12, 13, 34, 35, 36]), (121002, [1, 2, 11, 12, 13]), (121008, [1, 2, 22, 23, 24]), (122002, [0, 1, 7, 8, 9]), (154002, [0, 1, 7, 8]), (181002, [0, 1, 7, 8]), (184002, [0, 1, 7, 8])] (f * 1000 + r)
  cut := fun f r => tab none [(7009, some [0, 2, 4, 8, 9, 10, 11]), (7032, some [8, 9, 10, 11, 14, 19, 21, 22, 23, 24]), (39004, some [0, 2, 4, 6, 10, 11]), (39017, some [0, 2, 6, 10, 11, 12, 13, 14, 15]), (88023, some [6, 9, 10, 11, 12]), (89501, some []), (94020, some [7, 99, 101]), (111008, some [1, 22, 43]), (114006, some [2, 4, 8]), (124012, some [2, 5])] (f * 1000 + r)
  pol := fun f => ⟨fun s i b => match tab 0 [] ((f * 1000 + s) * 10000000 + i) with | 0 => !b | 1 => b | _ => true⟩
theorem call_S {f g : FuncId} {args : List TV} {v : Res} {K : Res → Nd} {X : Option Res} (h : tw cx g args = some v) (e : S cx f (K v) = X) : S cx f (.call g args K) = X := by
  show Option.bind (tw cx g args) _ = X
  rw [h]
  exact e
noncomputable def C36 (B0 : List TV) (B1 : List TV) (B2 : List TV) (B3 : List TV) (B4 : Int) (K : (List TV) → (List TV) → (List TV) → Int → Int → Bool → Nd) : Nd := .call 36 [sl true ⟨4, true⟩ B0, .st [sl true ⟨1, false⟩ B1, sl true ⟨1, false⟩ B2, sl true ⟨1, false⟩ B3], i64 B4] fun R => .cons R.1 fun X0 X1 => .st X0 fun X2 => .cons X2 fun X3 X4 => .slO ⟨1, false⟩ X3 fun A0 => .cons X4 fun X5 X6 => .slO ⟨1, false⟩ X5 fun A1 => .cons X6 fun X7 X8 => .slO ⟨1, false⟩ X7 fun A2 => .nil X8 <| .cons X1 fun X9 X10 => .int .i64 X9 fun A3 => .cons X10 fun X11 X12 => .int .i64 X11 fun A4 => .cons X12 fun X13 X14 => .bool X13 fun A5 => .nil X14 <| .nil R.2 <| K A0 A1 A2 A3 A4 A5
theorem C36_S {f : FuncId} {B0 : List TV} {B1 : List TV} {B2 : List TV} {B3 : List TV} {B4 : Int} {A0 : List TV} {A1 : List TV} {A2 : List TV} {A3 : Int} {A4 : Int} {A5 : Bool} {K : (List TV) → (List TV) → (List TV) → Int → Int → Bool → Nd} (h : tw cx 36 [sl true ⟨4, true⟩ B0, .st [sl true ⟨1, false⟩ B1, sl true ⟨1, false⟩ B2, sl true ⟨1, false⟩ B3], i64 B4] = some ([.st [sl false ⟨1, false⟩ A0, sl false ⟨1, false⟩ A1, sl false ⟨1, false⟩ A2], i64 A3, i64 A4, tb A5], [])) : S cx f (C36 B0 B1 B2 B3 B4 K) = S cx f (K A0 A1 A2 A3 A4 A5) := call_S h rfl
noncomputable def C38 (B0 : List TV) (B1 : List TV) (B2 : List TV) (K : (List TV) → (List TV) → (List TV) → Nd) : Nd := .call 38 [.st [sl true ⟨1, false⟩ B0, sl true ⟨1, false⟩ B1, sl true ⟨1, false⟩ B2]] fun R => .cons R.1 fun X0 X1 => .st X0 fun X2 => .cons X2 fun X3 X4 => .slO ⟨1, false⟩ X3 fun A0 => .cons X4 fun X5 X6 => .slO ⟨1, false⟩ X5 fun A1 => .cons X6 fun X7 X8 => .slO ⟨1, false⟩ X7 fun A2 => .nil X8 <| .nil X1 <| .nil R.2 <| K A0 A1 A2
theorem C38_S {f : FuncId} {B0 : List TV} {B1 : List TV} {B2 : List TV} {A0 : List TV} {A1 : List TV} {A2 : List TV} {K : (List TV) → (List TV) → (List TV) → Nd} (h : tw cx 38 [.st [sl true ⟨1, false⟩ B0, sl true ⟨1, false⟩ B1, sl true ⟨1, false⟩ B2]] = some ([.st [sl false ⟨1, false⟩ A0, sl false ⟨1, false⟩ A1, sl false ⟨1, false⟩ A2]], [])) : S cx f (C38 B0 B1 B2 K) = S cx f (K A0 A1 A2) := call_S h rfl
noncomputable def C37 (B0 : List TV) (K : (List TV) → Nd) : Nd := .call 37 [sl true ⟨4, true⟩ B0] fun R => .cons R.1 fun X0 X1 => .slO ⟨4, true⟩ X0 fun A0 => .nil X1 <| .nil R.2 <| K A0
theorem C37_S {f : FuncId} {B0 : List TV} {A0 : List TV} {K : (List TV) → Nd} (h : tw cx 37 [sl true ⟨4, true⟩ B0] = some ([sl false ⟨4, true⟩ A0], [])) : S cx f (C37 B0 K) = S cx f (K A0) := call_S h rfl
noncomputable def C34 (B0 : List TV) (B1 : Int) (K : Int → Nd) : Nd := .call 34 [sl true ⟨4, true⟩ B0, i64 B1] fun R => .cons R.1 fun X0 X1 => .int .i64 X0 fun A0 => .nil X1 <| .nil R.2 <| K A0
theorem C34_S {f : FuncId} {B0 : List TV} {B1 : Int} {A0 : Int} {K : Int → Nd} (h : tw cx 34 [sl true ⟨4, true⟩ B0, i64 B1] = some ([i64 A0], [])) : S cx f (C34 B0 B1 K) = S cx f (K A0) := call_S h rfl
noncomputable def C35 (B0 : List TV) (B1 : List TV) (B2 : List TV) (B3 : Int) (K : Int → Nd) : Nd := .call 35 [.st [sl true ⟨1, false⟩ B0, sl true ⟨1, false⟩ B1, sl true ⟨1, false⟩ B2], i64 B3] fun R => .cons R.1 fun X0 X1 => .int .i64 X0 fun A0 => .nil X1 <| .nil R.2 <| K A0
theorem C35_S {f : FuncId} {B0 : List TV} {B1 : List TV} {B2 : List TV} {B3 : Int} {A0 : Int} {K : Int → Nd} (h : tw cx 35 [.st [sl true ⟨1, false⟩ B0, sl true ⟨1, false⟩ B1, sl true ⟨1, false⟩ B2], i64 B3] = some ([i64 A0], [])) : S cx f (C35 B0 B1 B2 B3 K) = S cx f (K A0) := call_S h rfl
noncomputable def C39 (B0 : List TV) (B1 : List TV) (B2 : List TV) (B3 : List TV) (B4 : Int) (K : (List TV) → (List TV) → (List TV) → Int → Int → Bool → Nd) : Nd := .call 39 [sl true ⟨4, true⟩ B0, .st [sl true ⟨1, false⟩ B1, sl true ⟨1, false⟩ B2, sl true ⟨1, false⟩ B3], i64 B4] fun R => .cons R.1 fun X0 X1 => .st X0 fun X2 => .cons X2 fun X3 X4 => .slO ⟨1, false⟩ X3 fun A0 => .cons X4 fun X5 X6 => .slO ⟨1, false⟩ X5 fun A1 => .cons X6 fun X7 X8 => .slO ⟨1, false⟩ X7 fun A2 => .nil X8 <| .cons X1 fun X9 X10 => .int .i64 X9 fun A3 => .cons X10 fun X11 X12 => .int .i64 X11 fun A4 => .cons X12 fun X13 X14 => .bool X13 fun A5 => .nil X14 <| .nil R.2 <| K A0 A1 A2 A3 A4 A5
theorem C39_S {f : FuncId} {B0 : List TV} {B1 : List TV} {B2 : List TV} {B3 : List TV} {B4 : Int} {A0 : List TV} {A1 : List TV} {A2 : List TV} {A3 : Int} {A4 : Int} {A5 : Bool} {K : (List TV) → (List TV) → (List TV) → Int → Int → Bool → Nd} (h : tw cx 39 [sl true ⟨4, true⟩ B0, .st [sl true ⟨1, false⟩ B1, sl true ⟨1, false⟩ B2, sl true ⟨1, false⟩ B3], i64 B4] = some ([.st [sl false ⟨1, false⟩ A0, sl false ⟨1, false⟩ A1, sl false ⟨1, false⟩ A2], i64 A3, i64 A4, tb A5], [])) : S cx f (C39 B0 B1 B2 B3 B4 K) = S cx f (K A0 A1 A2 A3 A4 A5) := call_S h rfl
noncomputable def C40 (B0 : List TV) (B1 : List TV) (B2 : List TV) (B3 : List TV) (B4 : List TV) (B5 : List TV) (K : Bool → Nd) : Nd := .call 40 [.st [sl true ⟨1, false⟩ B0, sl true ⟨1, false⟩ B1, sl true ⟨1, false⟩ B2], .st [sl true ⟨1, false⟩ B3, sl true ⟨1, false⟩ B4, sl true ⟨1, false⟩ B5]] fun R => .cons R.1 fun X0 X1 => .bool X0 fun A0 => .nil X1 <| .nil R.2 <| K A0
theorem C40_S {f : FuncId} {B0 : List TV} {B1 : List TV} {B2 : List TV} {B3 : List TV} {B4 : List TV} {B5 : List TV} {A0 : Bool} {K : Bool → Nd} (h : tw cx 40 [.st [sl true ⟨1, false⟩ B0, sl true ⟨1, false⟩ B1, sl true ⟨1, false⟩ B2], .st [sl true ⟨1, false⟩ B3, sl true ⟨1, false⟩ B4, sl true ⟨1, false⟩ B5]] = some ([tb A0], [])) : S cx f (C40 B0 B1 B2 B3 B4 B5 K) = S cx f (K A0) := call_S h rfl
noncomputable def C42 (B0 : List TV) (B1 : Int) (K : Int → (List TV) → Nd) : Nd := .call 42 [sl false ⟨4, true⟩ B0, i64 B1] fun R => .cons R.1 fun X0 X1 => .int .i64 X0 fun A0 => .nil X1 <| .cons R.2 fun X2 X3 => .slO ⟨4, true⟩ X2 fun A1 => .nil X3 <| K A0 A1
theorem C42_S {f : FuncId} {B0 : List TV} {B1 : Int} {A0 : Int} {A1 : List TV} {K : Int → (List TV) → Nd} (h : tw cx 42 [sl false ⟨4, true⟩ B0, i64 B1] = some ([i64 A0], [sl false ⟨4, true⟩ A1])) : S cx f (C42 B0 B1 K) = S cx f (K A0 A1) := call_S h rfl
noncomputable def C43 (B0 : List TV) (B1 : List TV) (B2 : List TV) (B3 : Int) (K : Int → (List TV) → (List TV) → (List TV) → Nd) : Nd := .call 43 [.st [sl false ⟨1, false⟩ B0, sl false ⟨1, false⟩ B1, sl false ⟨1, false⟩ B2], i64 B3] fun R => .cons R.1 fun X0 X1 => .int .i64 X0 fun A0 => .nil X1 <| .cons R.2 fun X2 X3 => .st X2 fun X4 => .cons X4 fun X5 X6 => .slO ⟨1, false⟩ X5 fun A1 => .cons X6 fun X7 X8 => .slO ⟨1, false⟩ X7 fun A2 => .cons X8 fun X9 X10 => .slO ⟨1, false⟩ X9 fun A3 => .nil X10 <| .nil X3 <| K A0 A1 A2 A3
theorem C43_S {f : FuncId} {B0 : List TV} {B1 : List TV} {B2 : List TV} {B3 : Int} {A0 : Int} {A1 : List TV} {A2 : List TV} {A3 : List TV} {K : Int → (List TV) → (List TV) → (List TV) → Nd} (h : tw cx 43 [.st [sl false ⟨1, false⟩ B0, sl false ⟨1, false⟩ B1, sl false ⟨1, false⟩ B2], i64 B3] = some ([i64 A0], [.st [sl false ⟨1, false⟩ A1, sl false ⟨1, false⟩ A2, sl false ⟨1, false⟩ A3]])) : S cx f (C43 B0 B1 B2 B3 K) = S cx f (K A0 A1 A2 A3) := call_S h rfl
noncomputable def C44 (B0 : List TV) (B1 : List TV) (B2 : List TV) (B3 : Int) (K : Int → Nd) : Nd := .call 44 [.st [sl true ⟨1, false⟩ B0, sl true ⟨1, false⟩ B1, sl true ⟨1, false⟩ B2], i64 B3] fun R => .cons R.1 fun X0 X1 => .int .i64 X0 fun A0 => .nil X1 <| .nil R.2 <| K A0
theorem C44_S {f : FuncId} {B0 : List TV} {B1 : List TV} {B2 : List TV} {B3 : Int} {A0 : Int} {K : Int → Nd} (h : tw cx 44 [.st [sl true ⟨1, false⟩ B0, sl true ⟨1, false⟩ B1, sl true ⟨1, false⟩ B2], i64 B3] = some ([i64 A0], [])) : S cx f (C44 B0 B1 B2 B3 K) = S cx f (K A0) := call_S h rfl
noncomputable def C41 (B0 : List TV) (B1 : List TV) (K : Bool → Nd) : Nd := .call 41 [sl true ⟨4, true⟩ B0, sl true ⟨4, true⟩ B1] fun R => .cons R.1 fun X0 X1 => .bool X0 fun A0 => .nil X1 <| .nil R.2 <| K A0
theorem C41_S {f : FuncId} {B0 : List TV} {B1 : List TV} {A0 : Bool} {K : Bool → Nd} (h : tw cx 41 [sl true ⟨4, true⟩ B0, sl true ⟨4, true⟩ B1] = some ([tb A0], [])) : S cx f (C41 B0 B1 K) = S cx f (K A0) := call_S h rfl
noncomputable def V6 (t : TV) (K : Int → Int → Int → Int → Int → Int → Nd) : Nd := .st t fun L => .cons L fun TV0 L0 => .int .i64 TV0 fun A0 => .cons L0 fun TV1 L1 => .int .i64 TV1 fun A1 => .cons L1 fun TV2 L2 => .int .i64 TV2 fun A2 => .cons L2 fun TV3 L3 => .int .i64 TV3 fun A3 => .cons L3 fun TV4 L4 => .int .i64 TV4 fun A4 => .cons L4 fun TV5 L5 => .int .i64 TV5 fun A5 => .nil L5 <| K A0 A1 A2 A3 A4 A5
theorem V6_S {f : FuncId} {A0 : Int} {A1 : Int} {A2 : Int} {A3 : Int} {A4 : Int} {A5 : Int} {K : Int → Int → Int → Int → Int → Int → Nd} : S cx f (V6 (.st [i64 A0, i64 A1, i64 A2, i64 A3, i64 A4, i64 A5]) K) = S cx f (K A0 A1 A2 A3 A4 A5) := rfl
noncomputable def C63 (B0 : Int) (B1 : Int) (B2 : Int) (B3 : Int) (B4 : Int) (B5 : Int) (K : Int → Int → Int → Int → Int → Int → Nd) : Nd := .call 63 [.st [i64 B0, i64 B1, i64 B2, i64 B3, i64 B4, i64 B5]] fun R => .cons R.1 fun X0 X1 => .st X0 fun X2 => .cons X2 fun X3 X4 => .int .i64 X3 fun A0 => .cons X4 fun X5 X6 => .int .i64 X5 fun A1 => .cons X6 fun X7 X8 => .int .i64 X7 fun A2 => .cons X8 fun X9 X10 => .int .i64 X9 fun A3 => .cons X10 fun X11 X12 => .int .i64 X11 fun A4 => .cons X12 fun X13 X14 => .int .i64 X13 fun A5 => .nil X14 <| .nil X1 <| .nil R.2 <| K A0 A1 A2 A3 A4 A5
theorem C63_S {f : FuncId} {B0 : Int} {B1 : Int} {B2 : Int} {B3 : Int} {B4 : Int} {B5 : Int} {A0 : Int} {A1 : Int} {A2 : Int} {A3 : Int} {A4 : Int} {A5 : Int} {K : Int → Int → Int → Int → Int → Int → Nd} (h : tw cx 63 [.st [i64 B0, i64 B1, i64 B2, i64 B3, i64 B4, i64 B5]] = some ([.st [i64 A0, i64 A1, i64 A2, i64 A3, i64 A4, i64 A5]], [])) : S cx f (C63 B0 B1 B2 B3 B4 B5 K) = S cx f (K A0 A1 A2 A3 A4 A5) := call_S h rfl
noncomputable def C68 (B0 : Int) (B1 : Int) (B2 : Int) (B3 : Int) (B4 : Int) (B5 : Int) (B6 : Int) (B7 : Int) (B8 : Int) (B9 : Int) (B10 : Int) (B11 : Int) (K : Bool → Nd) : Nd := .call 68 [.st [i64 B0, i64 B1, i64 B2, i64 B3, i64 B4, i64 B5], .st [i64 B6, i64 B7, i64 B8, i64 B9, i64 B10, i64 B11]] fun R => .cons R.1 fun X0 X1 => .bool X0 fun A0 => .nil X1 <| .nil R.2 <| K A0
theorem C68_S {f : FuncId} {B0 : Int} {B1 : Int} {B2 : Int} {B3 : Int} {B4 : Int} {B5 : Int} {B6 : Int} {B7 : Int} {B8 : Int} {B9 : Int} {B10 : Int} {B11 : Int} {A0 : Bool} {K : Bool → Nd} (h : tw cx 68 [.st [i64 B0, i64 B1, i64 B2, i64 B3, i64 B4, i64 B5], .st [i64 B6, i64 B7, i64 B8, i64 B9, i64 B10, i64 B11]] = some ([tb A0], [])) : S cx f (C68 B0 B1 B2 B3 B4 B5 B6 B7 B8 B9 B10 B11 K) = S cx f (K A0) := call_S h rfl
noncomputable def V4 (t : TV) (K : (List TV) → Int → Int → (List TV) → Nd) : Nd := .st t fun L => .cons L fun TV0 L0 => .slR ⟨6, false⟩ TV0 fun A0 => .cons L0 fun TV1 L1 => .int .i64 TV1 fun A1 => .cons L1 fun TV2 L2 => .int .i64 TV2 fun A2 => .cons L2 fun TV3 L3 => .slR ⟨1, false⟩ TV3 fun A3 => .nil L3 <| K A0 A1 A2 A3
theorem V4_S {f : FuncId} {A0 : List TV} {A1 : Int} {A2 : Int} {A3 : List TV} {q0 : Bool} {q1 : Bool} {K : (List TV) → Int → Int → (List TV) → Nd} : S cx f (V4 (.st [sl q0 ⟨6, false⟩ A0, i64 A1, i64 A2, sl q1 ⟨1, false⟩ A3]) K) = S cx f (K A0 A1 A2 A3) := rfl
noncomputable def C83 (B0 : List TV) (B1 : Int) (B2 : Int) (B3 : List TV) (B4 : Int) (K : Int → Nd) : Nd := .call 83 [.st [sl true ⟨6, false⟩ B0, i64 B1, i64 B2, sl true ⟨1, false⟩ B3], i64 B4] fun R => .cons R.1 fun X0 X1 => .int .i64 X0 fun A0 => .nil X1 <| .nil R.2 <| K A0
theorem C83_S {f : FuncId} {B0 : List TV} {B1 : Int} {B2 : Int} {B3 : List TV} {B4 : Int} {A0 : Int} {K : Int → Nd} (h : tw cx 83 [.st [sl true ⟨6, false⟩ B0, i64 B1, i64 B2, sl true ⟨1, false⟩ B3], i64 B4] = some ([i64 A0], [])) : S cx f (C83 B0 B1 B2 B3 B4 K) = S cx f (K A0) := call_S h rfl
noncomputable def C84 (B0 : List TV) (B1 : Int) (K : Int → Nd) : Nd := .call 84 [sl true ⟨1, false⟩ B0, i64 B1] fun R => .cons R.1 fun X0 X1 => .int .i64 X0 fun A0 => .nil X1 <| .nil R.2 <| K A0
theorem C84_S {f : FuncId} {B0 : List TV} {B1 : Int} {A0 : Int} {K : Int → Nd} (h : tw cx 84 [sl true ⟨1, false⟩ B0, i64 B1] = some ([i64 A0], [])) : S cx f (C84 B0 B1 K) = S cx f (K A0) := call_S h rfl
noncomputable def C85 (B0 : List TV) (K : Bool → Nd) : Nd := .call 85 [sl true ⟨4, true⟩ B0] fun R => .cons R.1 fun X0 X1 => .bool X0 fun A0 => .nil X1 <| .nil R.2 <| K A0
theorem C85_S {f : FuncId} {B0 : List TV} {A0 : Bool} {K : Bool → Nd} (h : tw cx 85 [sl true ⟨4, true⟩ B0] = some ([tb A0], [])) : S cx f (C85 B0 K) = S cx f (K A0) := call_S h rfl
noncomputable def C86 (B0 : List TV) (B1 : List TV) (B2 : List TV) (K : Bool → Nd) : Nd := .call 86 [.st [sl true ⟨1, false⟩ B0, sl true ⟨1, false⟩ B1, sl true ⟨1, false⟩ B2]] fun R => .cons R.1 fun X0 X1 => .bool X0 fun A0 => .nil X1 <| .nil R.2 <| K A0
theorem C86_S {f : FuncId} {B0 : List TV} {B1 : List TV} {B2 : List TV} {A0 : Bool} {K : Bool → Nd} (h : tw cx 86 [.st [sl true ⟨1, false⟩ B0, sl true ⟨1, false⟩ B1, sl true ⟨1, false⟩ B2]] = some ([tb A0], [])) : S cx f (C86 B0 B1 B2 K) = S cx f (K A0) := call_S h rfl
noncomputable def C87 (B0 : Int) (K : Bool → Nd) : Nd := .call 87 [i64 B0] fun R => .cons R.1 fun X0 X1 => .bool X0 fun A0 => .nil X1 <| .nil R.2 <| K A0
theorem C87_S {f : FuncId} {B0 : Int} {A0 : Bool} {K : Bool → Nd} (h : tw cx 87 [i64 B0] = some ([tb A0], [])) : S cx f (C87 B0 K) = S cx f (K A0) := call_S h rfl
noncomputable def C88 (B0 : List TV) (B1 : List TV) (B2 : List TV) (B3 : List TV) (B4 : Int) (K : (List TV) → (List TV) → (List TV) → Int → Int → Nd) : Nd := .call 88 [sl true ⟨4, true⟩ B0, .st [sl true ⟨1, false⟩ B1, sl true ⟨1, false⟩ B2, sl true ⟨1, false⟩ B3], i64 B4] fun R => .cons R.1 fun X0 X1 => .st X0 fun X2 => .cons X2 fun X3 X4 => .slO ⟨1, false⟩ X3 fun A0 => .cons X4 fun X5 X6 => .slO ⟨1, false⟩ X5 fun A1 => .cons X6 fun X7 X8 => .slO ⟨1, false⟩ X7 fun A2 => .nil X8 <| .cons X1 fun X9 X10 => .int .i64 X9 fun A3 => .cons X10 fun X11 X12 => .int .i64 X11 fun A4 => .nil X12 <| .nil R.2 <| K A0 A1 A2 A3 A4
theorem C88_S {f : FuncId} {B0 : List TV} {B1 : List TV} {B2 : List TV} {B3 : List TV} {B4 : Int} {A0 : List TV} {A1 : List TV} {A2 : List TV} {A3 : Int} {A4 : Int} {K : (List TV) → (List TV) → (List TV) → Int → Int → Nd} (h : tw cx 88 [sl true ⟨4, true⟩ B0, .st [sl true ⟨1, false⟩ B1, sl true ⟨1, false⟩ B2, sl true ⟨1, false⟩ B3], i64 B4] = some ([.st [sl false ⟨1, false⟩ A0, sl false ⟨1, false⟩ A1, sl false ⟨1, false⟩ A2], i64 A3, i64 A4], [])) : S cx f (C88 B0 B1 B2 B3 B4 K) = S cx f (K A0 A1 A2 A3 A4) := call_S h rfl
noncomputable def C89 (B0 : List TV) (B1 : List TV) (B2 : List TV) (K : (List TV) → (List TV) → (List TV) → Nd) : Nd := .call 89 [.st [sl true ⟨1, false⟩ B0, sl true ⟨1, false⟩ B1, sl true ⟨1, false⟩ B2]] fun R => .cons R.1 fun X0 X1 => .st X0 fun X2 => .cons X2 fun X3 X4 => .slO ⟨1, false⟩ X3 fun A0 => .cons X4 fun X5 X6 => .slO ⟨1, false⟩ X5 fun A1 => .cons X6 fun X7 X8 => .slO ⟨1, false⟩ X7 fun A2 => .nil X8 <| .nil X1 <| .nil R.2 <| K A0 A1 A2
theorem C89_S {f : FuncId} {B0 : List TV} {B1 : List TV} {B2 : List TV} {A0 : List TV} {A1 : List TV} {A2 : List TV} {K : (List TV) → (List TV) → (List TV) → Nd} (h : tw cx 89 [.st [sl true ⟨1, false⟩ B0, sl true ⟨1, false⟩ B1, sl true ⟨1, false⟩ B2]] = some ([.st [sl false ⟨1, false⟩ A0, sl false ⟨1, false⟩ A1, sl false ⟨1, false⟩ A2]], [])) : S cx f (C89 B0 B1 B2 K) = S cx f (K A0 A1 A2) := call_S h rfl
noncomputable def C90 (B0 : List TV) (B1 : Int) (B2 : Int) (B3 : List TV) (K : (List TV) → Int → Int → (List TV) → Nd) : Nd := .call 90 [.st [sl true ⟨6, false⟩ B0, i64 B1, i64 B2, sl true ⟨1, false⟩ B3]] fun R => .cons R.1 fun X0 X1 => .st X0 fun X2 => .cons X2 fun X3 X4 => .slO ⟨6, false⟩ X3 fun A0 => .cons X4 fun X5 X6 => .int .i64 X5 fun A1 => .cons X6 fun X7 X8 => .int .i64 X7 fun A2 => .cons X8 fun X9 X10 => .slO ⟨1, false⟩ X9 fun A3 => .nil X10 <| .nil X1 <| .nil R.2 <| K A0 A1 A2 A3
theorem C90_S {f : FuncId} {B0 : List TV} {B1 : Int} {B2 : Int} {B3 : List TV} {A0 : List TV} {A1 : Int} {A2 : Int} {A3 : List TV} {K : (List TV) → Int → Int → (List TV) → Nd} (h : tw cx 90 [.st [sl true ⟨6, false⟩ B0, i64 B1, i64 B2, sl true ⟨1, false⟩ B3]] = some ([.st [sl false ⟨6, false⟩ A0, i64 A1, i64 A2, sl false ⟨1, false⟩ A3]], [])) : S cx f (C90 B0 B1 B2 B3 K) = S cx f (K A0 A1 A2 A3) := call_S h rfl
noncomputable def C17 (B0 : List TV) (K : (List TV) → Nd) : Nd := .call 17 [sl true ⟨1, false⟩ B0] fun R => .cons R.1 fun X0 X1 => .slO ⟨1, false⟩ X0 fun A0 => .nil X1 <| .nil R.2 <| K A0
theorem C17_S {f : FuncId} {B0 : List TV} {A0 : List TV} {K : (List TV) → Nd} (h : tw cx 17 [sl true ⟨1, false⟩ B0] = some ([sl false ⟨1, false⟩ A0], [])) : S cx f (C17 B0 K) = S cx f (K A0) := call_S h rfl
noncomputable def C93 (B0 : List TV) (B1 : List TV) (B2 : List TV) (K : (List TV) → (List TV) → (List TV) → Nd) : Nd := .call 93 [.st [sl true ⟨1, false⟩ B0, sl true ⟨1, false⟩ B1, sl true ⟨1, false⟩ B2]] fun R => .cons R.1 fun X0 X1 => .st X0 fun X2 => .cons X2 fun X3 X4 => .slO ⟨1, false⟩ X3 fun A0 => .cons X4 fun X5 X6 => .slO ⟨1, false⟩ X5 fun A1 => .cons X6 fun X7 X8 => .slO ⟨1, false⟩ X7 fun A2 => .nil X8 <| .nil X1 <| .nil R.2 <| K A0 A1 A2
theorem C93_S {f : FuncId} {B0 : List TV} {B1 : List TV} {B2 : List TV} {A0 : List TV} {A1 : List TV} {A2 : List TV} {K : (List TV) → (List TV) → (List TV) → Nd} (h : tw cx 93 [.st [sl true ⟨1, false⟩ B0, sl true ⟨1, false⟩ B1, sl true ⟨1, false⟩ B2]] = some ([.st [sl false ⟨1, false⟩ A0, sl false ⟨1, false⟩ A1, sl false ⟨1, false⟩ A2]], [])) : S cx f (C93 B0 B1 B2 K) = S cx f (K A0 A1 A2) := call_S h rfl
noncomputable def C91 (B0 : List TV) (K : Bool → Nd) : Nd := .call 91 [sl true ⟨4, true⟩ B0] fun R => .cons R.1 fun X0 X1 => .bool X0 fun A0 => .nil X1 <| .nil R.2 <| K A0
theorem C91_S {f : FuncId} {B0 : List TV} {A0 : Bool} {K : Bool → Nd} (h : tw cx 91 [sl true ⟨4, true⟩ B0] = some ([tb A0], [])) : S cx f (C91 B0 K) = S cx f (K A0) := call_S h rfl
noncomputable def C92 (B0 : List TV) (B1 : List TV) (B2 : List TV) (K : Bool → Nd) : Nd := .call 92 [.st [sl true ⟨1, false⟩ B0, sl true ⟨1, false⟩ B1, sl true ⟨1, false⟩ B2]] fun R => .cons R.1 fun X0 X1 => .bool X0 fun A0 => .nil X1 <| .nil R.2 <| K A0
theorem C92_S {f : FuncId} {B0 : List TV} {B1 : List TV} {B2 : List TV} {A0 : Bool} {K : Bool → Nd} (h : tw cx 92 [.st [sl true ⟨1, false⟩ B0, sl true ⟨1, false⟩ B1, sl true ⟨1, false⟩ B2]] = some ([tb A0], [])) : S cx f (C92 B0 B1 B2 K) = S cx f (K A0) := call_S h rfl
noncomputable def C65 (B0 : Int) (B1 : Int) (B2 : Int) (K : Bool → Nd) : Nd := .call 65 [i64 B0, i64 B1, i64 B2] fun R => .cons R.1 fun X0 X1 => .bool X0 fun A0 => .nil X1 <| .nil R.2 <| K A0
theorem C65_S {f : FuncId} {B0 : Int} {B1 : Int} {B2 : Int} {A0 : Bool} {K : Bool → Nd} (h : tw cx 65 [i64 B0, i64 B1, i64 B2] = some ([tb A0], [])) : S cx f (C65 B0 B1 B2 K) = S cx f (K A0) := call_S h rfl
noncomputable def C94 (B0 : List TV) (B1 : List TV) (B2 : List TV) (B3 : Int) (B4 : Int) (B5 : Int) (B6 : Int) (B7 : Int) (B8 : Int) (B9 : List TV) (K : Bool → (List TV) → (List TV) → (List TV) → (List TV) → Nd) : Nd := .call 94 [.pt false () (.st [sl false ⟨1, false⟩ B0, sl false ⟨1, false⟩ B1, sl false ⟨1, false⟩ B2]), .st [i64 B3, i64 B4, i64 B5, i64 B6, i64 B7, i64 B8], sl false ⟨1, false⟩ B9] fun R => .cons R.1 fun X0 X1 => .bool X0 fun A0 => .nil X1 <| .cons R.2 fun X2 X3 => .ptO X2 .non fun X4 => .st X4 fun X5 => .cons X5 fun X6 X7 => .slO ⟨1, false⟩ X6 fun A1 => .cons X7 fun X8 X9 => .slO ⟨1, false⟩ X8 fun A2 => .cons X9 fun X10 X11 => .slO ⟨1, false⟩ X10 fun A3 => .nil X11 <| .cons X3 fun X12 X13 => .slO ⟨1, false⟩ X12 fun A4 => .nil X13 <| K A0 A1 A2 A3 A4
theorem C94_S {f : FuncId} {B0 : List TV} {B1 : List TV} {B2 : List TV} {B3 : Int} {B4 : Int} {B5 : Int} {B6 : Int} {B7 : Int} {B8 : Int} {B9 : List TV} {A0 : Bool} {A1 : List TV} {A2 : List TV} {A3 : List TV} {A4 : List TV} {K : Bool → (List TV) → (List TV) → (List TV) → (List TV) → Nd} (h : tw cx 94 [.pt false () (.st [sl false ⟨1, false⟩ B0, sl false ⟨1, false⟩ B1, sl false ⟨1, false⟩ B2]), .st [i64 B3, i64 B4, i64 B5, i64 B6, i64 B7, i64 B8], sl false ⟨1, false⟩ B9] = some ([tb A0], [.pt false () (.st [sl false ⟨1, false⟩ A1, sl false ⟨1, false⟩ A2, sl false ⟨1, false⟩ A3]), sl false ⟨1, false⟩ A4])) : S cx f (C94 B0 B1 B2 B3 B4 B5 B6 B7 B8 B9 K) = S cx f (K A0 A1 A2 A3 A4) := call_S h rfl
noncomputable def C95 (B0 : Int) (B1 : Int) (B2 : Int) (K : Int → Nd) : Nd := .call 95 [i64 B0, i64 B1, i64 B2] fun R => .cons R.1 fun X0 X1 => .int .i64 X0 fun A0 => .nil X1 <| .nil R.2 <| K A0
theorem C95_S {f : FuncId} {B0 : Int} {B1 : Int} {B2 : Int} {A0 : Int} {K : Int → Nd} (h : tw cx 95 [i64 B0, i64 B1, i64 B2] = some ([i64 A0], [])) : S cx f (C95 B0 B1 B2 K) = S cx f (K A0) := call_S h rfl
noncomputable def C20 (B0 : List TV) (B1 : List TV) (K : Bool → Nd) : Nd := .call 20 [sl true ⟨1, false⟩ B0, sl true ⟨1, false⟩ B1] fun R => .cons R.1 fun X0 X1 => .bool X0 fun A0 => .nil X1 <| .nil R.2 <| K A0
theorem C20_S {f : FuncId} {B0 : List TV} {B1 : List TV} {A0 : Bool} {K : Bool → Nd} (h : tw cx 20 [sl true ⟨1, false⟩ B0, sl true ⟨1, false⟩ B1] = some ([tb A0], [])) : S cx f (C20 B0 B1 K) = S cx f (K A0) := call_S h rfl
noncomputable def C96 (B0 : List TV) (B1 : Int) (B2 : Int) (B3 : List TV) (B4 : List TV) (B5 : Int) (B6 : Int) (B7 : List TV) (K : Bool → Nd) : Nd := .call 96 [.st [sl true ⟨6, false⟩ B0, i64 B1, i64 B2, sl true ⟨1, false⟩ B3], .st [sl true ⟨6, false⟩ B4, i64 B5, i64 B6, sl true ⟨1, false⟩ B7]] fun R => .cons R.1 fun X0 X1 => .bool X0 fun A0 => .nil X1 <| .nil R.2 <| K A0
theorem C96_S {f : FuncId} {B0 : List TV} {B1 : Int} {B2 : Int} {B3 : List TV} {B4 : List TV} {B5 : Int} {B6 : Int} {B7 : List TV} {A0 : Bool} {K : Bool → Nd} (h : tw cx 96 [.st [sl true ⟨6, false⟩ B0, i64 B1, i64 B2, sl true ⟨1, false⟩ B3], .st [sl true ⟨6, false⟩ B4, i64 B5, i64 B6, sl true ⟨1, false⟩ B7]] = some ([tb A0], [])) : S cx f (C96 B0 B1 B2 B3 B4 B5 B6 B7 K) = S cx f (K A0) := call_S h rfl
noncomputable def V4_1 (t : TV) (K : (List TV) → Int → Int → (List TV) → Nd) : Nd := .st t fun L => .cons L fun TV0 L0 => .slO ⟨6, false⟩ TV0 fun A0 => .cons L0 fun TV1 L1 => .int .i64 TV1 fun A1 => .cons L1 fun TV2 L2 => .int .i64 TV2 fun A2 => .cons L2 fun TV3 L3 => .slO ⟨1, false⟩ TV3 fun A3 => .nil L3 <| K A0 A1 A2 A3
theorem V4_1_S {f : FuncId} {A0 : List TV} {A1 : Int} {A2 : Int} {A3 : List TV} {K : (List TV) → Int → Int → (List TV) → Nd} : S cx f (V4_1 (.st [sl false ⟨6, false⟩ A0, i64 A1, i64 A2, sl false ⟨1, false⟩ A3]) K) = S cx f (K A0 A1 A2 A3) := rfl
noncomputable def C25 (B0 : List TV) (B1 : Int) (K : Int → Nd) : Nd := .call 25 [sl true ⟨1, false⟩ B0, i64 B1] fun R => .cons R.1 fun X0 X1 => .int .i64 X0 fun A0 => .nil X1 <| .nil R.2 <| K A0
theorem C25_S {f : FuncId} {B0 : List TV} {B1 : Int} {A0 : Int} {K : Int → Nd} (h : tw cx 25 [sl true ⟨1, false⟩ B0, i64 B1] = some ([i64 A0], [])) : S cx f (C25 B0 B1 K) = S cx f (K A0) := call_S h rfl
noncomputable def C14 (B0 : List TV) (B1 : Int) (K : Int → Nd) : Nd := .call 14 [sl true ⟨6, false⟩ B0, i64 B1] fun R => .cons R.1 fun X0 X1 => .int .i64 X0 fun A0 => .nil X1 <| .nil R.2 <| K A0
theorem C14_S {f : FuncId} {B0 : List TV} {B1 : Int} {A0 : Int} {K : Int → Nd} (h : tw cx 14 [sl true ⟨6, false⟩ B0, i64 B1] = some ([i64 A0], [])) : S cx f (C14 B0 B1 K) = S cx f (K A0) := call_S h rfl
noncomputable def C121 (B0 : List TV) (B1 : Int) (B2 : Int) (B3 : List TV) (B4 : Int) (K : Bool → Nd) : Nd := .call 121 [.st [sl true ⟨6, false⟩ B0, i64 B1, i64 B2, sl true ⟨1, false⟩ B3], i64 B4] fun R => .cons R.1 fun X0 X1 => .bool X0 fun A0 => .nil X1 <| .nil R.2 <| K A0
theorem C121_S {f : FuncId} {B0 : List TV} {B1 : Int} {B2 : Int} {B3 : List TV} {B4 : Int} {A0 : Bool} {K : Bool → Nd} (h : tw cx 121 [.st [sl true ⟨6, false⟩ B0, i64 B1, i64 B2, sl true ⟨1, false⟩ B3], i64 B4] = some ([tb A0], [])) : S cx f (C121 B0 B1 B2 B3 B4 K) = S cx f (K A0) := call_S h rfl
noncomputable def C112 (B0 : Int) (B1 : Int) (B2 : Int) (K : Bool → Nd) : Nd := .call 112 [i64 B0, i64 B1, i64 B2] fun R => .cons R.1 fun X0 X1 => .bool X0 fun A0 => .nil X1 <| .nil R.2 <| K A0
theorem C112_S {f : FuncId} {B0 : Int} {B1 : Int} {B2 : Int} {A0 : Bool} {K : Bool → Nd} (h : tw cx 112 [i64 B0, i64 B1, i64 B2] = some ([tb A0], [])) : S cx f (C112 B0 B1 B2 K) = S cx f (K A0) := call_S h rfl
noncomputable def C122 (B0 : List TV) (B1 : Int) (K : Bool → Nd) : Nd := .call 122 [sl true ⟨1, false⟩ B0, i64 B1] fun R => .cons R.1 fun X0 X1 => .bool X0 fun A0 => .nil X1 <| .nil R.2 <| K A0
theorem C122_S {f : FuncId} {B0 : List TV} {B1 : Int} {A0 : Bool} {K : Bool → Nd} (h : tw cx 122 [sl true ⟨1, false⟩ B0, i64 B1] = some ([tb A0], [])) : S cx f (C122 B0 B1 K) = S cx f (K A0) := call_S h rfl
noncomputable def C123 (B0 : Int) (B1 : Int) (B2 : Int) (B3 : Int) (B4 : Int) (B5 : Int) (B6 : List TV) (B7 : List TV) (B8 : List TV) (B9 : List TV) (K : Bool → (List TV) → (List TV) → (List TV) → (List TV) → Nd) : Nd := .call 123 [.st [i64 B0, i64 B1, i64 B2, i64 B3, i64 B4, i64 B5], sl false ⟨1, false⟩ B6, .pt false () (.st [sl false ⟨1, false⟩ B7, sl false ⟨1, false⟩ B8, sl false ⟨1, false⟩ B9])] fun R => .cons R.1 fun X0 X1 => .bool X0 fun A0 => .nil X1 <| .cons R.2 fun X2 X3 => .slO ⟨1, false⟩ X2 fun A1 => .cons X3 fun X4 X5 => .ptO X4 .non fun X6 => .st X6 fun X7 => .cons X7 fun X8 X9 => .slO ⟨1, false⟩ X8 fun A2 => .cons X9 fun X10 X11 => .slO ⟨1, false⟩ X10 fun A3 => .cons X11 fun X12 X13 => .slO ⟨1, false⟩ X12 fun A4 => .nil X13 <| .nil X5 <| K A0 A1 A2 A3 A4
theorem C123_S {f : FuncId} {B0 : Int} {B1 : Int} {B2 : Int} {B3 : Int} {B4 : Int} {B5 : Int} {B6 : List TV} {B7 : List TV} {B8 : List TV} {B9 : List TV} {A0 : Bool} {A1 : List TV} {A2 : List TV} {A3 : List TV} {A4 : List TV} {K : Bool → (List TV) → (List TV) → (List TV) → (List TV) → Nd} (h : tw cx 123 [.st [i64 B0, i64 B1, i64 B2, i64 B3, i64 B4, i64 B5], sl false ⟨1, false⟩ B6, .pt false () (.st [sl false ⟨1, false⟩ B7, sl false ⟨1, false⟩ B8, sl false ⟨1, false⟩ B9])] = some ([tb A0], [sl false ⟨1, false⟩ A1, .pt false () (.st [sl false ⟨1, false⟩ A2, sl false ⟨1, false⟩ A3, sl false ⟨1, false⟩ A4])])) : S cx f (C123 B0 B1 B2 B3 B4 B5 B6 B7 B8 B9 K) = S cx f (K A0 A1 A2 A3 A4) := call_S h rfl
noncomputable def C124 (B0 : List TV) (B1 : Int) (B2 : Int) (B3 : List TV) (B4 : List TV) (K : Int → Nd) : Nd := .call 124 [.st [sl true ⟨6, false⟩ B0, i64 B1, i64 B2, sl true ⟨1, false⟩ B3], sl true ⟨1, false⟩ B4] fun R => .cons R.1 fun X0 X1 => .int .i64 X0 fun A0 => .nil X1 <| .nil R.2 <| K A0
theorem C124_S {f : FuncId} {B0 : List TV} {B1 : Int} {B2 : Int} {B3 : List TV} {B4 : List TV} {A0 : Int} {K : Int → Nd} (h : tw cx 124 [.st [sl true ⟨6, false⟩ B0, i64 B1, i64 B2, sl true ⟨1, false⟩ B3], sl true ⟨1, false⟩ B4] = some ([i64 A0], [])) : S cx f (C124 B0 B1 B2 B3 B4 K) = S cx f (K A0) := call_S h rfl
noncomputable def C16 (B0 : List TV) (K : (List TV) → Nd) : Nd := .call 16 [sl true ⟨6, false⟩ B0] fun R => .cons R.1 fun X0 X1 => .slO ⟨6, false⟩ X0 fun A0 => .nil X1 <| .nil R.2 <| K A0
theorem C16_S {f : FuncId} {B0 : List TV} {A0 : List TV} {K : (List TV) → Nd} (h : tw cx 16 [sl true ⟨6, false⟩ B0] = some ([sl false ⟨6, false⟩ A0], [])) : S cx f (C16 B0 K) = S cx f (K A0) := call_S h rfl
noncomputable def C125 (B0 : List TV) (B1 : List TV) (K : Bool → Nd) : Nd := .call 125 [sl true ⟨4, true⟩ B0, .cl 126 [.pt true () (sl true ⟨4, true⟩ B1)]] fun R => .cons R.1 fun X0 X1 => .bool X0 fun A0 => .nil X1 <| .nil R.2 <| K A0
theorem C125_S {f : FuncId} {B0 : List TV} {B1 : List TV} {A0 : Bool} {K : Bool → Nd} (h : tw cx 125 [sl true ⟨4, true⟩ B0, .cl 126 [.pt true () (sl true ⟨4, true⟩ B1)]] = some ([tb A0], [])) : S cx f (C125 B0 B1 K) = S cx f (K A0) := call_S h rfl
noncomputable def C128 (B0 : List TV) (K : Bool → Nd) : Nd := .call 128 [sl true ⟨1, false⟩ B0] fun R => .cons R.1 fun X0 X1 => .bool X0 fun A0 => .nil X1 <| .nil R.2 <| K A0
theorem C128_S {f : FuncId} {B0 : List TV} {A0 : Bool} {K : Bool → Nd} (h : tw cx 128 [sl true ⟨1, false⟩ B0] = some ([tb A0], [])) : S cx f (C128 B0 K) = S cx f (K A0) := call_S h rfl
noncomputable def C129 (B0 : List TV) (K : (List TV) → Nd) : Nd := .call 129 [sl true ⟨1, false⟩ B0] fun R => .cons R.1 fun X0 X1 => .slO ⟨1, false⟩ X0 fun A0 => .nil X1 <| .nil R.2 <| K A0
theorem C129_S {f : FuncId} {B0 : List TV} {A0 : List TV} {K : (List TV) → Nd} (h : tw cx 129 [sl true ⟨1, false⟩ B0] = some ([sl false ⟨1, false⟩ A0], [])) : S cx f (C129 B0 K) = S cx f (K A0) := call_S h rfl
noncomputable def C130 (B0 : Int) (B1 : Int) (B2 : Int) (K : Int → Bool → Nd) : Nd := .call 130 [i64 B0, i64 B1, i64 B2] fun R => .cons R.1 fun X0 X1 => .int .i64 X0 fun A0 => .cons X1 fun X2 X3 => .bool X2 fun A1 => .nil X3 <| .nil R.2 <| K A0 A1
theorem C130_S {f : FuncId} {B0 : Int} {B1 : Int} {B2 : Int} {A0 : Int} {A1 : Bool} {K : Int → Bool → Nd} (h : tw cx 130 [i64 B0, i64 B1, i64 B2] = some ([i64 A0, tb A1], [])) : S cx f (C130 B0 B1 B2 K) = S cx f (K A0 A1) := call_S h rfl
noncomputable def C131 (B0 : List TV) (B1 : List TV) (B2 : List TV) (B3 : Int) (K : Int → Bool → Nd) : Nd := .call 131 [.pt true () (.st [sl false ⟨1, false⟩ B0, sl false ⟨1, false⟩ B1, sl false ⟨1, false⟩ B2]), i64 B3] fun R => .cons R.1 fun X0 X1 => .int .i64 X0 fun A0 => .cons X1 fun X2 X3 => .bool X2 fun A1 => .nil X3 <| .nil R.2 <| K A0 A1
theorem C131_S {f : FuncId} {B0 : List TV} {B1 : List TV} {B2 : List TV} {B3 : Int} {A0 : Int} {A1 : Bool} {K : Int → Bool → Nd} (h : tw cx 131 [.pt true () (.st [sl false ⟨1, false⟩ B0, sl false ⟨1, false⟩ B1, sl false ⟨1, false⟩ B2]), i64 B3] = some ([i64 A0, tb A1], [])) : S cx f (C131 B0 B1 B2 B3 K) = S cx f (K A0 A1) := call_S h rfl
noncomputable def C132 (B0 : List TV) (B1 : List TV) (B2 : List TV) (B3 : Int) (B4 : Int) (K : Bool → (List TV) → (List TV) → (List TV) → Nd) : Nd := .call 132 [.pt false () (.st [sl false ⟨1, false⟩ B0, sl false ⟨1, false⟩ B1, sl false ⟨1, false⟩ B2]), i64 B3, i64 B4] fun R => .cons R.1 fun X0 X1 => .bool X0 fun A0 => .nil X1 <| .cons R.2 fun X2 X3 => .ptO X2 .non fun X4 => .st X4 fun X5 => .cons X5 fun X6 X7 => .slO ⟨1, false⟩ X6 fun A1 => .cons X7 fun X8 X9 => .slO ⟨1, false⟩ X8 fun A2 => .cons X9 fun X10 X11 => .slO ⟨1, false⟩ X10 fun A3 => .nil X11 <| .nil X3 <| K A0 A1 A2 A3
theorem C132_S {f : FuncId} {B0 : List TV} {B1 : List TV} {B2 : List TV} {B3 : Int} {B4 : Int} {A0 : Bool} {A1 : List TV} {A2 : List TV} {A3 : List TV} {K : Bool → (List TV) → (List TV) → (List TV) → Nd} (h : tw cx 132 [.pt false () (.st [sl false ⟨1, false⟩ B0, sl false ⟨1, false⟩ B1, sl false ⟨1, false⟩ B2]), i64 B3, i64 B4] = some ([tb A0], [.pt false () (.st [sl false ⟨1, false⟩ A1, sl false ⟨1, false⟩ A2, sl false ⟨1, false⟩ A3])])) : S cx f (C132 B0 B1 B2 B3 B4 K) = S cx f (K A0 A1 A2 A3) := call_S h rfl
noncomputable def C133 (B0 : List TV) (B1 : List TV) (B2 : List TV) (B3 : Int) (K : Bool → (List TV) → (List TV) → (List TV) → Nd) : Nd := .call 133 [.pt false () (.st [sl false ⟨1, false⟩ B0, sl false ⟨1, false⟩ B1, sl false ⟨1, false⟩ B2]), i64 B3] fun R => .cons R.1 fun X0 X1 => .bool X0 fun A0 => .nil X1 <| .cons R.2 fun X2 X3 => .ptO X2 .non fun X4 => .st X4 fun X5 => .cons X5 fun X6 X7 => .slO ⟨1, false⟩ X6 fun A1 => .cons X7 fun X8 X9 => .slO ⟨1, false⟩ X8 fun A2 => .cons X9 fun X10 X11 => .slO ⟨1, false⟩ X10 fun A3 => .nil X11 <| .nil X3 <| K A0 A1 A2 A3
theorem C133_S {f : FuncId} {B0 : List TV} {B1 : List TV} {B2 : List TV} {B3 : Int} {A0 : Bool} {A1 : List TV} {A2 : List TV} {A3 : List TV} {K : Bool → (List TV) → (List TV) → (List TV) → Nd} (h : tw cx 133 [.pt false () (.st [sl false ⟨1, false⟩ B0, sl false ⟨1, false⟩ B1, sl false ⟨1, false⟩ B2]), i64 B3] = some ([tb A0], [.pt false () (.st [sl false ⟨1, false⟩ A1, sl false ⟨1, false⟩ A2, sl false ⟨1, false⟩ A3])])) : S cx f (C133 B0 B1 B2 B3 K) = S cx f (K A0 A1 A2 A3) := call_S h rfl
noncomputable def C134 (B0 : Bool) (K : Int → Nd) : Nd := .call 134 [tb B0] fun R => .cons R.1 fun X0 X1 => .int .i64 X0 fun A0 => .nil X1 <| .nil R.2 <| K A0
theorem C134_S {f : FuncId} {B0 : Bool} {A0 : Int} {K : Int → Nd} (h : tw cx 134 [tb B0] = some ([i64 A0], [])) : S cx f (C134 B0 K) = S cx f (K A0) := call_S h rfl
noncomputable def C19 (B0 : List TV) (B1 : List TV) (K : Bool → Nd) : Nd := .call 19 [sl true ⟨6, false⟩ B0, sl true ⟨6, false⟩ B1] fun R => .cons R.1 fun X0 X1 => .bool X0 fun A0 => .nil X1 <| .nil R.2 <| K A0
theorem C19_S {f : FuncId} {B0 : List TV} {B1 : List TV} {A0 : Bool} {K : Bool → Nd} (h : tw cx 19 [sl true ⟨6, false⟩ B0, sl true ⟨6, false⟩ B1] = some ([tb A0], [])) : S cx f (C19 B0 B1 K) = S cx f (K A0) := call_S h rfl
noncomputable def C147 (B0 : Int) (K : Bool → Nd) : Nd := .call 147 [i64 B0] fun R => .cons R.1 fun X0 X1 => .bool X0 fun A0 => .nil X1 <| .nil R.2 <| K A0
theorem C147_S {f : FuncId} {B0 : Int} {A0 : Bool} {K : Bool → Nd} (h : tw cx 147 [i64 B0] = some ([tb A0], [])) : S cx f (C147 B0 K) = S cx f (K A0) := call_S h rfl
noncomputable def C150 (B0 : List TV) (B1 : Int) (K : Bool → Nd) : Nd := .call 150 [sl true ⟨6, false⟩ B0, .cl 151 [.pt true () (i64 B1)]] fun R => .cons R.1 fun X0 X1 => .bool X0 fun A0 => .nil X1 <| .nil R.2 <| K A0
theorem C150_S {f : FuncId} {B0 : List TV} {B1 : Int} {A0 : Bool} {K : Bool → Nd} (h : tw cx 150 [sl true ⟨6, false⟩ B0, .cl 151 [.pt true () (i64 B1)]] = some ([tb A0], [])) : S cx f (C150 B0 B1 K) = S cx f (K A0) := call_S h rfl
noncomputable def C111 (B0 : Int) (B1 : Int) (B2 : Int) (B3 : Int) (B4 : Int) (B5 : Int) (K : Bool → Nd) : Nd := .call 111 [.st [i64 B0, i64 B1, i64 B2, i64 B3, i64 B4, i64 B5]] fun R => .cons R.1 fun X0 X1 => .bool X0 fun A0 => .nil X1 <| .nil R.2 <| K A0
theorem C111_S {f : FuncId} {B0 : Int} {B1 : Int} {B2 : Int} {B3 : Int} {B4 : Int} {B5 : Int} {A0 : Bool} {K : Bool → Nd} (h : tw cx 111 [.st [i64 B0, i64 B1, i64 B2, i64 B3, i64 B4, i64 B5]] = some ([tb A0], [])) : S cx f (C111 B0 B1 B2 B3 B4 B5 K) = S cx f (K A0) := call_S h rfl
noncomputable def C153 (B0 : Int) (B1 : Int) (B2 : Int) (K : Int → Bool → Nd) : Nd := .call 153 [i64 B0, i64 B1, i64 B2] fun R => .cons R.1 fun X0 X1 => .int .i64 X0 fun A0 => .cons X1 fun X2 X3 => .bool X2 fun A1 => .nil X3 <| .nil R.2 <| K A0 A1
theorem C153_S {f : FuncId} {B0 : Int} {B1 : Int} {B2 : Int} {A0 : Int} {A1 : Bool} {K : Int → Bool → Nd} (h : tw cx 153 [i64 B0, i64 B1, i64 B2] = some ([i64 A0, tb A1], [])) : S cx f (C153 B0 B1 B2 K) = S cx f (K A0 A1) := call_S h rfl
noncomputable def C154 (B0 : List TV) (B1 : List TV) (K : Int → Nd) : Nd := .call 154 [sl true ⟨4, true⟩ B0, .cl 126 [.pt true () (sl true ⟨4, true⟩ B1)]] fun R => .cons R.1 fun X0 X1 => .int .i64 X0 fun A0 => .nil X1 <| .nil R.2 <| K A0
theorem C154_S {f : FuncId} {B0 : List TV} {B1 : List TV} {A0 : Int} {K : Int → Nd} (h : tw cx 154 [sl true ⟨4, true⟩ B0, .cl 126 [.pt true () (sl true ⟨4, true⟩ B1)]] = some ([i64 A0], [])) : S cx f (C154 B0 B1 K) = S cx f (K A0) := call_S h rfl
noncomputable def C118 (B0 : List TV) (B1 : Int) (K : Bool → Nd) : Nd := .call 118 [sl true ⟨6, false⟩ B0, i64 B1] fun R => .cons R.1 fun X0 X1 => .bool X0 fun A0 => .nil X1 <| .nil R.2 <| K A0
theorem C118_S {f : FuncId} {B0 : List TV} {B1 : Int} {A0 : Bool} {K : Bool → Nd} (h : tw cx 118 [sl true ⟨6, false⟩ B0, i64 B1] = some ([tb A0], [])) : S cx f (C118 B0 B1 K) = S cx f (K A0) := call_S h rfl
noncomputable def C127 (B0 : Int) (B1 : Int) (B2 : List TV) (B3 : Int) (B4 : Int) (K : Bool → Nd) : Nd := .call 127 [i64 B0, i64 B1, sl true ⟨1, false⟩ B2, i64 B3, i64 B4] fun R => .cons R.1 fun X0 X1 => .bool X0 fun A0 => .nil X1 <| .nil R.2 <| K A0
theorem C127_S {f : FuncId} {B0 : Int} {B1 : Int} {B2 : List TV} {B3 : Int} {B4 : Int} {A0 : Bool} {K : Bool → Nd} (h : tw cx 127 [i64 B0, i64 B1, sl true ⟨1, false⟩ B2, i64 B3, i64 B4] = some ([tb A0], [])) : S cx f (C127 B0 B1 B2 B3 B4 K) = S cx f (K A0) := call_S h rfl
noncomputable def C156 (B0 : List TV) (B1 : Int) (K : Bool → Nd) : Nd := .call 156 [sl true ⟨1, false⟩ B0, .cl 157 [.pt true () (i64 B1)]] fun R => .cons R.1 fun X0 X1 => .bool X0 fun A0 => .nil X1 <| .nil R.2 <| K A0
theorem C156_S {f : FuncId} {B0 : List TV} {B1 : Int} {A0 : Bool} {K : Bool → Nd} (h : tw cx 156 [sl true ⟨1, false⟩ B0, .cl 157 [.pt true () (i64 B1)]] = some ([tb A0], [])) : S cx f (C156 B0 B1 K) = S cx f (K A0) := call_S h rfl
noncomputable def C155 (B0 : Int) (K : Bool → Nd) : Nd := .call 155 [i64 B0] fun R => .cons R.1 fun X0 X1 => .bool X0 fun A0 => .nil X1 <| .nil R.2 <| K A0
theorem C155_S {f : FuncId} {B0 : Int} {A0 : Bool} {K : Bool → Nd} (h : tw cx 155 [i64 B0] = some ([tb A0], [])) : S cx f (C155 B0 K) = S cx f (K A0) := call_S h rfl
noncomputable def C156_1 (B0 : List TV) (K : Bool → Nd) : Nd := .call 156 [sl true ⟨1, false⟩ B0, .cl 158 []] fun R => .cons R.1 fun X0 X1 => .bool X0 fun A0 => .nil X1 <| .nil R.2 <| K A0
theorem C156_1_S {f : FuncId} {B0 : List TV} {A0 : Bool} {K : Bool → Nd} (h : tw cx 156 [sl true ⟨1, false⟩ B0, .cl 158 []] = some ([tb A0], [])) : S cx f (C156_1 B0 K) = S cx f (K A0) := call_S h rfl
noncomputable def C181 (B0 : List TV) (B1 : Int) (K : Int → Nd) : Nd := .call 181 [sl true ⟨6, false⟩ B0, .cl 151 [.pt true () (i64 B1)]] fun R => .cons R.1 fun X0 X1 => .int .i64 X0 fun A0 => .nil X1 <| .nil R.2 <| K A0
theorem C181_S {f : FuncId} {B0 : List TV} {B1 : Int} {A0 : Int} {K : Int → Nd} (h : tw cx 181 [sl true ⟨6, false⟩ B0, .cl 151 [.pt true () (i64 B1)]] = some ([i64 A0], [])) : S cx f (C181 B0 B1 K) = S cx f (K A0) := call_S h rfl
noncomputable def C152 (B0 : Int) (B1 : Int) (B2 : Int) (B3 : Int) (B4 : Int) (B5 : Int) (B6 : Int) (K : Bool → Nd) : Nd := .call 152 [.st [i64 B0, i64 B1, i64 B2, i64 B3, i64 B4, i64 B5], i64 B6] fun R => .cons R.1 fun X0 X1 => .bool X0 fun A0 => .nil X1 <| .nil R.2 <| K A0
theorem C152_S {f : FuncId} {B0 : Int} {B1 : Int} {B2 : Int} {B3 : Int} {B4 : Int} {B5 : Int} {B6 : Int} {A0 : Bool} {K : Bool → Nd} (h : tw cx 152 [.st [i64 B0, i64 B1, i64 B2, i64 B3, i64 B4, i64 B5], i64 B6] = some ([tb A0], [])) : S cx f (C152 B0 B1 B2 B3 B4 B5 B6 K) = S cx f (K A0) := call_S h rfl
noncomputable def C179 (B0 : Int) (K : Bool → Nd) : Nd := .call 179 [i64 B0] fun R => .cons R.1 fun X0 X1 => .bool X0 fun A0 => .nil X1 <| .nil R.2 <| K A0
theorem C179_S {f : FuncId} {B0 : Int} {A0 : Bool} {K : Bool → Nd} (h : tw cx 179 [i64 B0] = some ([tb A0], [])) : S cx f (C179 B0 K) = S cx f (K A0) := call_S h rfl
noncomputable def C114 (B0 : Int) (K : Bool → Bool → Bool → Bool → Bool → Bool → Nd) : Nd := .call 114 [i64 B0] fun R => .cons R.1 fun X0 X1 => .st X0 fun X2 => .cons X2 fun X3 X4 => .bool X3 fun A0 => .cons X4 fun X5 X6 => .bool X5 fun A1 => .cons X6 fun X7 X8 => .bool X7 fun A2 => .cons X8 fun X9 X10 => .bool X9 fun A3 => .cons X10 fun X11 X12 => .bool X11 fun A4 => .nil X12 <| .cons X1 fun X13 X14 => .bool X13 fun A5 => .nil X14 <| .nil R.2 <| K A0 A1 A2 A3 A4 A5
theorem C114_S {f : FuncId} {B0 : Int} {A0 : Bool} {A1 : Bool} {A2 : Bool} {A3 : Bool} {A4 : Bool} {A5 : Bool} {K : Bool → Bool → Bool → Bool → Bool → Bool → Nd} (h : tw cx 114 [i64 B0] = some ([.st [tb A0, tb A1, tb A2, tb A3, tb A4], tb A5], [])) : S cx f (C114 B0 K) = S cx f (K A0 A1 A2 A3 A4 A5) := call_S h rfl
noncomputable def C182 (B0 : Bool) (B1 : Int) (B2 : Int) (K : Bool → Nd) : Nd := .call 182 [tb B0, i64 B1, .pt true () (i64 B2)] fun R => .cons R.1 fun X0 X1 => .bool X0 fun A0 => .nil X1 <| .nil R.2 <| K A0
theorem C182_S {f : FuncId} {B0 : Bool} {B1 : Int} {B2 : Int} {A0 : Bool} {K : Bool → Nd} (h : tw cx 182 [tb B0, i64 B1, .pt true () (i64 B2)] = some ([tb A0], [])) : S cx f (C182 B0 B1 B2 K) = S cx f (K A0) := call_S h rfl
noncomputable def C159 (B0 : Int) (K : Bool → Nd) : Nd := .call 159 [i64 B0] fun R => .cons R.1 fun X0 X1 => .bool X0 fun A0 => .nil X1 <| .nil R.2 <| K A0
theorem C159_S {f : FuncId} {B0 : Int} {A0 : Bool} {K : Bool → Nd} (h : tw cx 159 [i64 B0] = some ([tb A0], [])) : S cx f (C159 B0 K) = S cx f (K A0) := call_S h rfl
noncomputable def C183 (B0 : Bool) (K : Int → Nd) : Nd := .call 183 [tb B0] fun R => .cons R.1 fun X0 X1 => .int .i64 X0 fun A0 => .nil X1 <| .nil R.2 <| K A0
theorem C183_S {f : FuncId} {B0 : Bool} {A0 : Int} {K : Int → Nd} (h : tw cx 183 [tb B0] = some ([i64 A0], [])) : S cx f (C183 B0 K) = S cx f (K A0) := call_S h rfl
noncomputable def C126 (B0 : List TV) (B1 : Int) (B2 : Int) (B3 : List TV) (B4 : List TV) (K : Bool → Nd) : Nd := .call 126 [.st [sl true ⟨6, false⟩ B0, i64 B1, i64 B2, sl true ⟨1, false⟩ B3], .pt true () (sl true ⟨4, true⟩ B4)] fun R => .cons R.1 fun X0 X1 => .bool X0 fun A0 => .nil X1 <| .nil R.2 <| K A0
theorem C126_S {f : FuncId} {B0 : List TV} {B1 : Int} {B2 : Int} {B3 : List TV} {B4 : List TV} {A0 : Bool} {K : Bool → Nd} (h : tw cx 126 [.st [sl true ⟨6, false⟩ B0, i64 B1, i64 B2, sl true ⟨1, false⟩ B3], .pt true () (sl true ⟨4, true⟩ B4)] = some ([tb A0], [])) : S cx f (C126 B0 B1 B2 B3 B4 K) = S cx f (K A0) := call_S h rfl
noncomputable def C184 (B0 : List TV) (K : Int → Nd) : Nd := .call 184 [sl true ⟨1, false⟩ B0, .cl 158 []] fun R => .cons R.1 fun X0 X1 => .int .i64 X0 fun A0 => .nil X1 <| .nil R.2 <| K A0
theorem C184_S {f : FuncId} {B0 : List TV} {A0 : Int} {K : Int → Nd} (h : tw cx 184 [sl true ⟨1, false⟩ B0, .cl 158 []] = some ([i64 A0], [])) : S cx f (C184 B0 K) = S cx f (K A0) := call_S h rfl
noncomputable def C184_1 (B0 : List TV) (B1 : Int) (K : Int → Nd) : Nd := .call 184 [sl true ⟨1, false⟩ B0, .cl 157 [.pt true () (i64 B1)]] fun R => .cons R.1 fun X0 X1 => .int .i64 X0 fun A0 => .nil X1 <| .nil R.2 <| K A0
theorem C184_1_S {f : FuncId} {B0 : List TV} {B1 : Int} {A0 : Int} {K : Int → Nd} (h : tw cx 184 [sl true ⟨1, false⟩ B0, .cl 157 [.pt true () (i64 B1)]] = some ([i64 A0], [])) : S cx f (C184_1 B0 B1 K) = S cx f (K A0) := call_S h rfl
noncomputable def C151 (B0 : Int) (B1 : Int) (B2 : Int) (B3 : Int) (B4 : Int) (B5 : Int) (B6 : Int) (K : Bool → Nd) : Nd := .call 151 [.st [i64 B0, i64 B1, i64 B2, i64 B3, i64 B4, i64 B5], .pt true () (i64 B6)] fun R => .cons R.1 fun X0 X1 => .bool X0 fun A0 => .nil X1 <| .nil R.2 <| K A0
theorem C151_S {f : FuncId} {B0 : Int} {B1 : Int} {B2 : Int} {B3 : Int} {B4 : Int} {B5 : Int} {B6 : Int} {A0 : Bool} {K : Bool → Nd} (h : tw cx 151 [.st [i64 B0, i64 B1, i64 B2, i64 B3, i64 B4, i64 B5], .pt true () (i64 B6)] = some ([tb A0], [])) : S cx f (C151 B0 B1 B2 B3 B4 B5 B6 K) = S cx f (K A0) := call_S h rfl
noncomputable def C158 (B0 : Int) (K : Bool → Nd) : Nd := .call 158 [i64 B0] fun R => .cons R.1 fun X0 X1 => .bool X0 fun A0 => .nil X1 <| .nil R.2 <| K A0
theorem C158_S {f : FuncId} {B0 : Int} {A0 : Bool} {K : Bool → Nd} (h : tw cx 158 [i64 B0] = some ([tb A0], [])) : S cx f (C158 B0 K) = S cx f (K A0) := call_S h rfl
noncomputable def C157 (B0 : Int) (B1 : Int) (K : Bool → Nd) : Nd := .call 157 [i64 B0, .pt true () (i64 B1)] fun R => .cons R.1 fun X0 X1 => .bool X0 fun A0 => .nil X1 <| .nil R.2 <| K A0
theorem C157_S {f : FuncId} {B0 : Int} {B1 : Int} {A0 : Bool} {K : Bool → Nd} (h : tw cx 157 [i64 B0, .pt true () (i64 B1)] = some ([tb A0], [])) : S cx f (C157 B0 B1 K) = S cx f (K A0) := call_S h rfl
end Go.Tree.Q

/- Trees of values: program points of functions. -/
namespace Go.Tree.Q
open Go.Proofs
set_option linter.unusedVariables false
set_option maxRecDepth 20000
/-! laws.FnExactRunFlow -/
noncomputable def EG7_0 (aF_0 : List TV) (aFuel_1 : Int) (aS_2 : List TV) (aS_3 : List TV) (aS_4 : List TV) (w0_5 : List TV) (w0_6 : List TV) (w0_7 : List TV) (w1_8 : Int) (w2_9 : Int) (w3_10 : Bool) : Env := [.val [] (sl true ⟨4, true⟩ aF_0), .un, .val [] (i64 aFuel_1), .un, .val [] (.pt false () (.st [sl true ⟨1, false⟩ aS_2, sl true ⟨1, false⟩ aS_3, sl true ⟨1, false⟩ aS_4])), .un, .un, .un, .val [] (.pt false () (.st [sl false ⟨1, false⟩ w0_5, sl false ⟨1, false⟩ w0_6, sl false ⟨1, false⟩ w0_7])), .val [] (i64 w1_8), .val [] (i64 w2_9), .val [] (tb w3_10)] ++ uns 157
noncomputable abbrev G7_0 (aF_0 : List TV) (aFuel_1 : Int) (aS_2 : List TV) (aS_3 : List TV) (aS_4 : List TV) (w0_5 : List TV) (w0_6 : List TV) (w0_7 : List TV) (w1_8 : Int) (w2_9 : Int) (w3_10 : Bool) : Nd := .go [1, 1, 1, 1, 1, 1, 1] (EG7_0 aF_0 aFuel_1 aS_2 aS_3 aS_4 w0_5 w0_6 w0_7 w1_8 w2_9 w3_10)
noncomputable def EG7_1 (w0_0 : List TV) (w0_1 : List TV) (w0_2 : List TV) (w1_3 : Int) (w2_4 : Int) (w3_5 : Bool) (g0_6 : List TV) (g0_7 : List TV) (g0_8 : List TV) (m_9 : Int) (h0_10 : List TV) (h0_11 : List TV) (h0_12 : List TV) (h1_13 : Int) (h2_14 : Int) (h3_15 : Bool) : Env := uns 8 ++ [.val [] (.pt false () (.st [sl false ⟨1, false⟩ w0_0, sl false ⟨1, false⟩ w0_1, sl false ⟨1, false⟩ w0_2])), .val [] (i64 w1_3), .val [] (i64 w2_4), .val [] (tb w3_5), .un, .un, .val [] (.pt false () (.st [sl false ⟨1, false⟩ g0_6, sl false ⟨1, false⟩ g0_7, sl false ⟨1, false⟩ g0_8])), .un, .un, .un, .un, .val [] (i64 m_9), .un, .val [] (.pt false () (.st [sl false ⟨1, false⟩ h0_10, sl false ⟨1, false⟩ h0_11, sl false ⟨1, false⟩ h0_12])), .val [] (i64 h1_13), .val [] (i64 h2_14), .val [] (tb h3_15)] ++ uns 144
noncomputable abbrev G7_1 (w0_0 : List TV) (w0_1 : List TV) (w0_2 : List TV) (w1_3 : Int) (w2_4 : Int) (w3_5 : Bool) (g0_6 : List TV) (g0_7 : List TV) (g0_8 : List TV) (m_9 : Int) (h0_10 : List TV) (h0_11 : List TV) (h0_12 : List TV) (h1_13 : Int) (h2_14 : Int) (h3_15 : Bool) : Nd := .go [1, 1, 1, 1, 1, 1, 1, 1, 1, 1, 1, 1, 1, 1, 1, 1, 1, 1, 1, 1, 1, 1, 1, 1] (EG7_1 w0_0 w0_1 w0_2 w1_3 w2_4 w3_5 g0_6 g0_7 g0_8 m_9 h0_10 h0_11 h0_12 h1_13 h2_14 h3_15)
noncomputable def N7_s0 (aF_0 : List TV) (aS_1 : List TV) (aS_2 : List TV) (aS_3 : List TV) (aFuel_4 : Int) (vs_f1c6 : List TV) (localss_fa98 : List TV) (mems_073e : List TV) (tolds_1364 : List TV) : Nd :=
  C36 vs_f1c6 localss_fa98 mems_073e tolds_1364 aFuel_4 fun localss_ccf7 mems_0daf tolds_104d v_6355 v_07c8 v_91be =>
  G7_0 aF_0 aFuel_4 aS_1 aS_2 aS_3 localss_ccf7 mems_0daf tolds_104d v_6355 v_07c8 v_91be
noncomputable def N7_s1 (aF_0 : List TV) (aS_1 : List TV) (aS_2 : List TV) (aS_3 : List TV) (aFuel_4 : Int) (vs_f1c6 : List TV) : Nd :=
  C38 aS_1 aS_2 aS_3 fun localss_fa98 mems_073e tolds_1364 =>
  N7_s0 aF_0 aS_1 aS_2 aS_3 aFuel_4 vs_f1c6 localss_fa98 mems_073e tolds_1364
noncomputable def N7_s2 (aF_0 : List TV) (aS_1 : List TV) (aS_2 : List TV) (aS_3 : List TV) (aFuel_4 : Int) : Nd :=
  C37 aF_0 fun vs_f1c6 =>
  .amb2 
  (C38 aS_1 aS_2 aS_3 fun localss_fa98 mems_073e tolds_1364 =>
    .amb2 
    (N7_s0 aF_0 aS_1 aS_2 aS_3 aFuel_4 vs_f1c6 localss_fa98 mems_073e tolds_1364) 
    (N7_s0 aF_0 aS_1 aS_2 aS_3 aFuel_4 vs_f1c6 localss_fa98 mems_073e tolds_1364)) 
  (N7_s1 aF_0 aS_1 aS_2 aS_3 aFuel_4 vs_f1c6)
noncomputable def N7_s3 (aF_0 : List TV) (aS_1 : List TV) (aS_2 : List TV) (aS_3 : List TV) (aFuel_4 : Int) : Nd :=
  C37 aF_0 fun vs_f1c6 =>
  N7_s1 aF_0 aS_1 aS_2 aS_3 aFuel_4 vs_f1c6
noncomputable def N7 (aF_0 : List TV) (aS_1 : List TV) (aS_2 : List TV) (aS_3 : List TV) (aFuel_4 : Int) : Nd :=
  C34 aF_0 1048576 fun v_20f2 =>
  .bif (decide (v_20f2 < 0))
  (.ret [tb true] [])
  (C35 aS_1 aS_2 aS_3 v_20f2 fun v_3f0c =>
    .bif (decide (v_3f0c < 0))
    (.ret [tb true] [])
    (.amb3 
      (N7_s2 aF_0 aS_1 aS_2 aS_3 aFuel_4) 
      (.amb2 
        (N7_s2 aF_0 aS_1 aS_2 aS_3 aFuel_4) 
        (N7_s3 aF_0 aS_1 aS_2 aS_3 aFuel_4)) 
      (.amb2 
        (N7_s3 aF_0 aS_1 aS_2 aS_3 aFuel_4) 
        (N7_s3 aF_0 aS_1 aS_2 aS_3 aFuel_4))))
theorem e7 {aF_0 : List TV} {aS_1 : List TV} {aS_2 : List TV} {aS_3 : List TV} {aFuel_4 : Int} {r : Res} (h : S cx 7 (N7 aF_0 aS_1 aS_2 aS_3 aFuel_4) = some r) : tw cx 7 [sl true ⟨4, true⟩ aF_0, .st [sl true ⟨1, false⟩ aS_1, sl true ⟨1, false⟩ aS_2, sl true ⟨1, false⟩ aS_3], i64 aFuel_4] = some r :=
  tw_of (fun call hd hb pt rg => by kernel_rfl) h
noncomputable def NG7_0_s0 (aFuel_1 : Int) (w0_5 : List TV) (w0_6 : List TV) (w0_7 : List TV) (w1_8 : Int) (w2_9 : Int) (w3_10 : Bool) (v_b2c7 : Int) (localss_17d6 : List TV) (mems_1dc2 : List TV) (tolds_a4a3 : List TV) (vs_aba0 : List TV) (localss_b3da : List TV) (mems_9f94 : List TV) (tolds_75d8 : List TV) : Nd :=
  C39 vs_aba0 localss_b3da mems_9f94 tolds_75d8 aFuel_1 fun localss_2c30 mems_4d75 tolds_9470 v_804d v_df09 v_a5e4 =>
  G7_1 w0_5 w0_6 w0_7 w1_8 w2_9 w3_10 localss_17d6 mems_1dc2 tolds_a4a3 v_b2c7 localss_2c30 mems_4d75 tolds_9470 v_804d v_df09 v_a5e4
noncomputable def NG7_0_s1 (aFuel_1 : Int) (aS_2 : List TV) (aS_3 : List TV) (aS_4 : List TV) (w0_5 : List TV) (w0_6 : List TV) (w0_7 : List TV) (w1_8 : Int) (w2_9 : Int) (w3_10 : Bool) (v_b2c7 : Int) (localss_17d6 : List TV) (mems_1dc2 : List TV) (tolds_a4a3 : List TV) (vs_aba0 : List TV) : Nd :=
  C38 aS_2 aS_3 aS_4 fun localss_b3da mems_9f94 tolds_75d8 =>
  NG7_0_s0 aFuel_1 w0_5 w0_6 w0_7 w1_8 w2_9 w3_10 v_b2c7 localss_17d6 mems_1dc2 tolds_a4a3 vs_aba0 localss_b3da mems_9f94 tolds_75d8
noncomputable def NG7_0_s2 (aF_0 : List TV) (aFuel_1 : Int) (aS_2 : List TV) (aS_3 : List TV) (aS_4 : List TV) (w0_5 : List TV) (w0_6 : List TV) (w0_7 : List TV) (w1_8 : Int) (w2_9 : Int) (w3_10 : Bool) (v_b2c7 : Int) (localss_17d6 : List TV) (mems_1dc2 : List TV) (tolds_a4a3 : List TV) : Nd :=
  C37 aF_0 fun vs_aba0 =>
  .amb2 
  (C38 aS_2 aS_3 aS_4 fun localss_b3da mems_9f94 tolds_75d8 =>
    .amb2 
    (NG7_0_s0 aFuel_1 w0_5 w0_6 w0_7 w1_8 w2_9 w3_10 v_b2c7 localss_17d6 mems_1dc2 tolds_a4a3 vs_aba0 localss_b3da mems_9f94 tolds_75d8) 
    (NG7_0_s0 aFuel_1 w0_5 w0_6 w0_7 w1_8 w2_9 w3_10 v_b2c7 localss_17d6 mems_1dc2 tolds_a4a3 vs_aba0 localss_b3da mems_9f94 tolds_75d8)) 
  (NG7_0_s1 aFuel_1 aS_2 aS_3 aS_4 w0_5 w0_6 w0_7 w1_8 w2_9 w3_10 v_b2c7 localss_17d6 mems_1dc2 tolds_a4a3 vs_aba0)
noncomputable def NG7_0_s3 (aF_0 : List TV) (aFuel_1 : Int) (aS_2 : List TV) (aS_3 : List TV) (aS_4 : List TV) (w0_5 : List TV) (w0_6 : List TV) (w0_7 : List TV) (w1_8 : Int) (w2_9 : Int) (w3_10 : Bool) (v_b2c7 : Int) (localss_17d6 : List TV) (mems_1dc2 : List TV) (tolds_a4a3 : List TV) : Nd :=
  C37 aF_0 fun vs_aba0 =>
  NG7_0_s1 aFuel_1 aS_2 aS_3 aS_4 w0_5 w0_6 w0_7 w1_8 w2_9 w3_10 v_b2c7 localss_17d6 mems_1dc2 tolds_a4a3 vs_aba0
noncomputable def NG7_0_s4 (aF_0 : List TV) (aFuel_1 : Int) (aS_2 : List TV) (aS_3 : List TV) (aS_4 : List TV) (w0_5 : List TV) (w0_6 : List TV) (w0_7 : List TV) (w1_8 : Int) (w2_9 : Int) (w3_10 : Bool) (vs_f1c6 : List TV) (localss_94f0 : List TV) (mems_d2f9 : List TV) (tolds_8d6b : List TV) (localss_898c : List TV) (mems_6e39 : List TV) (tolds_3a79 : List TV) (v_650a : Int) (v_26fa : Int) (v_e353 : Bool) : Nd :=
  C38 aS_2 aS_3 aS_4 fun localss_7f41 mems_0b77 tolds_b952 =>
  C40 localss_94f0 mems_d2f9 tolds_8d6b localss_7f41 mems_0b77 tolds_b952 fun v_0ee5 =>
  .bif ((!v_0ee5))
  (.ret [tb false] [])
  (C42 vs_f1c6 1 fun v_85a3 vs_e7ba =>
    C43 localss_94f0 mems_d2f9 tolds_8d6b v_85a3 fun v_32eb localss_d14d mems_6110 tolds_faf7 =>
    .bif (decide (v_32eb < 0))
    (.ret [tb false] [])
    (C40 localss_898c mems_6e39 tolds_3a79 w0_5 w0_6 w0_7 fun v_d108 =>
      .bif ((!v_d108))
      (.ret [tb false] [])
      (.bif ((v_650a != w1_8))
        (.ret [tb false] [])
        (.bif ((v_26fa != w2_9))
          (.ret [tb false] [])
          (.bif ((!(v_e353 == w3_10)))
            (.ret [tb false] [])
            (C43 localss_898c mems_6e39 tolds_3a79 1 fun v_b2c7 localss_17d6 mems_1dc2 tolds_a4a3 =>
              C44 localss_17d6 mems_1dc2 tolds_a4a3 1 fun v_b399 =>
              .bif (decide (v_b399 < 0))
              (.ret [tb false] [])
              (.bif ((v_b399 != v_b2c7))
                (.ret [tb false] [])
                (.amb3 
                  (NG7_0_s2 aF_0 aFuel_1 aS_2 aS_3 aS_4 w0_5 w0_6 w0_7 w1_8 w2_9 w3_10 v_b2c7 localss_17d6 mems_1dc2 tolds_a4a3) 
                  (.amb2 
                    (NG7_0_s2 aF_0 aFuel_1 aS_2 aS_3 aS_4 w0_5 w0_6 w0_7 w1_8 w2_9 w3_10 v_b2c7 localss_17d6 mems_1dc2 tolds_a4a3) 
                    (NG7_0_s3 aF_0 aFuel_1 aS_2 aS_3 aS_4 w0_5 w0_6 w0_7 w1_8 w2_9 w3_10 v_b2c7 localss_17d6 mems_1dc2 tolds_a4a3)) 
                  (.amb2 
                    (NG7_0_s3 aF_0 aFuel_1 aS_2 aS_3 aS_4 w0_5 w0_6 w0_7 w1_8 w2_9 w3_10 v_b2c7 localss_17d6 mems_1dc2 tolds_a4a3) 
                    (NG7_0_s3 aF_0 aFuel_1 aS_2 aS_3 aS_4 w0_5 w0_6 w0_7 w1_8 w2_9 w3_10 v_b2c7 localss_17d6 mems_1dc2 tolds_a4a3))))))))))
noncomputable def NG7_0 (aF_0 : List TV) (aFuel_1 : Int) (aS_2 : List TV) (aS_3 : List TV) (aS_4 : List TV) (w0_5 : List TV) (w0_6 : List TV) (w0_7 : List TV) (w1_8 : Int) (w2_9 : Int) (w3_10 : Bool) : Nd :=
  C37 aF_0 fun vs_f1c6 =>
  C38 aS_2 aS_3 aS_4 fun localss_94f0 mems_d2f9 tolds_8d6b =>
  C39 vs_f1c6 localss_94f0 mems_d2f9 tolds_8d6b aFuel_1 fun localss_898c mems_6e39 tolds_3a79 v_650a v_26fa v_e353 =>
  C40 localss_898c mems_6e39 tolds_3a79 w0_5 w0_6 w0_7 fun v_947e =>
  .bif ((!v_947e))
  (.ret [tb false] [])
  (.bif ((v_650a != w1_8))
    (.ret [tb false] [])
    (.bif ((v_26fa != w2_9))
      (.ret [tb false] [])
      (.bif ((!(v_e353 == w3_10)))
        (.ret [tb false] [])
        (C37 aF_0 fun vs_c11a =>
          C41 vs_f1c6 vs_c11a fun v_f772 =>
          .bif ((!v_f772))
          (.ret [tb false] [])
          (.amb2 
            (NG7_0_s4 aF_0 aFuel_1 aS_2 aS_3 aS_4 w0_5 w0_6 w0_7 w1_8 w2_9 w3_10 vs_f1c6 localss_94f0 mems_d2f9 tolds_8d6b localss_898c mems_6e39 tolds_3a79 v_650a v_26fa v_e353) 
            (NG7_0_s4 aF_0 aFuel_1 aS_2 aS_3 aS_4 w0_5 w0_6 w0_7 w1_8 w2_9 w3_10 vs_f1c6 localss_94f0 mems_d2f9 tolds_8d6b localss_898c mems_6e39 tolds_3a79 v_650a v_26fa v_e353))))))
theorem eG7_0 {aF_0 : List TV} {aFuel_1 : Int} {aS_2 : List TV} {aS_3 : List TV} {aS_4 : List TV} {w0_5 : List TV} {w0_6 : List TV} {w0_7 : List TV} {w1_8 : Int} {w2_9 : Int} {w3_10 : Bool} {r : Res} (h : S cx 7 (NG7_0 aF_0 aFuel_1 aS_2 aS_3 aS_4 w0_5 w0_6 w0_7 w1_8 w2_9 w3_10) = some r) : S cx 7 (G7_0 aF_0 aFuel_1 aS_2 aS_3 aS_4 w0_5 w0_6 w0_7 w1_8 w2_9 w3_10) = some r :=
  pw_of (fun call hd hb pt rg => by kernel_rfl) h
noncomputable def NG7_1 (w0_0 : List TV) (w0_1 : List TV) (w0_2 : List TV) (w1_3 : Int) (w2_4 : Int) (w3_5 : Bool) (g0_6 : List TV) (g0_7 : List TV) (g0_8 : List TV) (m_9 : Int) (h0_10 : List TV) (h0_11 : List TV) (h0_12 : List TV) (h1_13 : Int) (h2_14 : Int) (h3_15 : Bool) : Nd :=
  C40 h0_10 h0_11 h0_12 w0_0 w0_1 w0_2 fun v_a250 =>
  .bif ((!v_a250))
  (.ret [tb false] [])
  (.bif ((h1_13 != w1_3))
    (.ret [tb false] [])
    (.bif ((h2_14 != w2_4))
      (.ret [tb false] [])
      (.bif ((!(h3_15 == w3_5)))
        (.ret [tb false] [])
        (C44 g0_6 g0_7 g0_8 1 fun v_2b40 =>
          .bif (decide (v_2b40 < 0))
          (.ret [tb false] [])
          (.bif ((v_2b40 != m_9))
            (.ret [tb false] [])
            (.ret [tb true] []))))))
theorem eG7_1 {w0_0 : List TV} {w0_1 : List TV} {w0_2 : List TV} {w1_3 : Int} {w2_4 : Int} {w3_5 : Bool} {g0_6 : List TV} {g0_7 : List TV} {g0_8 : List TV} {m_9 : Int} {h0_10 : List TV} {h0_11 : List TV} {h0_12 : List TV} {h1_13 : Int} {h2_14 : Int} {h3_15 : Bool} {r : Res} (h : S cx 7 (NG7_1 w0_0 w0_1 w0_2 w1_3 w2_4 w3_5 g0_6 g0_7 g0_8 m_9 h0_10 h0_11 h0_12 h1_13 h2_14 h3_15) = some r) : S cx 7 (G7_1 w0_0 w0_1 w0_2 w1_3 w2_4 w3_5 g0_6 g0_7 g0_8 m_9 h0_10 h0_11 h0_12 h1_13 h2_14 h3_15) = some r :=
  pw_of (fun call hd hb pt rg => by kernel_rfl) h
/-! laws.szFlatS -/
noncomputable def N14 (a_0 : List TV) (left_1 : Int) : Nd :=
  .bif (decide (w64 (left_1 - ((a_0.length : Nat) : Int)) < 0))
  (.ret [i64 (-1)] [])
  (.ret [i64 (w64 (left_1 - ((a_0.length : Nat) : Int)))] [])
theorem e14 {a_0 : List TV} {left_1 : Int} {r : Res} (h : S cx 14 (N14 a_0 left_1) = some r) : tw cx 14 [sl true ⟨6, false⟩ a_0, i64 left_1] = some r :=
  tw_of (fun call hd hb pt rg => by kernel_rfl) h
/-! laws.toFlatS -/
noncomputable def EH16_0 (a_0 : List TV) (out_1 : List TV) (i_2 : Int) : Env := [.val [] (sl true ⟨6, false⟩ a_0), .un, .un, .val [] (sl false ⟨6, false⟩ out_1), .val [] (i64 i_2)] ++ uns 19
noncomputable abbrev H16_0 (a_0 : List TV) (out_1 : List TV) (i_2 : Int) : Nd := .head [1, 1, 0, 1, 2] (EH16_0 a_0 out_1 i_2)
noncomputable abbrev B16_0 (a_0 : List TV) (out_1 : List TV) (i_2 : Int) : Nd := .back [1, 1, 0, 1, 2] (EH16_0 a_0 out_1 i_2)
noncomputable def N16 (a_0 : List TV) : Nd :=
  .ck (decide ((0 : Int) ≤ ((a_0.length : Nat) : Int)) && decide (((a_0.length : Nat) : Int) ≤ ((a_0.length : Nat) : Int)) && decide (((a_0.length : Nat) : Int) * 48 < (lim : Int)) && decide (((a_0.length : Nat) : Int) < 9223372036854775807) && true && true) <|
  H16_0 a_0 (List.replicate (((a_0.length : Nat) : Int).toNat) (.st [i64 0, i64 0, i64 0, i64 0, i64 0, i64 0])) 0
theorem e16 {a_0 : List TV} {r : Res} (h : S cx 16 (N16 a_0) = some r) : tw cx 16 [sl true ⟨6, false⟩ a_0] = some r :=
  tw_of (fun call hd hb pt rg => by kernel_rfl) h
noncomputable def NH16_0 (a_0 : List TV) (out_1 : List TV) (i_2 : Int) : Nd :=
  .bif (decide (i_2 < ((a_0.length : Nat) : Int)))
  (.ck (decide ((0 : Int) ≤ i_2) && decide (i_2 < ((a_0.length : Nat) : Int))) <|
    V6 (a_0.getD (0 + i_2.toNat) (.dead ())) fun op_e85d do_3fec dst_ffe3 a_68fc b_0250 n_1558 =>
    C63 op_e85d do_3fec dst_ffe3 a_68fc b_0250 n_1558 fun op_7366 do_c946 dst_f97e a_c467 b_fba0 n_2029 =>
    .ck (decide ((0 : Int) ≤ i_2) && decide (i_2 < ((out_1.length : Nat) : Int))) <|
    B16_0 a_0 (out_1.set (0 + i_2.toNat) (.st [i64 op_7366, i64 do_c946, i64 dst_f97e, i64 a_c467, i64 b_fba0, i64 n_2029])) (w64 (i_2 + 1)))
  (.ret [sl false ⟨6, false⟩ out_1] [])
theorem eH16_0 {a_0 : List TV} {out_1 : List TV} {i_2 : Int} {r : Res} (h : S cx 16 (NH16_0 a_0 out_1 i_2) = some r) : S cx 16 (H16_0 a_0 out_1 i_2) = some r :=
  hw_of (fun call hd hb pt rg => by kernel_rfl) h
/-! laws.toIntS -/
noncomputable def EH17_0 (a_0 : List TV) (out_1 : List TV) (i_2 : Int) : Env := [.val [] (sl true ⟨1, false⟩ a_0), .un, .un, .val [] (sl false ⟨1, false⟩ out_1), .val [] (i64 i_2)] ++ uns 18
noncomputable abbrev H17_0 (a_0 : List TV) (out_1 : List TV) (i_2 : Int) : Nd := .head [1, 1, 0, 1, 2] (EH17_0 a_0 out_1 i_2)
noncomputable abbrev B17_0 (a_0 : List TV) (out_1 : List TV) (i_2 : Int) : Nd := .back [1, 1, 0, 1, 2] (EH17_0 a_0 out_1 i_2)
noncomputable def N17 (a_0 : List TV) : Nd :=
  .ck (decide ((0 : Int) ≤ ((a_0.length : Nat) : Int)) && decide (((a_0.length : Nat) : Int) ≤ ((a_0.length : Nat) : Int)) && decide (((a_0.length : Nat) : Int) * 8 < (lim : Int)) && decide (((a_0.length : Nat) : Int) < 9223372036854775807) && true && true) <|
  H17_0 a_0 (List.replicate (((a_0.length : Nat) : Int).toNat) (i64 0)) 0
theorem e17 {a_0 : List TV} {r : Res} (h : S cx 17 (N17 a_0) = some r) : tw cx 17 [sl true ⟨1, false⟩ a_0] = some r :=
  tw_of (fun call hd hb pt rg => by kernel_rfl) h
noncomputable def NH17_0 (a_0 : List TV) (out_1 : List TV) (i_2 : Int) : Nd :=
  .bif (decide (i_2 < ((a_0.length : Nat) : Int)))
  (.ck (decide ((0 : Int) ≤ i_2) && decide (i_2 < ((a_0.length : Nat) : Int))) <|
    .int .i64 (a_0.getD (0 + i_2.toNat) (.dead ())) fun x_3db5 =>
    .ck (decide ((0 : Int) ≤ i_2) && decide (i_2 < ((out_1.length : Nat) : Int))) <|
    B17_0 a_0 (out_1.set (0 + i_2.toNat) (i64 x_3db5)) (w64 (i_2 + 1)))
  (.ret [sl false ⟨1, false⟩ out_1] [])
theorem eH17_0 {a_0 : List TV} {out_1 : List TV} {i_2 : Int} {r : Res} (h : S cx 17 (NH17_0 a_0 out_1 i_2) = some r) : S cx 17 (H17_0 a_0 out_1 i_2) = some r :=
  hw_of (fun call hd hb pt rg => by kernel_rfl) h
/-! laws.eqFlatS -/
noncomputable def EH19_0 (a_0 : List TV) (b_1 : List TV) (i_2 : Int) : Env := [.val [] (sl true ⟨6, false⟩ a_0), .val [] (sl true ⟨6, false⟩ b_1), .un, .un, .un, .val [] (i64 i_2)] ++ uns 23
noncomputable abbrev H19_0 (a_0 : List TV) (b_1 : List TV) (i_2 : Int) : Nd := .head [1, 1, 0, 1, 2] (EH19_0 a_0 b_1 i_2)
noncomputable abbrev B19_0 (a_0 : List TV) (b_1 : List TV) (i_2 : Int) : Nd := .back [1, 1, 0, 1, 2] (EH19_0 a_0 b_1 i_2)
noncomputable def N19 (a_0 : List TV) (b_1 : List TV) : Nd :=
  .bif ((((a_0.length : Nat) : Int) != ((b_1.length : Nat) : Int)))
  (.ret [tb false] [])
  (H19_0 a_0 b_1 0)
theorem e19 {a_0 : List TV} {b_1 : List TV} {r : Res} (h : S cx 19 (N19 a_0 b_1) = some r) : tw cx 19 [sl true ⟨6, false⟩ a_0, sl true ⟨6, false⟩ b_1] = some r :=
  tw_of (fun call hd hb pt rg => by kernel_rfl) h
noncomputable def NH19_0 (a_0 : List TV) (b_1 : List TV) (i_2 : Int) : Nd :=
  .bif (decide (i_2 < ((a_0.length : Nat) : Int)))
  (.ck (decide ((0 : Int) ≤ i_2) && decide (i_2 < ((a_0.length : Nat) : Int))) <|
    V6 (a_0.getD (0 + i_2.toNat) (.dead ())) fun op_e85d do_3fec dst_ffe3 a_68fc b_0250 n_1558 =>
    .ck (decide ((0 : Int) ≤ i_2) && decide (i_2 < ((b_1.length : Nat) : Int))) <|
    V6 (b_1.getD (0 + i_2.toNat) (.dead ())) fun op_001b do_4771 dst_5278 a_3e66 b_9cad n_8b0d =>
    C68 op_e85d do_3fec dst_ffe3 a_68fc b_0250 n_1558 op_001b do_4771 dst_5278 a_3e66 b_9cad n_8b0d fun v_07c3 =>
    .bif ((!v_07c3))
    (.ret [tb false] [])
    (B19_0 a_0 b_1 (w64 (i_2 + 1))))
  (.ret [tb true] [])
theorem eH19_0 {a_0 : List TV} {b_1 : List TV} {i_2 : Int} {r : Res} (h : S cx 19 (NH19_0 a_0 b_1 i_2) = some r) : S cx 19 (H19_0 a_0 b_1 i_2) = some r :=
  hw_of (fun call hd hb pt rg => by kernel_rfl) h
/-! laws.eqIntS -/
noncomputable def EH20_0 (a_0 : List TV) (b_1 : List TV) (i_2 : Int) : Env := [.val [] (sl true ⟨1, false⟩ a_0), .val [] (sl true ⟨1, false⟩ b_1), .un, .un, .un, .val [] (i64 i_2)] ++ uns 22
noncomputable abbrev H20_0 (a_0 : List TV) (b_1 : List TV) (i_2 : Int) : Nd := .head [1, 1, 0, 1, 2] (EH20_0 a_0 b_1 i_2)
noncomputable abbrev B20_0 (a_0 : List TV) (b_1 : List TV) (i_2 : Int) : Nd := .back [1, 1, 0, 1, 2] (EH20_0 a_0 b_1 i_2)
noncomputable def N20 (a_0 : List TV) (b_1 : List TV) : Nd :=
  .bif ((((a_0.length : Nat) : Int) != ((b_1.length : Nat) : Int)))
  (.ret [tb false] [])
  (H20_0 a_0 b_1 0)
theorem e20 {a_0 : List TV} {b_1 : List TV} {r : Res} (h : S cx 20 (N20 a_0 b_1) = some r) : tw cx 20 [sl true ⟨1, false⟩ a_0, sl true ⟨1, false⟩ b_1] = some r :=
  tw_of (fun call hd hb pt rg => by kernel_rfl) h
noncomputable def NH20_0 (a_0 : List TV) (b_1 : List TV) (i_2 : Int) : Nd :=
  .bif (decide (i_2 < ((a_0.length : Nat) : Int)))
  (.ck (decide ((0 : Int) ≤ i_2) && decide (i_2 < ((a_0.length : Nat) : Int))) <|
    .int .i64 (a_0.getD (0 + i_2.toNat) (.dead ())) fun x_3db5 =>
    .ck (decide ((0 : Int) ≤ i_2) && decide (i_2 < ((b_1.length : Nat) : Int))) <|
    .int .i64 (b_1.getD (0 + i_2.toNat) (.dead ())) fun x_a7d6 =>
    .bif ((x_3db5 != x_a7d6))
    (.ret [tb false] [])
    (B20_0 a_0 b_1 (w64 (i_2 + 1))))
  (.ret [tb true] [])
theorem eH20_0 {a_0 : List TV} {b_1 : List TV} {i_2 : Int} {r : Res} (h : S cx 20 (NH20_0 a_0 b_1 i_2) = some r) : S cx 20 (H20_0 a_0 b_1 i_2) = some r :=
  hw_of (fun call hd hb pt rg => by kernel_rfl) h
/-! laws.markFlatS -/
noncomputable def EH23_0 (k_0 : Int) (i_2 : Int) (a_1 : List TV) : Env := [.ref 55 [] none 27 false, .val [] (i64 k_0), .un, .un, .un, .val [] (i64 i_2)] ++ uns 49 ++ [.val [] (sl false ⟨6, false⟩ a_1), .un]
noncomputable abbrev H23_0 (k_0 : Int) (i_2 : Int) (a_1 : List TV) : Nd := .head [1, 0, 1, 2] (EH23_0 k_0 i_2 a_1)
noncomputable abbrev B23_0 (k_0 : Int) (i_2 : Int) (a_1 : List TV) : Nd := .back [1, 0, 1, 2] (EH23_0 k_0 i_2 a_1)
noncomputable def N23 (a_0 : List TV) (k_1 : Int) : Nd :=
  H23_0 k_1 0 a_0
theorem e23 {a_0 : List TV} {k_1 : Int} {r : Res} (h : S cx 23 (N23 a_0 k_1) = some r) : tw cx 23 [sl false ⟨6, false⟩ a_0, i64 k_1] = some r :=
  tw_of (fun call hd hb pt rg => by kernel_rfl) h
noncomputable def NH23_0 (k_0 : Int) (i_2 : Int) (a_1 : List TV) : Nd :=
  .bif (decide (i_2 < ((a_1.length : Nat) : Int)))
  (.ck (decide ((0 : Int) ≤ i_2) && decide (i_2 < ((a_1.length : Nat) : Int))) <|
    V6 (a_1.getD (0 + i_2.toNat) (.dead ())) fun op_acc8 do_e983 dst_bd36 a_71bc b_ea8e n_ffdc =>
    .ck (decide ((0 : Int) ≤ i_2) && decide (i_2 < (((a_1.set (0 + i_2.toNat) (.st [i64 k_0, i64 do_e983, i64 dst_bd36, i64 a_71bc, i64 b_ea8e, i64 n_ffdc])).length : Nat) : Int))) <|
    V6 ((a_1.set (0 + i_2.toNat) (.st [i64 k_0, i64 do_e983, i64 dst_bd36, i64 a_71bc, i64 b_ea8e, i64 n_ffdc])).getD (0 + i_2.toNat) (.dead ())) fun op_522b do_24b7 dst_7ace a_35df b_10be n_13f8 =>
    .ck (decide ((0 : Int) ≤ i_2) && decide (i_2 < ((((a_1.set (0 + i_2.toNat) (.st [i64 k_0, i64 do_e983, i64 dst_bd36, i64 a_71bc, i64 b_ea8e, i64 n_ffdc])).set (0 + i_2.toNat) (.st [i64 op_522b, i64 (w64 (k_0 + 1)), i64 dst_7ace, i64 a_35df, i64 b_10be, i64 n_13f8])).length : Nat) : Int))) <|
    V6 (((a_1.set (0 + i_2.toNat) (.st [i64 k_0, i64 do_e983, i64 dst_bd36, i64 a_71bc, i64 b_ea8e, i64 n_ffdc])).set (0 + i_2.toNat) (.st [i64 op_522b, i64 (w64 (k_0 + 1)), i64 dst_7ace, i64 a_35df, i64 b_10be, i64 n_13f8])).getD (0 + i_2.toNat) (.dead ())) fun op_7fc6 do_5133 dst_fec7 a_81f0 b_7502 n_c02b =>
    .ck (decide ((0 : Int) ≤ i_2) && decide (i_2 < (((((a_1.set (0 + i_2.toNat) (.st [i64 k_0, i64 do_e983, i64 dst_bd36, i64 a_71bc, i64 b_ea8e, i64 n_ffdc])).set (0 + i_2.toNat) (.st [i64 op_522b, i64 (w64 (k_0 + 1)), i64 dst_7ace, i64 a_35df, i64 b_10be, i64 n_13f8])).set (0 + i_2.toNat) (.st [i64 op_7fc6, i64 do_5133, i64 (w64 ((w64 (k_0 + 1)) + 1)), i64 a_81f0, i64 b_7502, i64 n_c02b])).length : Nat) : Int))) <|
    V6 ((((a_1.set (0 + i_2.toNat) (.st [i64 k_0, i64 do_e983, i64 dst_bd36, i64 a_71bc, i64 b_ea8e, i64 n_ffdc])).set (0 + i_2.toNat) (.st [i64 op_522b, i64 (w64 (k_0 + 1)), i64 dst_7ace, i64 a_35df, i64 b_10be, i64 n_13f8])).set (0 + i_2.toNat) (.st [i64 op_7fc6, i64 do_5133, i64 (w64 ((w64 (k_0 + 1)) + 1)), i64 a_81f0, i64 b_7502, i64 n_c02b])).getD (0 + i_2.toNat) (.dead ())) fun op_393d do_cf0c dst_dd18 a_6de2 b_f96e n_a924 =>
    .ck (decide ((0 : Int) ≤ i_2) && decide (i_2 < ((((((a_1.set (0 + i_2.toNat) (.st [i64 k_0, i64 do_e983, i64 dst_bd36, i64 a_71bc, i64 b_ea8e, i64 n_ffdc])).set (0 + i_2.toNat) (.st [i64 op_522b, i64 (w64 (k_0 + 1)), i64 dst_7ace, i64 a_35df, i64 b_10be, i64 n_13f8])).set (0 + i_2.toNat) (.st [i64 op_7fc6, i64 do_5133, i64 (w64 ((w64 (k_0 + 1)) + 1)), i64 a_81f0, i64 b_7502, i64 n_c02b])).set (0 + i_2.toNat) (.st [i64 op_393d, i64 do_cf0c, i64 dst_dd18, i64 (w64 ((w64 ((w64 (k_0 + 1)) + 1)) + 1)), i64 b_f96e, i64 n_a924])).length : Nat) : Int))) <|
    V6 (((((a_1.set (0 + i_2.toNat) (.st [i64 k_0, i64 do_e983, i64 dst_bd36, i64 a_71bc, i64 b_ea8e, i64 n_ffdc])).set (0 + i_2.toNat) (.st [i64 op_522b, i64 (w64 (k_0 + 1)), i64 dst_7ace, i64 a_35df, i64 b_10be, i64 n_13f8])).set (0 + i_2.toNat) (.st [i64 op_7fc6, i64 do_5133, i64 (w64 ((w64 (k_0 + 1)) + 1)), i64 a_81f0, i64 b_7502, i64 n_c02b])).set (0 + i_2.toNat) (.st [i64 op_393d, i64 do_cf0c, i64 dst_dd18, i64 (w64 ((w64 ((w64 (k_0 + 1)) + 1)) + 1)), i64 b_f96e, i64 n_a924])).getD (0 + i_2.toNat) (.dead ())) fun op_7951 do_0d95 dst_4e8f a_4b62 b_539f n_c7b5 =>
    .ck (decide ((0 : Int) ≤ i_2) && decide (i_2 < (((((((a_1.set (0 + i_2.toNat) (.st [i64 k_0, i64 do_e983, i64 dst_bd36, i64 a_71bc, i64 b_ea8e, i64 n_ffdc])).set (0 + i_2.toNat) (.st [i64 op_522b, i64 (w64 (k_0 + 1)), i64 dst_7ace, i64 a_35df, i64 b_10be, i64 n_13f8])).set (0 + i_2.toNat) (.st [i64 op_7fc6, i64 do_5133, i64 (w64 ((w64 (k_0 + 1)) + 1)), i64 a_81f0, i64 b_7502, i64 n_c02b])).set (0 + i_2.toNat) (.st [i64 op_393d, i64 do_cf0c, i64 dst_dd18, i64 (w64 ((w64 ((w64 (k_0 + 1)) + 1)) + 1)), i64 b_f96e, i64 n_a924])).set (0 + i_2.toNat) (.st [i64 op_7951, i64 do_0d95, i64 dst_4e8f, i64 a_4b62, i64 (w64 ((w64 ((w64 ((w64 (k_0 + 1)) + 1)) + 1)) + 1)), i64 n_c7b5])).length : Nat) : Int))) <|
    V6 ((((((a_1.set (0 + i_2.toNat) (.st [i64 k_0, i64 do_e983, i64 dst_bd36, i64 a_71bc, i64 b_ea8e, i64 n_ffdc])).set (0 + i_2.toNat) (.st [i64 op_522b, i64 (w64 (k_0 + 1)), i64 dst_7ace, i64 a_35df, i64 b_10be, i64 n_13f8])).set (0 + i_2.toNat) (.st [i64 op_7fc6, i64 do_5133, i64 (w64 ((w64 (k_0 + 1)) + 1)), i64 a_81f0, i64 b_7502, i64 n_c02b])).set (0 + i_2.toNat) (.st [i64 op_393d, i64 do_cf0c, i64 dst_dd18, i64 (w64 ((w64 ((w64 (k_0 + 1)) + 1)) + 1)), i64 b_f96e, i64 n_a924])).set (0 + i_2.toNat) (.st [i64 op_7951, i64 do_0d95, i64 dst_4e8f, i64 a_4b62, i64 (w64 ((w64 ((w64 ((w64 (k_0 + 1)) + 1)) + 1)) + 1)), i64 n_c7b5])).getD (0 + i_2.toNat) (.dead ())) fun op_a302 do_fdb9 dst_f6e3 a_9723 b_6717 n_d42a =>
    B23_0 (w64 ((w64 ((w64 ((w64 ((w64 ((w64 (k_0 + 1)) + 1)) + 1)) + 1)) + 1)) + 1)) (w64 (i_2 + 1)) ((((((a_1.set (0 + i_2.toNat) (.st [i64 k_0, i64 do_e983, i64 dst_bd36, i64 a_71bc, i64 b_ea8e, i64 n_ffdc])).set (0 + i_2.toNat) (.st [i64 op_522b, i64 (w64 (k_0 + 1)), i64 dst_7ace, i64 a_35df, i64 b_10be, i64 n_13f8])).set (0 + i_2.toNat) (.st [i64 op_7fc6, i64 do_5133, i64 (w64 ((w64 (k_0 + 1)) + 1)), i64 a_81f0, i64 b_7502, i64 n_c02b])).set (0 + i_2.toNat) (.st [i64 op_393d, i64 do_cf0c, i64 dst_dd18, i64 (w64 ((w64 ((w64 (k_0 + 1)) + 1)) + 1)), i64 b_f96e, i64 n_a924])).set (0 + i_2.toNat) (.st [i64 op_7951, i64 do_0d95, i64 dst_4e8f, i64 a_4b62, i64 (w64 ((w64 ((w64 ((w64 (k_0 + 1)) + 1)) + 1)) + 1)), i64 n_c7b5])).set (0 + i_2.toNat) (.st [i64 op_a302, i64 do_fdb9, i64 dst_f6e3, i64 a_9723, i64 b_6717, i64 (w64 ((w64 ((w64 ((w64 ((w64 (k_0 + 1)) + 1)) + 1)) + 1)) + 1))])))
  (.ret [i64 k_0] [sl false ⟨6, false⟩ a_1])
theorem eH23_0 {k_0 : Int} {i_2 : Int} {a_1 : List TV} {r : Res} (h : S cx 23 (NH23_0 k_0 i_2 a_1) = some r) : S cx 23 (H23_0 k_0 i_2 a_1) = some r :=
  hw_of (fun call hd hb pt rg => by kernel_rfl) h
/-! laws.markIntS -/
noncomputable def EH24_0 (k_0 : Int) (i_2 : Int) (a_1 : List TV) : Env := [.ref 19 [] none 23 false, .val [] (i64 k_0), .un, .un, .un, .val [] (i64 i_2)] ++ uns 13 ++ [.val [] (sl false ⟨1, false⟩ a_1), .un]
noncomputable abbrev H24_0 (k_0 : Int) (i_2 : Int) (a_1 : List TV) : Nd := .head [1, 0, 1, 2] (EH24_0 k_0 i_2 a_1)
noncomputable abbrev B24_0 (k_0 : Int) (i_2 : Int) (a_1 : List TV) : Nd := .back [1, 0, 1, 2] (EH24_0 k_0 i_2 a_1)
noncomputable def N24 (a_0 : List TV) (k_1 : Int) : Nd :=
  H24_0 k_1 0 a_0
theorem e24 {a_0 : List TV} {k_1 : Int} {r : Res} (h : S cx 24 (N24 a_0 k_1) = some r) : tw cx 24 [sl false ⟨1, false⟩ a_0, i64 k_1] = some r :=
  tw_of (fun call hd hb pt rg => by kernel_rfl) h
noncomputable def NH24_0 (k_0 : Int) (i_2 : Int) (a_1 : List TV) : Nd :=
  .bif (decide (i_2 < ((a_1.length : Nat) : Int)))
  (.ck (decide ((0 : Int) ≤ i_2) && decide (i_2 < ((a_1.length : Nat) : Int))) <|
    B24_0 (w64 (k_0 + 1)) (w64 (i_2 + 1)) (a_1.set (0 + i_2.toNat) (i64 k_0)))
  (.ret [i64 k_0] [sl false ⟨1, false⟩ a_1])
theorem eH24_0 {k_0 : Int} {i_2 : Int} {a_1 : List TV} {r : Res} (h : S cx 24 (NH24_0 k_0 i_2 a_1) = some r) : S cx 24 (H24_0 k_0 i_2 a_1) = some r :=
  hw_of (fun call hd hb pt rg => by kernel_rfl) h
/-! laws.heldIntS -/
noncomputable def EH25_0 (a_0 : List TV) (k_1 : Int) (i_2 : Int) : Env := [.val [] (sl true ⟨1, false⟩ a_0), .val [] (i64 k_1), .un, .un, .un, .val [] (i64 i_2)] ++ uns 17
noncomputable abbrev H25_0 (a_0 : List TV) (k_1 : Int) (i_2 : Int) : Nd := .head [1, 0, 1, 2] (EH25_0 a_0 k_1 i_2)
noncomputable abbrev B25_0 (a_0 : List TV) (k_1 : Int) (i_2 : Int) : Nd := .back [1, 0, 1, 2] (EH25_0 a_0 k_1 i_2)
noncomputable def N25 (a_0 : List TV) (k_1 : Int) : Nd :=
  H25_0 a_0 k_1 0
theorem e25 {a_0 : List TV} {k_1 : Int} {r : Res} (h : S cx 25 (N25 a_0 k_1) = some r) : tw cx 25 [sl true ⟨1, false⟩ a_0, i64 k_1] = some r :=
  tw_of (fun call hd hb pt rg => by kernel_rfl) h
noncomputable def NH25_0 (a_0 : List TV) (k_1 : Int) (i_2 : Int) : Nd :=
  .bif (decide (i_2 < ((a_0.length : Nat) : Int)))
  (.ck (decide ((0 : Int) ≤ i_2) && decide (i_2 < ((a_0.length : Nat) : Int))) <|
    .int .i64 (a_0.getD (0 + i_2.toNat) (.dead ())) fun x_3db5 =>
    .bif ((x_3db5 != k_1))
    (.ret [i64 (-1)] [])
    (B25_0 a_0 (w64 (k_1 + 1)) (w64 (i_2 + 1))))
  (.ret [i64 k_1] [])
theorem eH25_0 {a_0 : List TV} {k_1 : Int} {i_2 : Int} {r : Res} (h : S cx 25 (NH25_0 a_0 k_1 i_2) = some r) : S cx 25 (H25_0 a_0 k_1 i_2) = some r :=
  hw_of (fun call hd hb pt rg => by kernel_rfl) h
/-! laws.szBlockS -/
noncomputable def EH34_0 (a_0 : List TV) (left_1 : Int) (i_2 : Int) : Env := [.val [] (sl true ⟨4, true⟩ a_0), .val [] (i64 left_1), .un, .un, .un, .val [] (i64 i_2)] ++ uns 23
noncomputable abbrev H34_0 (a_0 : List TV) (left_1 : Int) (i_2 : Int) : Nd := .head [1, 1, 1, 0, 1, 2] (EH34_0 a_0 left_1 i_2)
noncomputable abbrev B34_0 (a_0 : List TV) (left_1 : Int) (i_2 : Int) : Nd := .back [1, 1, 1, 0, 1, 2] (EH34_0 a_0 left_1 i_2)
noncomputable def N34 (a_0 : List TV) (left_1 : Int) : Nd :=
  .bif (decide (w64 (left_1 - ((a_0.length : Nat) : Int)) < 0))
  (.ret [i64 (-1)] [])
  (H34_0 a_0 (w64 (left_1 - ((a_0.length : Nat) : Int))) 0)
theorem e34 {a_0 : List TV} {left_1 : Int} {r : Res} (h : S cx 34 (N34 a_0 left_1) = some r) : tw cx 34 [sl true ⟨4, true⟩ a_0, i64 left_1] = some r :=
  tw_of (fun call hd hb pt rg => by kernel_rfl) h
noncomputable def NH34_0 (a_0 : List TV) (left_1 : Int) (i_2 : Int) : Nd :=
  .bif (decide (i_2 < ((a_0.length : Nat) : Int)))
  (.ck (decide ((0 : Int) ≤ i_2) && decide (i_2 < ((a_0.length : Nat) : Int))) <|
    V4 (a_0.getD (0 + i_2.toNat) (.dead ())) fun codes_64db go_fd89 test_a015 nexts_9545 =>
    C83 codes_64db go_fd89 test_a015 nexts_9545 left_1 fun v_924a =>
    .bif (decide (v_924a < 0))
    (.ret [i64 (-1)] [])
    (B34_0 a_0 v_924a (w64 (i_2 + 1))))
  (.ret [i64 left_1] [])
theorem eH34_0 {a_0 : List TV} {left_1 : Int} {i_2 : Int} {r : Res} (h : S cx 34 (NH34_0 a_0 left_1 i_2) = some r) : S cx 34 (H34_0 a_0 left_1 i_2) = some r :=
  hw_of (fun call hd hb pt rg => by kernel_rfl) h
/-! laws.szState -/
noncomputable def N35 (a_0 : List TV) (a_1 : List TV) (a_2 : List TV) (left_3 : Int) : Nd :=
  C84 a_0 left_3 fun v_aaae =>
  .bif (decide (v_aaae < 0))
  (.ret [i64 (-1)] [])
  (C84 a_1 v_aaae fun v_2c55 =>
    .bif (decide (v_2c55 < 0))
    (.ret [i64 (-1)] [])
    (C84 a_2 v_2c55 fun v_c16c =>
      .bif (decide (v_c16c < 0))
      (.ret [i64 (-1)] [])
      (.ret [i64 v_c16c] [])))
theorem e35 {a_0 : List TV} {a_1 : List TV} {a_2 : List TV} {left_3 : Int} {r : Res} (h : S cx 35 (N35 a_0 a_1 a_2 left_3) = some r) : tw cx 35 [.st [sl true ⟨1, false⟩ a_0, sl true ⟨1, false⟩ a_1, sl true ⟨1, false⟩ a_2], i64 left_3] = some r :=
  tw_of (fun call hd hb pt rg => by kernel_rfl) h
/-! spec.RunFlow -/
noncomputable def N36 (f_0 : List TV) (s_1 : List TV) (s_2 : List TV) (s_3 : List TV) (fuel_4 : Int) : Nd :=
  C85 f_0 fun v_f56c =>
  .bif ((!v_f56c))
  (.ret [.st [sl false ⟨1, false⟩ ([]), sl false ⟨1, false⟩ ([]), sl false ⟨1, false⟩ ([])], i64 0, i64 0, tb false] [])
  (C86 s_1 s_2 s_3 fun v_80b5 =>
    .bif ((!v_80b5))
    (.ret [.st [sl false ⟨1, false⟩ ([]), sl false ⟨1, false⟩ ([]), sl false ⟨1, false⟩ ([])], i64 0, i64 0, tb false] [])
    (C87 fuel_4 fun v_ea29 =>
      .bif ((!v_ea29))
      (.ret [.st [sl false ⟨1, false⟩ ([]), sl false ⟨1, false⟩ ([]), sl false ⟨1, false⟩ ([])], i64 0, i64 0, tb false] [])
      (C88 f_0 s_1 s_2 s_3 fuel_4 fun localss_ae04 mems_4015 tolds_9e04 v_938e v_fb86 =>
        C89 localss_ae04 mems_4015 tolds_9e04 fun localss_e977 mems_75da tolds_040d =>
        .ret [.st [sl false ⟨1, false⟩ localss_e977, sl false ⟨1, false⟩ mems_75da, sl false ⟨1, false⟩ tolds_040d], i64 v_938e, i64 v_fb86, tb true] [])))
theorem e36 {f_0 : List TV} {s_1 : List TV} {s_2 : List TV} {s_3 : List TV} {fuel_4 : Int} {r : Res} (h : S cx 36 (N36 f_0 s_1 s_2 s_3 fuel_4) = some r) : tw cx 36 [sl true ⟨4, true⟩ f_0, .st [sl true ⟨1, false⟩ s_1, sl true ⟨1, false⟩ s_2, sl true ⟨1, false⟩ s_3], i64 fuel_4] = some r :=
  tw_of (fun call hd hb pt rg => by kernel_rfl) h
/-! laws.toBlockS -/
noncomputable def EH37_0 (a_0 : List TV) (out_1 : List TV) (i_2 : Int) : Env := [.val [] (sl true ⟨4, true⟩ a_0), .un, .un, .val [] (sl false ⟨4, true⟩ out_1), .val [] (i64 i_2)] ++ uns 19
noncomputable abbrev H37_0 (a_0 : List TV) (out_1 : List TV) (i_2 : Int) : Nd := .head [1, 1, 0, 1, 2] (EH37_0 a_0 out_1 i_2)
noncomputable abbrev B37_0 (a_0 : List TV) (out_1 : List TV) (i_2 : Int) : Nd := .back [1, 1, 0, 1, 2] (EH37_0 a_0 out_1 i_2)
noncomputable def N37 (a_0 : List TV) : Nd :=
  .ck (decide ((0 : Int) ≤ ((a_0.length : Nat) : Int)) && decide (((a_0.length : Nat) : Int) ≤ ((a_0.length : Nat) : Int)) && decide (((a_0.length : Nat) : Int) * 64 < (lim : Int)) && decide (((a_0.length : Nat) : Int) < 9223372036854775807) && true && true) <|
  H37_0 a_0 (List.replicate (((a_0.length : Nat) : Int).toNat) (.st [sl false ⟨6, false⟩ ([]), i64 0, i64 0, sl false ⟨1, false⟩ ([])])) 0
theorem e37 {a_0 : List TV} {r : Res} (h : S cx 37 (N37 a_0) = some r) : tw cx 37 [sl true ⟨4, true⟩ a_0] = some r :=
  tw_of (fun call hd hb pt rg => by kernel_rfl) h
noncomputable def NH37_0 (a_0 : List TV) (out_1 : List TV) (i_2 : Int) : Nd :=
  .bif (decide (i_2 < ((a_0.length : Nat) : Int)))
  (.ck (decide ((0 : Int) ≤ i_2) && decide (i_2 < ((a_0.length : Nat) : Int))) <|
    V4 (a_0.getD (0 + i_2.toNat) (.dead ())) fun codes_64db go_fd89 test_a015 nexts_9545 =>
    C90 codes_64db go_fd89 test_a015 nexts_9545 fun codes_67a4 go_51b4 test_09b2 nexts_15c1 =>
    .ck (decide ((0 : Int) ≤ i_2) && decide (i_2 < ((out_1.length : Nat) : Int))) <|
    B37_0 a_0 (out_1.set (0 + i_2.toNat) (.st [sl false ⟨6, false⟩ codes_67a4, i64 go_51b4, i64 test_09b2, sl false ⟨1, false⟩ nexts_15c1])) (w64 (i_2 + 1)))
  (.ret [sl false ⟨4, true⟩ out_1] [])
theorem eH37_0 {a_0 : List TV} {out_1 : List TV} {i_2 : Int} {r : Res} (h : S cx 37 (NH37_0 a_0 out_1 i_2) = some r) : S cx 37 (H37_0 a_0 out_1 i_2) = some r :=
  hw_of (fun call hd hb pt rg => by kernel_rfl) h
/-! laws.toState -/
noncomputable def N38 (a_0 : List TV) (a_1 : List TV) (a_2 : List TV) : Nd :=
  C17 a_0 fun vs_a307 =>
  C17 a_1 fun vs_a312 =>
  C17 a_2 fun vs_36ab =>
  .ret [.st [sl false ⟨1, false⟩ vs_a307, sl false ⟨1, false⟩ vs_a312, sl false ⟨1, false⟩ vs_36ab]] []
theorem e38 {a_0 : List TV} {a_1 : List TV} {a_2 : List TV} {r : Res} (h : S cx 38 (N38 a_0 a_1 a_2) = some r) : tw cx 38 [.st [sl true ⟨1, false⟩ a_0, sl true ⟨1, false⟩ a_1, sl true ⟨1, false⟩ a_2]] = some r :=
  tw_of (fun call hd hb pt rg => by kernel_rfl) h
end Go.Tree.Q

/- Trees of values: program points of functions. -/
namespace Go.Tree.Q
open Go.Proofs
set_option linter.unusedVariables false
set_option maxRecDepth 20000
/-! impl.RunFlow -/
noncomputable def EG39_0 (f_0 : List TV) (fuel_1 : Int) (s_2 : List TV) (s_3 : List TV) (s_4 : List TV) (out_5 : List TV) (out_6 : List TV) (out_7 : List TV) : Env := [.val [] (sl true ⟨4, true⟩ f_0), .un, .val [] (i64 fuel_1), .un, .val [] (.pt false () (.st [sl true ⟨1, false⟩ s_2, sl true ⟨1, false⟩ s_3, sl true ⟨1, false⟩ s_4])), .un, .val [] (.pt false () (.st [sl false ⟨1, false⟩ ([]), sl false ⟨1, false⟩ ([]), sl false ⟨1, false⟩ ([])])), .un, .un, .un, .val [] (.pt false () (.st [sl false ⟨1, false⟩ out_5, sl false ⟨1, false⟩ out_6, sl false ⟨1, false⟩ out_7])), .val [] (sl false ⟨1, false⟩ (List.replicate 12 (i64 0)))] ++ uns 89
noncomputable abbrev G39_0 (f_0 : List TV) (fuel_1 : Int) (s_2 : List TV) (s_3 : List TV) (s_4 : List TV) (out_5 : List TV) (out_6 : List TV) (out_7 : List TV) : Nd := .go [1, 1, 1] (EG39_0 f_0 fuel_1 s_2 s_3 s_4 out_5 out_6 out_7)
noncomputable def EH39_1 (f_0 : List TV) (fuel_1 : Int) (out_2 : List TV) (out_3 : List TV) (out_4 : List TV) (names_5 : List TV) (end_6 : Int) (done_7 : Int) (at_8 : Int) : Env := [.val [] (sl true ⟨4, true⟩ f_0), .un, .val [] (i64 fuel_1), .un, .un, .un, .val [] (.pt false () (.st [sl false ⟨1, false⟩ ([]), sl false ⟨1, false⟩ ([]), sl false ⟨1, false⟩ ([])])), .un, .un, .un, .val [] (.pt false () (.st [sl false ⟨1, false⟩ out_2, sl false ⟨1, false⟩ out_3, sl false ⟨1, false⟩ out_4])), .val [] (sl false ⟨1, false⟩ names_5), .val [] (i64 end_6), .val [] (i64 done_7), .val [] (i64 at_8)] ++ uns 86
noncomputable abbrev H39_1 (f_0 : List TV) (fuel_1 : Int) (out_2 : List TV) (out_3 : List TV) (out_4 : List TV) (names_5 : List TV) (end_6 : Int) (done_7 : Int) (at_8 : Int) : Nd := .head [1, 1, 1, 1, 1, 0, 1, 2] (EH39_1 f_0 fuel_1 out_2 out_3 out_4 names_5 end_6 done_7 at_8)
noncomputable abbrev B39_1 (f_0 : List TV) (fuel_1 : Int) (out_2 : List TV) (out_3 : List TV) (out_4 : List TV) (names_5 : List TV) (end_6 : Int) (done_7 : Int) (at_8 : Int) : Nd := .back [1, 1, 1, 1, 1, 0, 1, 2] (EH39_1 f_0 fuel_1 out_2 out_3 out_4 names_5 end_6 done_7 at_8)
noncomputable def EH39_2 (f_0 : List TV) (fuel_1 : Int) (out_2 : List TV) (out_3 : List TV) (out_4 : List TV) (names_5 : List TV) (end_11 : Int) (done_12 : Int) (at_13 : Int) (b_6 : List TV) (b_7 : Int) (b_8 : Int) (b_9 : List TV) (v_10 : Int) : Env := [.val [] (sl true ⟨4, true⟩ f_0), .un, .val [] (i64 fuel_1), .un, .un, .un, .val [] (.pt false () (.st [sl false ⟨1, false⟩ ([]), sl false ⟨1, false⟩ ([]), sl false ⟨1, false⟩ ([])])), .un, .un, .un, .val [] (.pt false () (.st [sl false ⟨1, false⟩ out_2, sl false ⟨1, false⟩ out_3, sl false ⟨1, false⟩ out_4])), .val [] (sl false ⟨1, false⟩ names_5), .val [] (i64 end_11), .val [] (i64 done_12), .val [] (i64 at_13), .val [] (.pt false () (.st [sl true ⟨6, false⟩ b_6, i64 b_7, i64 b_8, sl true ⟨1, false⟩ b_9]))] ++ uns 37 ++ [.val [] (sl true ⟨6, false⟩ b_6), .val [] (i64 ((b_6.length : Nat) : Int)), .val [] (i64 v_10)] ++ uns 45
noncomputable abbrev H39_2 (f_0 : List TV) (fuel_1 : Int) (out_2 : List TV) (out_3 : List TV) (out_4 : List TV) (names_5 : List TV) (end_11 : Int) (done_12 : Int) (at_13 : Int) (b_6 : List TV) (b_7 : Int) (b_8 : Int) (b_9 : List TV) (v_10 : Int) : Nd := .head [1, 1, 1, 1, 1, 0, 1, 2, 5, 1, 0, 2, 1, 0, 1, 2] (EH39_2 f_0 fuel_1 out_2 out_3 out_4 names_5 end_11 done_12 at_13 b_6 b_7 b_8 b_9 v_10)
noncomputable abbrev B39_2 (f_0 : List TV) (fuel_1 : Int) (out_2 : List TV) (out_3 : List TV) (out_4 : List TV) (names_5 : List TV) (end_11 : Int) (done_12 : Int) (at_13 : Int) (b_6 : List TV) (b_7 : Int) (b_8 : Int) (b_9 : List TV) (v_10 : Int) : Nd := .back [1, 1, 1, 1, 1, 0, 1, 2, 5, 1, 0, 2, 1, 0, 1, 2] (EH39_2 f_0 fuel_1 out_2 out_3 out_4 names_5 end_11 done_12 at_13 b_6 b_7 b_8 b_9 v_10)
noncomputable def EG39_3 (f_0 : List TV) (fuel_1 : Int) (out_2 : List TV) (out_3 : List TV) (out_4 : List TV) (names_5 : List TV) (end_10 : Int) (done_11 : Int) (at_12 : Int) (b_6 : List TV) (b_7 : Int) (b_8 : Int) (b_9 : List TV) : Env := [.val [] (sl true ⟨4, true⟩ f_0), .un, .val [] (i64 fuel_1), .un, .un, .un, .val [] (.pt false () (.st [sl false ⟨1, false⟩ ([]), sl false ⟨1, false⟩ ([]), sl false ⟨1, false⟩ ([])])), .un, .un, .un, .val [] (.pt false () (.st [sl false ⟨1, false⟩ out_2, sl false ⟨1, false⟩ out_3, sl false ⟨1, false⟩ out_4])), .val [] (sl false ⟨1, false⟩ names_5), .val [] (i64 end_10), .val [] (i64 done_11), .val [] (i64 at_12), .val [] (.pt false () (.st [sl true ⟨6, false⟩ b_6, i64 b_7, i64 b_8, sl true ⟨1, false⟩ b_9]))] ++ uns 85
noncomputable abbrev G39_3 (f_0 : List TV) (fuel_1 : Int) (out_2 : List TV) (out_3 : List TV) (out_4 : List TV) (names_5 : List TV) (end_10 : Int) (done_11 : Int) (at_12 : Int) (b_6 : List TV) (b_7 : Int) (b_8 : Int) (b_9 : List TV) : Nd := .go [1, 1, 1, 1, 1, 0, 1, 2, 5, 1, 0, 2, 1, 1] (EG39_3 f_0 fuel_1 out_2 out_3 out_4 names_5 end_10 done_11 at_12 b_6 b_7 b_8 b_9)
noncomputable def N39_s0 (f_0 : List TV) (s_1 : List TV) (s_2 : List TV) (s_3 : List TV) (fuel_4 : Int) : Nd :=
  C93 s_1 s_2 s_3 fun localss_908c mems_14e5 tolds_40d2 =>
  G39_0 f_0 fuel_4 s_1 s_2 s_3 localss_908c mems_14e5 tolds_40d2
noncomputable def N39_s1 (f_0 : List TV) (s_1 : List TV) (s_2 : List TV) (s_3 : List TV) (fuel_4 : Int) : Nd :=
  .amb2 
  (N39_s0 f_0 s_1 s_2 s_3 fuel_4) 
  (N39_s0 f_0 s_1 s_2 s_3 fuel_4)
noncomputable def N39_s2 (f_0 : List TV) (s_1 : List TV) (s_2 : List TV) (s_3 : List TV) (fuel_4 : Int) : Nd :=
  .amb2 
  (C93 s_1 s_2 s_3 fun localss_908c mems_14e5 tolds_40d2 =>
    .amb2 
    (G39_0 f_0 fuel_4 s_1 s_2 s_3 localss_908c mems_14e5 tolds_40d2) 
    (G39_0 f_0 fuel_4 s_1 s_2 s_3 localss_908c mems_14e5 tolds_40d2)) 
  (N39_s0 f_0 s_1 s_2 s_3 fuel_4)
noncomputable def N39 (f_0 : List TV) (s_1 : List TV) (s_2 : List TV) (s_3 : List TV) (fuel_4 : Int) : Nd :=
  C91 f_0 fun v_b6c0 =>
  .bif ((!v_b6c0))
  (.ret [.st [sl false ⟨1, false⟩ ([]), sl false ⟨1, false⟩ ([]), sl false ⟨1, false⟩ ([])], i64 0, i64 0, tb false] [])
  (C92 s_1 s_2 s_3 fun v_cdd3 =>
    .bif ((!v_cdd3))
    (.ret [.st [sl false ⟨1, false⟩ ([]), sl false ⟨1, false⟩ ([]), sl false ⟨1, false⟩ ([])], i64 0, i64 0, tb false] [])
    (C65 fuel_4 0 2000 fun v_6836 =>
      .bif ((!v_6836))
      (.ret [.st [sl false ⟨1, false⟩ ([]), sl false ⟨1, false⟩ ([]), sl false ⟨1, false⟩ ([])], i64 0, i64 0, tb false] [])
      (.amb3 
        (.amb3 
          (C93 s_1 s_2 s_3 fun localss_908c mems_14e5 tolds_40d2 =>
            .amb2 
            (G39_0 f_0 fuel_4 s_1 s_2 s_3 localss_908c mems_14e5 tolds_40d2) 
            (.amb2 
              (G39_0 f_0 fuel_4 s_1 s_2 s_3 localss_908c mems_14e5 tolds_40d2) 
              (G39_0 f_0 fuel_4 s_1 s_2 s_3 localss_908c mems_14e5 tolds_40d2))) 
          (N39_s1 f_0 s_1 s_2 s_3 fuel_4) 
          (N39_s2 f_0 s_1 s_2 s_3 fuel_4)) 
        (N39_s1 f_0 s_1 s_2 s_3 fuel_4) 
        (.amb2 
          (N39_s2 f_0 s_1 s_2 s_3 fuel_4) 
          (N39_s0 f_0 s_1 s_2 s_3 fuel_4)))))
theorem e39 {f_0 : List TV} {s_1 : List TV} {s_2 : List TV} {s_3 : List TV} {fuel_4 : Int} {r : Res} (h : S cx 39 (N39 f_0 s_1 s_2 s_3 fuel_4) = some r) : tw cx 39 [sl true ⟨4, true⟩ f_0, .st [sl true ⟨1, false⟩ s_1, sl true ⟨1, false⟩ s_2, sl true ⟨1, false⟩ s_3], i64 fuel_4] = some r :=
  tw_of (fun call hd hb pt rg => by kernel_rfl) h
noncomputable def NG39_0 (f_0 : List TV) (fuel_1 : Int) (s_2 : List TV) (s_3 : List TV) (s_4 : List TV) (out_5 : List TV) (out_6 : List TV) (out_7 : List TV) : Nd :=
  H39_1 f_0 fuel_1 out_5 out_6 out_7 (cpyT (List.replicate 12 (i64 0)) s_2) 3 0 0
theorem eG39_0 {f_0 : List TV} {fuel_1 : Int} {s_2 : List TV} {s_3 : List TV} {s_4 : List TV} {out_5 : List TV} {out_6 : List TV} {out_7 : List TV} {r : Res} (h : S cx 39 (NG39_0 f_0 fuel_1 s_2 s_3 s_4 out_5 out_6 out_7) = some r) : S cx 39 (G39_0 f_0 fuel_1 s_2 s_3 s_4 out_5 out_6 out_7) = some r :=
  pw_of (fun call hd hb pt rg => by kernel_rfl) h
noncomputable def NH39_1 (f_0 : List TV) (fuel_1 : Int) (out_2 : List TV) (out_3 : List TV) (out_4 : List TV) (names_5 : List TV) (end_6 : Int) (done_7 : Int) (at_8 : Int) : Nd :=
  .bif ((end_6 == 3))
  (.bif (decide (done_7 < fuel_1))
    (.ck (decide ((0 : Int) ≤ at_8) && decide (at_8 < ((f_0.length : Nat) : Int))) <|
      V4 (f_0.getD (0 + at_8.toNat) (.dead ())) fun codes_bf9a go_094e test_8b5b nexts_5c41 =>
      H39_2 f_0 fuel_1 out_2 out_3 out_4 names_5 end_6 done_7 at_8 codes_bf9a go_094e test_8b5b nexts_5c41 0)
    (.ck (decide ((8 : Int) ≤ ((names_5.length : Nat) : Int))) <|
      .ret [.st [sl false ⟨1, false⟩ (cpyT out_2 ((names_5.drop 0).take 8)), sl false ⟨1, false⟩ out_3, sl false ⟨1, false⟩ out_4], i64 end_6, i64 done_7, tb true] []))
  (.ck (decide ((8 : Int) ≤ ((names_5.length : Nat) : Int))) <|
    .ret [.st [sl false ⟨1, false⟩ (cpyT out_2 ((names_5.drop 0).take 8)), sl false ⟨1, false⟩ out_3, sl false ⟨1, false⟩ out_4], i64 end_6, i64 done_7, tb true] [])
theorem eH39_1 {f_0 : List TV} {fuel_1 : Int} {out_2 : List TV} {out_3 : List TV} {out_4 : List TV} {names_5 : List TV} {end_6 : Int} {done_7 : Int} {at_8 : Int} {r : Res} (h : S cx 39 (NH39_1 f_0 fuel_1 out_2 out_3 out_4 names_5 end_6 done_7 at_8) = some r) : S cx 39 (H39_1 f_0 fuel_1 out_2 out_3 out_4 names_5 end_6 done_7 at_8) = some r :=
  hw_of (fun call hd hb pt rg => by kernel_rfl) h
noncomputable def NH39_2 (f_0 : List TV) (fuel_1 : Int) (out_2 : List TV) (out_3 : List TV) (out_4 : List TV) (names_5 : List TV) (end_11 : Int) (done_12 : Int) (at_13 : Int) (b_6 : List TV) (b_7 : Int) (b_8 : Int) (b_9 : List TV) (v_10 : Int) : Nd :=
  .bif (decide (v_10 < ((b_6.length : Nat) : Int)))
  (.ck (decide ((0 : Int) ≤ v_10) && decide (v_10 < ((b_6.length : Nat) : Int))) <|
    V6 (b_6.getD (0 + v_10.toNat) (.dead ())) fun op_7edf do_19ee dst_e937 a_8df2 b_a94a n_384c =>
    C94 out_2 out_3 out_4 op_7edf do_19ee dst_e937 a_8df2 b_a94a n_384c names_5 fun v_aa0d localss_a061 mems_7d00 tolds_efcb vs_f119 =>
    .bif ((!v_aa0d))
    (G39_3 f_0 fuel_1 localss_a061 mems_7d00 tolds_efcb vs_f119 2 done_12 at_13 b_6 b_7 b_8 b_9)
    (B39_2 f_0 fuel_1 localss_a061 mems_7d00 tolds_efcb vs_f119 end_11 done_12 at_13 b_6 b_7 b_8 b_9 (w64 (v_10 + 1))))
  (G39_3 f_0 fuel_1 out_2 out_3 out_4 names_5 end_11 done_12 at_13 b_6 b_7 b_8 b_9)
theorem eH39_2 {f_0 : List TV} {fuel_1 : Int} {out_2 : List TV} {out_3 : List TV} {out_4 : List TV} {names_5 : List TV} {end_11 : Int} {done_12 : Int} {at_13 : Int} {b_6 : List TV} {b_7 : Int} {b_8 : Int} {b_9 : List TV} {v_10 : Int} {r : Res} (h : S cx 39 (NH39_2 f_0 fuel_1 out_2 out_3 out_4 names_5 end_11 done_12 at_13 b_6 b_7 b_8 b_9 v_10) = some r) : S cx 39 (H39_2 f_0 fuel_1 out_2 out_3 out_4 names_5 end_11 done_12 at_13 b_6 b_7 b_8 b_9 v_10) = some r :=
  hw_of (fun call hd hb pt rg => by kernel_rfl) h
noncomputable def NG39_3_s0 (f_0 : List TV) (fuel_1 : Int) (out_2 : List TV) (out_3 : List TV) (out_4 : List TV) (names_5 : List TV) (end_10 : Int) (done_11 : Int) (b_7 : Int) (b_9 : List TV) (x_6acc : Int) : Nd :=
  C95 b_7 x_6acc ((b_9.length : Nat) : Int) fun v_0a81 =>
  .ck (decide ((0 : Int) ≤ v_0a81) && decide (v_0a81 < ((b_9.length : Nat) : Int))) <|
  .int .i64 (b_9.getD (0 + v_0a81.toNat) (.dead ())) fun x_5647 =>
  B39_1 f_0 fuel_1 out_2 out_3 out_4 names_5 end_10 (w64 (done_11 + 1)) x_5647
noncomputable def NG39_3 (f_0 : List TV) (fuel_1 : Int) (out_2 : List TV) (out_3 : List TV) (out_4 : List TV) (names_5 : List TV) (end_10 : Int) (done_11 : Int) (at_12 : Int) (b_6 : List TV) (b_7 : Int) (b_8 : Int) (b_9 : List TV) : Nd :=
  .bif ((end_10 == 2))
  (B39_1 f_0 fuel_1 out_2 out_3 out_4 names_5 end_10 (w64 (done_11 + 1)) at_12)
  (.bif ((b_7 == 3))
    (B39_1 f_0 fuel_1 out_2 out_3 out_4 names_5 1 (w64 (done_11 + 1)) at_12)
    (.bif ((b_7 == 4))
      (B39_1 f_0 fuel_1 out_2 out_3 out_4 names_5 2 (w64 (done_11 + 1)) at_12)
      (.ck (decide ((0 : Int) ≤ b_8) && decide (b_8 < ((names_5.length : Nat) : Int))) <|
        .int .i64 (names_5.getD (0 + b_8.toNat) (.dead ())) fun x_6acc =>
        .amb2 
        (NG39_3_s0 f_0 fuel_1 out_2 out_3 out_4 names_5 end_10 done_11 b_7 b_9 x_6acc) 
        (NG39_3_s0 f_0 fuel_1 out_2 out_3 out_4 names_5 end_10 done_11 b_7 b_9 x_6acc))))
theorem eG39_3 {f_0 : List TV} {fuel_1 : Int} {out_2 : List TV} {out_3 : List TV} {out_4 : List TV} {names_5 : List TV} {end_10 : Int} {done_11 : Int} {at_12 : Int} {b_6 : List TV} {b_7 : Int} {b_8 : Int} {b_9 : List TV} {r : Res} (h : S cx 39 (NG39_3 f_0 fuel_1 out_2 out_3 out_4 names_5 end_10 done_11 at_12 b_6 b_7 b_8 b_9) = some r) : S cx 39 (G39_3 f_0 fuel_1 out_2 out_3 out_4 names_5 end_10 done_11 at_12 b_6 b_7 b_8 b_9) = some r :=
  pw_of (fun call hd hb pt rg => by kernel_rfl) h
/-! laws.eqState -/
noncomputable def N40 (a_0 : List TV) (a_1 : List TV) (a_2 : List TV) (b_3 : List TV) (b_4 : List TV) (b_5 : List TV) : Nd :=
  C20 a_0 b_3 fun v_ff12 =>
  .bif ((!v_ff12))
  (.ret [tb false] [])
  (C20 a_1 b_4 fun v_f54c =>
    .bif ((!v_f54c))
    (.ret [tb false] [])
    (C20 a_2 b_5 fun v_3619 =>
      .bif ((!v_3619))
      (.ret [tb false] [])
      (.ret [tb true] [])))
theorem e40 {a_0 : List TV} {a_1 : List TV} {a_2 : List TV} {b_3 : List TV} {b_4 : List TV} {b_5 : List TV} {r : Res} (h : S cx 40 (N40 a_0 a_1 a_2 b_3 b_4 b_5) = some r) : tw cx 40 [.st [sl true ⟨1, false⟩ a_0, sl true ⟨1, false⟩ a_1, sl true ⟨1, false⟩ a_2], .st [sl true ⟨1, false⟩ b_3, sl true ⟨1, false⟩ b_4, sl true ⟨1, false⟩ b_5]] = some r :=
  tw_of (fun call hd hb pt rg => by kernel_rfl) h
/-! laws.eqBlockS -/
noncomputable def EH41_0 (a_0 : List TV) (b_1 : List TV) (i_2 : Int) : Env := [.val [] (sl true ⟨4, true⟩ a_0), .val [] (sl true ⟨4, true⟩ b_1), .un, .un, .un, .val [] (i64 i_2)] ++ uns 23
noncomputable abbrev H41_0 (a_0 : List TV) (b_1 : List TV) (i_2 : Int) : Nd := .head [1, 1, 0, 1, 2] (EH41_0 a_0 b_1 i_2)
noncomputable abbrev B41_0 (a_0 : List TV) (b_1 : List TV) (i_2 : Int) : Nd := .back [1, 1, 0, 1, 2] (EH41_0 a_0 b_1 i_2)
noncomputable def N41 (a_0 : List TV) (b_1 : List TV) : Nd :=
  .bif ((((a_0.length : Nat) : Int) != ((b_1.length : Nat) : Int)))
  (.ret [tb false] [])
  (H41_0 a_0 b_1 0)
theorem e41 {a_0 : List TV} {b_1 : List TV} {r : Res} (h : S cx 41 (N41 a_0 b_1) = some r) : tw cx 41 [sl true ⟨4, true⟩ a_0, sl true ⟨4, true⟩ b_1] = some r :=
  tw_of (fun call hd hb pt rg => by kernel_rfl) h
noncomputable def NH41_0 (a_0 : List TV) (b_1 : List TV) (i_2 : Int) : Nd :=
  .bif (decide (i_2 < ((a_0.length : Nat) : Int)))
  (.ck (decide ((0 : Int) ≤ i_2) && decide (i_2 < ((a_0.length : Nat) : Int))) <|
    V4 (a_0.getD (0 + i_2.toNat) (.dead ())) fun codes_64db go_fd89 test_a015 nexts_9545 =>
    .ck (decide ((0 : Int) ≤ i_2) && decide (i_2 < ((b_1.length : Nat) : Int))) <|
    V4 (b_1.getD (0 + i_2.toNat) (.dead ())) fun codes_ed26 go_85a0 test_4ba2 nexts_322c =>
    C96 codes_64db go_fd89 test_a015 nexts_9545 codes_ed26 go_85a0 test_4ba2 nexts_322c fun v_a0df =>
    .bif ((!v_a0df))
    (.ret [tb false] [])
    (B41_0 a_0 b_1 (w64 (i_2 + 1))))
  (.ret [tb true] [])
theorem eH41_0 {a_0 : List TV} {b_1 : List TV} {i_2 : Int} {r : Res} (h : S cx 41 (NH41_0 a_0 b_1 i_2) = some r) : S cx 41 (H41_0 a_0 b_1 i_2) = some r :=
  hw_of (fun call hd hb pt rg => by kernel_rfl) h
/-! laws.markBlockS -/
noncomputable def EH42_0 (k_0 : Int) (i_2 : Int) (a_1 : List TV) : Env := [.ref 41 [] none 54 false, .val [] (i64 k_0), .un, .un, .un, .val [] (i64 i_2)] ++ uns 35 ++ [.val [] (sl false ⟨4, true⟩ a_1), .un]
noncomputable abbrev H42_0 (k_0 : Int) (i_2 : Int) (a_1 : List TV) : Nd := .head [1, 0, 1, 2] (EH42_0 k_0 i_2 a_1)
noncomputable abbrev B42_0 (k_0 : Int) (i_2 : Int) (a_1 : List TV) : Nd := .back [1, 0, 1, 2] (EH42_0 k_0 i_2 a_1)
noncomputable def N42 (a_0 : List TV) (k_1 : Int) : Nd :=
  H42_0 k_1 0 a_0
theorem e42 {a_0 : List TV} {k_1 : Int} {r : Res} (h : S cx 42 (N42 a_0 k_1) = some r) : tw cx 42 [sl false ⟨4, true⟩ a_0, i64 k_1] = some r :=
  tw_of (fun call hd hb pt rg => by kernel_rfl) h
noncomputable def NH42_0 (k_0 : Int) (i_2 : Int) (a_1 : List TV) : Nd :=
  .bif (decide (i_2 < ((a_1.length : Nat) : Int)))
  (.ck (decide ((0 : Int) ≤ i_2) && decide (i_2 < ((a_1.length : Nat) : Int))) <|
    V4_1 (a_1.getD (0 + i_2.toNat) (.dead ())) fun codes_40a7 go_be79 test_3c7b nexts_3c51 =>
    V4_1 (a_1.getD (0 + i_2.toNat) (.dead ())) fun codes_7a9a go_5ebb test_91f6 nexts_5691 =>
    V4_1 (a_1.getD (0 + i_2.toNat) (.dead ())) fun codes_07fe go_be53 test_b41e nexts_e167 =>
    .call 23 [sl false ⟨6, false⟩ codes_7a9a, i64 k_0] fun r_6f8b =>
    .cons r_6f8b.1 fun t_a220 ts_90cd =>
    .int .i64 t_a220 fun v_034a =>
    .nil ts_90cd <|
    .cons r_6f8b.2 fun u_1a66 us_7145 =>
    .slO ⟨6, false⟩ u_1a66 fun vs_49be =>
    .st ((a_1.set (0 + i_2.toNat) (.st [.dead (), i64 go_be53, i64 test_b41e, sl false ⟨1, false⟩ nexts_e167])).getD (0 + i_2.toNat) (.dead ())) fun fs_ba4c =>
    .ck (fieldOk cx.P 110 0 fs_ba4c) <|
    .ck (csz (fs_ba4c.getD 0 (.dead ())) == csz (sl false ⟨6, false⟩ vs_49be)) <|
    .nil us_7145 <|
    .ck (decide ((0 : Int) ≤ i_2) && decide (i_2 < ((((a_1.set (0 + i_2.toNat) (.st [.dead (), i64 go_be53, i64 test_b41e, sl false ⟨1, false⟩ nexts_e167])).set (0 + i_2.toNat) (.st (fs_ba4c.set 0 (sl false ⟨6, false⟩ vs_49be)))).length : Nat) : Int))) <|
    V4_1 (((a_1.set (0 + i_2.toNat) (.st [.dead (), i64 go_be53, i64 test_b41e, sl false ⟨1, false⟩ nexts_e167])).set (0 + i_2.toNat) (.st (fs_ba4c.set 0 (sl false ⟨6, false⟩ vs_49be)))).getD (0 + i_2.toNat) (.dead ())) fun codes_d372 go_032f test_19ab nexts_8a22 =>
    .ck (decide ((0 : Int) ≤ i_2) && decide (i_2 < (((((a_1.set (0 + i_2.toNat) (.st [.dead (), i64 go_be53, i64 test_b41e, sl false ⟨1, false⟩ nexts_e167])).set (0 + i_2.toNat) (.st (fs_ba4c.set 0 (sl false ⟨6, false⟩ vs_49be)))).set (0 + i_2.toNat) (.st [sl false ⟨6, false⟩ codes_d372, i64 v_034a, i64 test_19ab, sl false ⟨1, false⟩ nexts_8a22])).length : Nat) : Int))) <|
    V4_1 ((((a_1.set (0 + i_2.toNat) (.st [.dead (), i64 go_be53, i64 test_b41e, sl false ⟨1, false⟩ nexts_e167])).set (0 + i_2.toNat) (.st (fs_ba4c.set 0 (sl false ⟨6, false⟩ vs_49be)))).set (0 + i_2.toNat) (.st [sl false ⟨6, false⟩ codes_d372, i64 v_034a, i64 test_19ab, sl false ⟨1, false⟩ nexts_8a22])).getD (0 + i_2.toNat) (.dead ())) fun codes_5824 go_72c7 test_a3f9 nexts_3f93 =>
    .ck (decide ((0 : Int) ≤ i_2) && decide (i_2 < ((((((a_1.set (0 + i_2.toNat) (.st [.dead (), i64 go_be53, i64 test_b41e, sl false ⟨1, false⟩ nexts_e167])).set (0 + i_2.toNat) (.st (fs_ba4c.set 0 (sl false ⟨6, false⟩ vs_49be)))).set (0 + i_2.toNat) (.st [sl false ⟨6, false⟩ codes_d372, i64 v_034a, i64 test_19ab, sl false ⟨1, false⟩ nexts_8a22])).set (0 + i_2.toNat) (.st [sl false ⟨6, false⟩ codes_5824, i64 go_72c7, i64 (w64 (v_034a + 1)), sl false ⟨1, false⟩ nexts_3f93])).length : Nat) : Int))) <|
    V4_1 (((((a_1.set (0 + i_2.toNat) (.st [.dead (), i64 go_be53, i64 test_b41e, sl false ⟨1, false⟩ nexts_e167])).set (0 + i_2.toNat) (.st (fs_ba4c.set 0 (sl false ⟨6, false⟩ vs_49be)))).set (0 + i_2.toNat) (.st [sl false ⟨6, false⟩ codes_d372, i64 v_034a, i64 test_19ab, sl false ⟨1, false⟩ nexts_8a22])).set (0 + i_2.toNat) (.st [sl false ⟨6, false⟩ codes_5824, i64 go_72c7, i64 (w64 (v_034a + 1)), sl false ⟨1, false⟩ nexts_3f93])).getD (0 + i_2.toNat) (.dead ())) fun codes_1dea go_458d test_9468 nexts_9418 =>
    V4_1 (((((a_1.set (0 + i_2.toNat) (.st [.dead (), i64 go_be53, i64 test_b41e, sl false ⟨1, false⟩ nexts_e167])).set (0 + i_2.toNat) (.st (fs_ba4c.set 0 (sl false ⟨6, false⟩ vs_49be)))).set (0 + i_2.toNat) (.st [sl false ⟨6, false⟩ codes_d372, i64 v_034a, i64 test_19ab, sl false ⟨1, false⟩ nexts_8a22])).set (0 + i_2.toNat) (.st [sl false ⟨6, false⟩ codes_5824, i64 go_72c7, i64 (w64 (v_034a + 1)), sl false ⟨1, false⟩ nexts_3f93])).getD (0 + i_2.toNat) (.dead ())) fun codes_4a67 go_ec38 test_a89e nexts_2256 =>
    V4_1 (((((a_1.set (0 + i_2.toNat) (.st [.dead (), i64 go_be53, i64 test_b41e, sl false ⟨1, false⟩ nexts_e167])).set (0 + i_2.toNat) (.st (fs_ba4c.set 0 (sl false ⟨6, false⟩ vs_49be)))).set (0 + i_2.toNat) (.st [sl false ⟨6, false⟩ codes_d372, i64 v_034a, i64 test_19ab, sl false ⟨1, false⟩ nexts_8a22])).set (0 + i_2.toNat) (.st [sl false ⟨6, false⟩ codes_5824, i64 go_72c7, i64 (w64 (v_034a + 1)), sl false ⟨1, false⟩ nexts_3f93])).getD (0 + i_2.toNat) (.dead ())) fun codes_8bef go_9ecf test_41bd nexts_b609 =>
    .call 24 [sl false ⟨1, false⟩ nexts_2256, i64 (w64 ((w64 (v_034a + 1)) + 1))] fun r_24b5 =>
    .cons r_24b5.1 fun t_deed ts_5ee2 =>
    .int .i64 t_deed fun v_fd4d =>
    .nil ts_5ee2 <|
    .cons r_24b5.2 fun u_d021 us_d766 =>
    .slO ⟨1, false⟩ u_d021 fun vs_1dbc =>
    .st ((((((a_1.set (0 + i_2.toNat) (.st [.dead (), i64 go_be53, i64 test_b41e, sl false ⟨1, false⟩ nexts_e167])).set (0 + i_2.toNat) (.st (fs_ba4c.set 0 (sl false ⟨6, false⟩ vs_49be)))).set (0 + i_2.toNat) (.st [sl false ⟨6, false⟩ codes_d372, i64 v_034a, i64 test_19ab, sl false ⟨1, false⟩ nexts_8a22])).set (0 + i_2.toNat) (.st [sl false ⟨6, false⟩ codes_5824, i64 go_72c7, i64 (w64 (v_034a + 1)), sl false ⟨1, false⟩ nexts_3f93])).set (0 + i_2.toNat) (.st [sl false ⟨6, false⟩ codes_8bef, i64 go_9ecf, i64 test_41bd, .dead ()])).getD (0 + i_2.toNat) (.dead ())) fun fs_68a0 =>
    .ck (fieldOk cx.P 110 3 fs_68a0) <|
    .ck (csz (fs_68a0.getD 3 (.dead ())) == csz (sl false ⟨1, false⟩ vs_1dbc)) <|
    .nil us_d766 <|
    B42_0 v_fd4d (w64 (i_2 + 1)) ((((((a_1.set (0 + i_2.toNat) (.st [.dead (), i64 go_be53, i64 test_b41e, sl false ⟨1, false⟩ nexts_e167])).set (0 + i_2.toNat) (.st (fs_ba4c.set 0 (sl false ⟨6, false⟩ vs_49be)))).set (0 + i_2.toNat) (.st [sl false ⟨6, false⟩ codes_d372, i64 v_034a, i64 test_19ab, sl false ⟨1, false⟩ nexts_8a22])).set (0 + i_2.toNat) (.st [sl false ⟨6, false⟩ codes_5824, i64 go_72c7, i64 (w64 (v_034a + 1)), sl false ⟨1, false⟩ nexts_3f93])).set (0 + i_2.toNat) (.st [sl false ⟨6, false⟩ codes_8bef, i64 go_9ecf, i64 test_41bd, .dead ()])).set (0 + i_2.toNat) (.st (fs_68a0.set 3 (sl false ⟨1, false⟩ vs_1dbc)))))
  (.ret [i64 k_0] [sl false ⟨4, true⟩ a_1])
theorem eH42_0 {k_0 : Int} {i_2 : Int} {a_1 : List TV} {r : Res} (h : S cx 42 (NH42_0 k_0 i_2 a_1) = some r) : S cx 42 (H42_0 k_0 i_2 a_1) = some r :=
  hw_of (fun call hd hb pt rg => by kernel_rfl) h
/-! laws.heldState -/
noncomputable def N44 (a_0 : List TV) (a_1 : List TV) (a_2 : List TV) (k_3 : Int) : Nd :=
  C25 a_0 k_3 fun v_b8c9 =>
  .bif (decide (v_b8c9 < 0))
  (.ret [i64 (-1)] [])
  (C25 a_1 v_b8c9 fun v_3cda =>
    .bif (decide (v_3cda < 0))
    (.ret [i64 (-1)] [])
    (C25 a_2 v_3cda fun v_8a35 =>
      .bif (decide (v_8a35 < 0))
      (.ret [i64 (-1)] [])
      (.ret [i64 v_8a35] [])))
theorem e44 {a_0 : List TV} {a_1 : List TV} {a_2 : List TV} {k_3 : Int} {r : Res} (h : S cx 44 (N44 a_0 a_1 a_2 k_3) = some r) : tw cx 44 [.st [sl true ⟨1, false⟩ a_0, sl true ⟨1, false⟩ a_1, sl true ⟨1, false⟩ a_2], i64 k_3] = some r :=
  tw_of (fun call hd hb pt rg => by kernel_rfl) h
/-! laws.toFlat -/
noncomputable def N63 (a_0 : Int) (a_1 : Int) (a_2 : Int) (a_3 : Int) (a_4 : Int) (a_5 : Int) : Nd :=
  .ret [.st [i64 a_0, i64 a_1, i64 a_2, i64 a_3, i64 a_4, i64 a_5]] []
theorem e63 {a_0 : Int} {a_1 : Int} {a_2 : Int} {a_3 : Int} {a_4 : Int} {a_5 : Int} {r : Res} (h : S cx 63 (N63 a_0 a_1 a_2 a_3 a_4 a_5) = some r) : tw cx 63 [.st [i64 a_0, i64 a_1, i64 a_2, i64 a_3, i64 a_4, i64 a_5]] = some r :=
  tw_of (fun call hd hb pt rg => by kernel_rfl) h
/-! impl.within -/
noncomputable def N65 (n_0 : Int) (low_1 : Int) (high_2 : Int) : Nd :=
  .bif (decide (n_0 ≥ low_1))
  (.ret [tb (decide (n_0 ≤ high_2))] [])
  (.ret [tb false] [])
theorem e65 {n_0 : Int} {low_1 : Int} {high_2 : Int} {r : Res} (h : S cx 65 (N65 n_0 low_1 high_2) = some r) : tw cx 65 [i64 n_0, i64 low_1, i64 high_2] = some r :=
  tw_of (fun call hd hb pt rg => by kernel_rfl) h
/-! laws.eqFlat -/
noncomputable def N68 (a_0 : Int) (a_1 : Int) (a_2 : Int) (a_3 : Int) (a_4 : Int) (a_5 : Int) (b_6 : Int) (b_7 : Int) (b_8 : Int) (b_9 : Int) (b_10 : Int) (b_11 : Int) : Nd :=
  .bif ((a_0 != b_6))
  (.ret [tb false] [])
  (.bif ((a_1 != b_7))
    (.ret [tb false] [])
    (.bif ((a_2 != b_8))
      (.ret [tb false] [])
      (.bif ((a_3 != b_9))
        (.ret [tb false] [])
        (.bif ((a_4 != b_10))
          (.ret [tb false] [])
          (.bif ((a_5 != b_11))
            (.ret [tb false] [])
            (.ret [tb true] []))))))
theorem e68 {a_0 : Int} {a_1 : Int} {a_2 : Int} {a_3 : Int} {a_4 : Int} {a_5 : Int} {b_6 : Int} {b_7 : Int} {b_8 : Int} {b_9 : Int} {b_10 : Int} {b_11 : Int} {r : Res} (h : S cx 68 (N68 a_0 a_1 a_2 a_3 a_4 a_5 b_6 b_7 b_8 b_9 b_10 b_11) = some r) : tw cx 68 [.st [i64 a_0, i64 a_1, i64 a_2, i64 a_3, i64 a_4, i64 a_5], .st [i64 b_6, i64 b_7, i64 b_8, i64 b_9, i64 b_10, i64 b_11]] = some r :=
  tw_of (fun call hd hb pt rg => by kernel_rfl) h
/-! laws.szBlock -/
noncomputable def N83 (a_0 : List TV) (a_1 : Int) (a_2 : Int) (a_3 : List TV) (left_4 : Int) : Nd :=
  C14 a_0 left_4 fun v_eb32 =>
  .bif (decide (v_eb32 < 0))
  (.ret [i64 (-1)] [])
  (C84 a_3 v_eb32 fun v_9af0 =>
    .bif (decide (v_9af0 < 0))
    (.ret [i64 (-1)] [])
    (.ret [i64 v_9af0] []))
theorem e83 {a_0 : List TV} {a_1 : Int} {a_2 : Int} {a_3 : List TV} {left_4 : Int} {r : Res} (h : S cx 83 (N83 a_0 a_1 a_2 a_3 left_4) = some r) : tw cx 83 [.st [sl true ⟨6, false⟩ a_0, i64 a_1, i64 a_2, sl true ⟨1, false⟩ a_3], i64 left_4] = some r :=
  tw_of (fun call hd hb pt rg => by kernel_rfl) h
/-! laws.szIntS -/
noncomputable def N84 (a_0 : List TV) (left_1 : Int) : Nd :=
  .bif (decide (w64 (left_1 - ((a_0.length : Nat) : Int)) < 0))
  (.ret [i64 (-1)] [])
  (.ret [i64 (w64 (left_1 - ((a_0.length : Nat) : Int)))] [])
theorem e84 {a_0 : List TV} {left_1 : Int} {r : Res} (h : S cx 84 (N84 a_0 left_1) = some r) : tw cx 84 [sl true ⟨1, false⟩ a_0, i64 left_1] = some r :=
  tw_of (fun call hd hb pt rg => by kernel_rfl) h
/-! spec.GoodFlow -/
noncomputable def EH85_0 (f_0 : List TV) (v_1 : Int) : Env := [.val [] (sl true ⟨4, true⟩ f_0), .un, .un, .un, .un, .val [] (sl true ⟨4, true⟩ f_0), .val [] (i64 ((f_0.length : Nat) : Int)), .val [] (i64 v_1)] ++ uns 13
noncomputable abbrev H85_0 (f_0 : List TV) (v_1 : Int) : Nd := .head [1, 0, 1, 2] (EH85_0 f_0 v_1)
noncomputable abbrev B85_0 (f_0 : List TV) (v_1 : Int) : Nd := .back [1, 0, 1, 2] (EH85_0 f_0 v_1)
noncomputable def N85 (f_0 : List TV) : Nd :=
  H85_0 f_0 0
theorem e85 {f_0 : List TV} {r : Res} (h : S cx 85 (N85 f_0) = some r) : tw cx 85 [sl true ⟨4, true⟩ f_0] = some r :=
  tw_of (fun call hd hb pt rg => by kernel_rfl) h
noncomputable def NH85_0 (f_0 : List TV) (v_1 : Int) : Nd :=
  .bif (decide (v_1 < ((f_0.length : Nat) : Int)))
  (.ck (decide ((0 : Int) ≤ v_1) && decide (v_1 < ((f_0.length : Nat) : Int))) <|
    V4 (f_0.getD (0 + v_1.toNat) (.dead ())) fun codes_4fee go_d0b0 test_d8b3 nexts_a1b5 =>
    C121 codes_4fee go_d0b0 test_d8b3 nexts_a1b5 ((f_0.length : Nat) : Int) fun v_1dc4 =>
    .bif ((!v_1dc4))
    (.ret [tb false] [])
    (B85_0 f_0 (w64 (v_1 + 1))))
  (C112 ((f_0.length : Nat) : Int) 1 64 fun v_be3a =>
    .ret [tb v_be3a] [])
theorem eH85_0 {f_0 : List TV} {v_1 : Int} {r : Res} (h : S cx 85 (NH85_0 f_0 v_1) = some r) : S cx 85 (H85_0 f_0 v_1) = some r :=
  hw_of (fun call hd hb pt rg => by kernel_rfl) h
/-! spec.GoodState -/
noncomputable def N86 (s_0 : List TV) (s_1 : List TV) (s_2 : List TV) : Nd :=
  C122 s_0 8 fun v_ff15 =>
  .bif (v_ff15)
  (C122 s_1 16 fun v_a6bd =>
    .bif (v_a6bd)
    (.bif (decide (((s_2.length : Nat) : Int) ≤ 100))
      (C122 s_2 ((s_2.length : Nat) : Int) fun v_bfc2 =>
        .ret [tb v_bfc2] [])
      (.ret [tb false] []))
    (.ret [tb false] []))
  (.ret [tb false] [])
theorem e86 {s_0 : List TV} {s_1 : List TV} {s_2 : List TV} {r : Res} (h : S cx 86 (N86 s_0 s_1 s_2) = some r) : tw cx 86 [.st [sl true ⟨1, false⟩ s_0, sl true ⟨1, false⟩ s_1, sl true ⟨1, false⟩ s_2]] = some r :=
  tw_of (fun call hd hb pt rg => by kernel_rfl) h
/-! spec.l5Fuel -/
noncomputable def N87 (n_0 : Int) : Nd :=
  C112 n_0 0 2000 fun v_f844 =>
  .ret [tb v_f844] []
theorem e87 {n_0 : Int} {r : Res} (h : S cx 87 (N87 n_0) = some r) : tw cx 87 [i64 n_0] = some r :=
  tw_of (fun call hd hb pt rg => by kernel_rfl) h
/-! spec.l6Run -/
noncomputable def EH88_0 (f_0 : List TV) (fuel_1 : Int) (out_2 : List TV) (out_3 : List TV) (out_4 : List TV) (vars_5 : List TV) (n_6 : Int) (end_7 : Int) (at_8 : Int) : Env := [.val [] (sl true ⟨4, true⟩ f_0), .un, .val [] (i64 fuel_1), .un, .un, .un, .val [] (.pt false () (.st [sl false ⟨1, false⟩ ([]), sl false ⟨1, false⟩ ([]), sl false ⟨1, false⟩ ([])])), .un, .un, .val [] (.pt false () (.st [sl false ⟨1, false⟩ out_2, sl false ⟨1, false⟩ out_3, sl false ⟨1, false⟩ out_4])), .val [] (sl false ⟨1, false⟩ vars_5), .val [] (i64 n_6), .val [] (i64 end_7), .val [] (i64 at_8)] ++ uns 59
noncomputable abbrev H88_0 (f_0 : List TV) (fuel_1 : Int) (out_2 : List TV) (out_3 : List TV) (out_4 : List TV) (vars_5 : List TV) (n_6 : Int) (end_7 : Int) (at_8 : Int) : Nd := .head [1, 1, 1, 1, 1, 0, 1, 2] (EH88_0 f_0 fuel_1 out_2 out_3 out_4 vars_5 n_6 end_7 at_8)
noncomputable abbrev B88_0 (f_0 : List TV) (fuel_1 : Int) (out_2 : List TV) (out_3 : List TV) (out_4 : List TV) (vars_5 : List TV) (n_6 : Int) (end_7 : Int) (at_8 : Int) : Nd := .back [1, 1, 1, 1, 1, 0, 1, 2] (EH88_0 f_0 fuel_1 out_2 out_3 out_4 vars_5 n_6 end_7 at_8)
noncomputable def EG88_1 (out_0 : List TV) (out_1 : List TV) (out_2 : List TV) (vars_3 : List TV) (n_4 : Int) (end_5 : Int) : Env := [.un, .un, .un, .un, .un, .un, .val [] (.pt false () (.st [sl false ⟨1, false⟩ ([]), sl false ⟨1, false⟩ ([]), sl false ⟨1, false⟩ ([])])), .un, .un, .val [] (.pt false () (.st [sl false ⟨1, false⟩ out_0, sl false ⟨1, false⟩ out_1, sl false ⟨1, false⟩ out_2])), .val [] (sl false ⟨1, false⟩ vars_3), .val [] (i64 n_4), .val [] (i64 end_5)] ++ uns 60
noncomputable abbrev G88_1 (out_0 : List TV) (out_1 : List TV) (out_2 : List TV) (vars_3 : List TV) (n_4 : Int) (end_5 : Int) : Nd := .go [1, 1, 1, 1, 1, 1] (EG88_1 out_0 out_1 out_2 vars_3 n_4 end_5)
noncomputable def EH88_2 (f_0 : List TV) (fuel_1 : Int) (out_2 : List TV) (out_3 : List TV) (out_4 : List TV) (vars_5 : List TV) (n_9 : Int) (end_7 : Int) (at_10 : Int) (v_6 : List TV) (v_8 : Int) : Env := [.val [] (sl true ⟨4, true⟩ f_0), .un, .val [] (i64 fuel_1), .un, .un, .un, .val [] (.pt false () (.st [sl false ⟨1, false⟩ ([]), sl false ⟨1, false⟩ ([]), sl false ⟨1, false⟩ ([])])), .un, .un, .val [] (.pt false () (.st [sl false ⟨1, false⟩ out_2, sl false ⟨1, false⟩ out_3, sl false ⟨1, false⟩ out_4])), .val [] (sl false ⟨1, false⟩ vars_5), .val [] (i64 n_9), .val [] (i64 end_7), .val [] (i64 at_10)] ++ uns 20 ++ [.val [] (sl true ⟨6, false⟩ v_6), .val [] (i64 ((v_6.length : Nat) : Int)), .val [] (i64 v_8)] ++ uns 36
noncomputable abbrev H88_2 (f_0 : List TV) (fuel_1 : Int) (out_2 : List TV) (out_3 : List TV) (out_4 : List TV) (vars_5 : List TV) (n_9 : Int) (end_7 : Int) (at_10 : Int) (v_6 : List TV) (v_8 : Int) : Nd := .head [1, 1, 1, 1, 1, 0, 1, 2, 5, 1, 2, 1, 1, 0, 1, 2] (EH88_2 f_0 fuel_1 out_2 out_3 out_4 vars_5 n_9 end_7 at_10 v_6 v_8)
noncomputable abbrev B88_2 (f_0 : List TV) (fuel_1 : Int) (out_2 : List TV) (out_3 : List TV) (out_4 : List TV) (vars_5 : List TV) (n_9 : Int) (end_7 : Int) (at_10 : Int) (v_6 : List TV) (v_8 : Int) : Nd := .back [1, 1, 1, 1, 1, 0, 1, 2, 5, 1, 2, 1, 1, 0, 1, 2] (EH88_2 f_0 fuel_1 out_2 out_3 out_4 vars_5 n_9 end_7 at_10 v_6 v_8)
noncomputable def N88 (f_0 : List TV) (s_1 : List TV) (s_2 : List TV) (s_3 : List TV) (fuel_4 : Int) : Nd :=
  C89 s_1 s_2 s_3 fun localss_e4c4 mems_79ea tolds_0e0d =>
  .ck (decide ((0 + s_1.length) * 8 < lim)) <|
  .ck (decide (((([]) ++ s_1).length + 4) * 8 < lim)) <|
  H88_0 f_0 fuel_4 localss_e4c4 mems_79ea tolds_0e0d ((([]) ++ s_1) ++ List.replicate 4 (i64 0)) 0 0 0
theorem e88 {f_0 : List TV} {s_1 : List TV} {s_2 : List TV} {s_3 : List TV} {fuel_4 : Int} {r : Res} (h : S cx 88 (N88 f_0 s_1 s_2 s_3 fuel_4) = some r) : tw cx 88 [sl true ⟨4, true⟩ f_0, .st [sl true ⟨1, false⟩ s_1, sl true ⟨1, false⟩ s_2, sl true ⟨1, false⟩ s_3], i64 fuel_4] = some r :=
  tw_of (fun call hd hb pt rg => by kernel_rfl) h
noncomputable def NH88_0 (f_0 : List TV) (fuel_1 : Int) (out_2 : List TV) (out_3 : List TV) (out_4 : List TV) (vars_5 : List TV) (n_6 : Int) (end_7 : Int) (at_8 : Int) : Nd :=
  .bif ((end_7 == 0))
  (.bif ((n_6 == fuel_1))
    (G88_1 out_2 out_3 out_4 vars_5 n_6 3)
    (.ck (decide ((0 : Int) ≤ at_8) && decide (at_8 < ((f_0.length : Nat) : Int))) <|
      V4 (f_0.getD (0 + at_8.toNat) (.dead ())) fun codes_bf9a go_094e test_8b5b nexts_5c41 =>
      H88_2 f_0 fuel_1 out_2 out_3 out_4 vars_5 (w64 (n_6 + 1)) end_7 at_8 codes_bf9a 0))
  (G88_1 out_2 out_3 out_4 vars_5 n_6 end_7)
theorem eH88_0 {f_0 : List TV} {fuel_1 : Int} {out_2 : List TV} {out_3 : List TV} {out_4 : List TV} {vars_5 : List TV} {n_6 : Int} {end_7 : Int} {at_8 : Int} {r : Res} (h : S cx 88 (NH88_0 f_0 fuel_1 out_2 out_3 out_4 vars_5 n_6 end_7 at_8) = some r) : S cx 88 (H88_0 f_0 fuel_1 out_2 out_3 out_4 vars_5 n_6 end_7 at_8) = some r :=
  hw_of (fun call hd hb pt rg => by kernel_rfl) h
noncomputable def NG88_1 (out_0 : List TV) (out_1 : List TV) (out_2 : List TV) (vars_3 : List TV) (n_4 : Int) (end_5 : Int) : Nd :=
  .ck (decide ((8 : Int) ≤ ((vars_3.length : Nat) : Int))) <|
  .ck (decide ((0 + ((vars_3.drop 0).take 8).length) * 8 < lim)) <|
  .ret [.st [sl false ⟨1, false⟩ (([]) ++ ((vars_3.drop 0).take 8)), sl false ⟨1, false⟩ out_1, sl false ⟨1, false⟩ out_2], i64 end_5, i64 n_4] []
theorem eG88_1 {out_0 : List TV} {out_1 : List TV} {out_2 : List TV} {vars_3 : List TV} {n_4 : Int} {end_5 : Int} {r : Res} (h : S cx 88 (NG88_1 out_0 out_1 out_2 vars_3 n_4 end_5) = some r) : S cx 88 (G88_1 out_0 out_1 out_2 vars_3 n_4 end_5) = some r :=
  pw_of (fun call hd hb pt rg => by kernel_rfl) h
noncomputable def NH88_2 (f_0 : List TV) (fuel_1 : Int) (out_2 : List TV) (out_3 : List TV) (out_4 : List TV) (vars_5 : List TV) (n_9 : Int) (end_7 : Int) (at_10 : Int) (v_6 : List TV) (v_8 : Int) : Nd :=
  .bif (decide (v_8 < ((v_6.length : Nat) : Int)))
  (.ck (decide ((0 : Int) ≤ v_8) && decide (v_8 < ((v_6.length : Nat) : Int))) <|
    V6 (v_6.getD (0 + v_8.toNat) (.dead ())) fun op_b1ed do_a49f dst_8c1d a_7bcd b_c076 n_2ba7 =>
    .bif ((end_7 == 0))
    (C123 op_b1ed do_a49f dst_8c1d a_7bcd b_c076 n_2ba7 vars_5 out_2 out_3 out_4 fun v_c91c vs_7d85 localss_e8a4 mems_93b0 tolds_6974 =>
      .bif ((!v_c91c))
      (B88_2 f_0 fuel_1 localss_e8a4 mems_93b0 tolds_6974 vs_7d85 n_9 2 at_10 v_6 (w64 (v_8 + 1)))
      (B88_2 f_0 fuel_1 localss_e8a4 mems_93b0 tolds_6974 vs_7d85 n_9 end_7 at_10 v_6 (w64 (v_8 + 1))))
    (B88_2 f_0 fuel_1 out_2 out_3 out_4 vars_5 n_9 end_7 at_10 v_6 (w64 (v_8 + 1))))
  (.bif ((end_7 != 0))
    (G88_1 out_2 out_3 out_4 vars_5 n_9 end_7)
    (.ck (decide ((0 : Int) ≤ at_10) && decide (at_10 < ((f_0.length : Nat) : Int))) <|
      V4 (f_0.getD (0 + at_10.toNat) (.dead ())) fun codes_26ce go_bc99 test_cf93 nexts_0276 =>
      C124 codes_26ce go_bc99 test_cf93 nexts_0276 vars_5 fun v_8c4d =>
      .bif ((v_8c4d == (-1)))
      (B88_0 f_0 fuel_1 out_2 out_3 out_4 vars_5 n_9 1 v_8c4d)
      (.bif ((v_8c4d == (-2)))
        (B88_0 f_0 fuel_1 out_2 out_3 out_4 vars_5 n_9 2 v_8c4d)
        (B88_0 f_0 fuel_1 out_2 out_3 out_4 vars_5 n_9 end_7 v_8c4d))))
theorem eH88_2 {f_0 : List TV} {fuel_1 : Int} {out_2 : List TV} {out_3 : List TV} {out_4 : List TV} {vars_5 : List TV} {n_9 : Int} {end_7 : Int} {at_10 : Int} {v_6 : List TV} {v_8 : Int} {r : Res} (h : S cx 88 (NH88_2 f_0 fuel_1 out_2 out_3 out_4 vars_5 n_9 end_7 at_10 v_6 v_8) = some r) : S cx 88 (H88_2 f_0 fuel_1 out_2 out_3 out_4 vars_5 n_9 end_7 at_10 v_6 v_8) = some r :=
  hw_of (fun call hd hb pt rg => by kernel_rfl) h
end Go.Tree.Q

/- Trees of values: program points of functions. -/
namespace Go.Tree.Q
open Go.Proofs
set_option linter.unusedVariables false
set_option maxRecDepth 20000
/-! spec.l5Own -/
noncomputable def ER89_0 (s_0 : List TV) (s_1 : List TV) (s_2 : List TV) : Env := [.val [] (.st [sl true ⟨1, false⟩ s_0, sl true ⟨1, false⟩ s_1, sl true ⟨1, false⟩ s_2]), .val [] (.pt false () (.st [sl true ⟨1, false⟩ s_0, sl true ⟨1, false⟩ s_1, sl true ⟨1, false⟩ s_2])), .val [] (.pt false () (.st [sl false ⟨1, false⟩ ([]), sl false ⟨1, false⟩ ([]), sl false ⟨1, false⟩ ([])])), .val [] (sl false ⟨1, false⟩ ([])), .adr 1 [.d 51, .f 51 0], .val [] (sl true ⟨1, false⟩ s_0), .un, .un, .adr 1 [.d 51, .f 51 1], .un, .un, .un, .adr 1 [.d 51, .f 51 2], .un, .un, .un, .un]
noncomputable abbrev R89_0 (s_0 : List TV) (s_1 : List TV) (s_2 : List TV) : Nd := .rg [1, 0] [true, true, true, false, false, true, false, false, false, true, false, false, false, false] (ER89_0 s_0 s_1 s_2)
noncomputable def ER89_1 (s_0 : List TV) (s_1 : List TV) (s_2 : List TV) : Env := [.val [] (.st [sl true ⟨1, false⟩ s_0, sl true ⟨1, false⟩ s_1, sl true ⟨1, false⟩ s_2]), .val [] (.pt false () (.st [sl true ⟨1, false⟩ s_0, sl true ⟨1, false⟩ s_1, sl true ⟨1, false⟩ s_2])), .val [] (.pt false () (.st [sl false ⟨1, false⟩ ([]), sl false ⟨1, false⟩ ([]), sl false ⟨1, false⟩ ([])])), .un, .adr 1 [.d 51, .f 51 0], .val [] (sl true ⟨1, false⟩ s_0), .un, .val [] (sl false ⟨1, false⟩ ([])), .adr 1 [.d 51, .f 51 1], .un, .un, .un, .adr 1 [.d 51, .f 51 2], .un, .un, .un, .un]
noncomputable abbrev R89_1 (s_0 : List TV) (s_1 : List TV) (s_2 : List TV) : Nd := .rg [1, 0] [false, true, true, false, true, true, false, false, false, true, false, false, false, false] (ER89_1 s_0 s_1 s_2)
noncomputable def ER89_2 (s_0 : List TV) (s_1 : List TV) (s_2 : List TV) : Env := [.val [] (.st [sl true ⟨1, false⟩ s_0, sl true ⟨1, false⟩ s_1, sl true ⟨1, false⟩ s_2]), .val [] (.pt false () (.st [sl true ⟨1, false⟩ s_0, sl true ⟨1, false⟩ s_1, sl true ⟨1, false⟩ s_2])), .val [] (.pt false () (.st [sl false ⟨1, false⟩ ([]), sl false ⟨1, false⟩ ([]), sl false ⟨1, false⟩ ([])])), .un, .adr 1 [.d 51, .f 51 0], .val [] (sl true ⟨1, false⟩ s_0), .un, .un, .adr 1 [.d 51, .f 51 1], .val [] (sl true ⟨1, false⟩ s_1), .un, .un, .adr 1 [.d 51, .f 51 2], .un, .un, .un, .un]
noncomputable abbrev R89_2 (s_0 : List TV) (s_1 : List TV) (s_2 : List TV) : Nd := .rg [1, 0] [false, true, true, false, false, true, true, false, false, true, false, false, false, false] (ER89_2 s_0 s_1 s_2)
noncomputable def ER89_3 (s_0 : List TV) (s_1 : List TV) (s_2 : List TV) : Env := [.val [] (.st [sl true ⟨1, false⟩ s_0, sl true ⟨1, false⟩ s_1, sl true ⟨1, false⟩ s_2]), .val [] (.pt false () (.st [sl true ⟨1, false⟩ s_0, sl true ⟨1, false⟩ s_1, sl true ⟨1, false⟩ s_2])), .val [] (.pt false () (.st [sl false ⟨1, false⟩ ([]), sl false ⟨1, false⟩ ([]), sl false ⟨1, false⟩ ([])])), .un, .adr 1 [.d 51, .f 51 0], .val [] (sl true ⟨1, false⟩ s_0), .un, .un, .adr 1 [.d 51, .f 51 1], .un, .un, .val [] (sl false ⟨1, false⟩ ([])), .adr 1 [.d 51, .f 51 2], .un, .un, .un, .un]
noncomputable abbrev R89_3 (s_0 : List TV) (s_1 : List TV) (s_2 : List TV) : Nd := .rg [1, 0] [false, true, true, false, false, true, false, false, true, true, false, false, false, false] (ER89_3 s_0 s_1 s_2)
noncomputable def ER89_4 (s_0 : List TV) (s_1 : List TV) (s_2 : List TV) : Env := [.val [] (.st [sl true ⟨1, false⟩ s_0, sl true ⟨1, false⟩ s_1, sl true ⟨1, false⟩ s_2]), .val [] (.pt false () (.st [sl true ⟨1, false⟩ s_0, sl true ⟨1, false⟩ s_1, sl true ⟨1, false⟩ s_2])), .val [] (.pt false () (.st [sl false ⟨1, false⟩ ([]), sl false ⟨1, false⟩ ([]), sl false ⟨1, false⟩ ([])])), .un, .adr 1 [.d 51, .f 51 0], .val [] (sl true ⟨1, false⟩ s_0), .un, .un, .adr 1 [.d 51, .f 51 1], .un, .un, .un, .adr 1 [.d 51, .f 51 2], .val [] (sl true ⟨1, false⟩ s_2), .un, .un, .un]
noncomputable abbrev R89_4 (s_0 : List TV) (s_1 : List TV) (s_2 : List TV) : Nd := .rg [1, 0] [false, true, true, false, false, true, false, false, false, true, true, false, false, false] (ER89_4 s_0 s_1 s_2)
noncomputable def ER89_5 (s_0 : List TV) (s_1 : List TV) (s_2 : List TV) : Env := [.val [] (.st [sl true ⟨1, false⟩ s_0, sl true ⟨1, false⟩ s_1, sl true ⟨1, false⟩ s_2]), .val [] (.pt false () (.st [sl true ⟨1, false⟩ s_0, sl true ⟨1, false⟩ s_1, sl true ⟨1, false⟩ s_2])), .val [] (.pt false () (.st [sl false ⟨1, false⟩ ([]), sl false ⟨1, false⟩ ([]), sl false ⟨1, false⟩ ([])])), .un, .adr 1 [.d 51, .f 51 0], .val [] (sl true ⟨1, false⟩ s_0), .val [] (sl false ⟨1, false⟩ (([]) ++ s_0)), .un, .adr 1 [.d 51, .f 51 1], .un, .un, .un, .adr 1 [.d 51, .f 51 2], .un, .un, .un, .un]
noncomputable abbrev R89_5 (s_0 : List TV) (s_1 : List TV) (s_2 : List TV) : Nd := .rg [1, 0] [true, true, true, true, false, true, false, false, false, true, false, false, false, false] (ER89_5 s_0 s_1 s_2)
noncomputable def ER89_6 (s_0 : List TV) (s_1 : List TV) (s_2 : List TV) : Env := [.val [] (.st [sl true ⟨1, false⟩ s_0, sl true ⟨1, false⟩ s_1, sl true ⟨1, false⟩ s_2]), .val [] (.pt false () (.st [sl true ⟨1, false⟩ s_0, sl true ⟨1, false⟩ s_1, sl true ⟨1, false⟩ s_2])), .val [] (.pt false () (.st [sl false ⟨1, false⟩ ([]), sl false ⟨1, false⟩ ([]), sl false ⟨1, false⟩ ([])])), .val [] (sl false ⟨1, false⟩ ([])), .adr 1 [.d 51, .f 51 0], .val [] (sl true ⟨1, false⟩ s_0), .un, .val [] (sl false ⟨1, false⟩ ([])), .adr 1 [.d 51, .f 51 1], .un, .un, .un, .adr 1 [.d 51, .f 51 2], .un, .un, .un, .un]
noncomputable abbrev R89_6 (s_0 : List TV) (s_1 : List TV) (s_2 : List TV) : Nd := .rg [1, 0] [true, true, true, false, true, true, false, false, false, true, false, false, false, false] (ER89_6 s_0 s_1 s_2)
noncomputable def ER89_7 (s_0 : List TV) (s_1 : List TV) (s_2 : List TV) : Env := [.val [] (.st [sl true ⟨1, false⟩ s_0, sl true ⟨1, false⟩ s_1, sl true ⟨1, false⟩ s_2]), .val [] (.pt false () (.st [sl true ⟨1, false⟩ s_0, sl true ⟨1, false⟩ s_1, sl true ⟨1, false⟩ s_2])), .val [] (.pt false () (.st [sl false ⟨1, false⟩ ([]), sl false ⟨1, false⟩ ([]), sl false ⟨1, false⟩ ([])])), .val [] (sl false ⟨1, false⟩ ([])), .adr 1 [.d 51, .f 51 0], .val [] (sl true ⟨1, false⟩ s_0), .un, .un, .adr 1 [.d 51, .f 51 1], .val [] (sl true ⟨1, false⟩ s_1), .un, .un, .adr 1 [.d 51, .f 51 2], .un, .un, .un, .un]
noncomputable abbrev R89_7 (s_0 : List TV) (s_1 : List TV) (s_2 : List TV) : Nd := .rg [1, 0] [true, true, true, false, false, true, true, false, false, true, false, false, false, false] (ER89_7 s_0 s_1 s_2)
noncomputable def ER89_8 (s_0 : List TV) (s_1 : List TV) (s_2 : List TV) : Env := [.val [] (.st [sl true ⟨1, false⟩ s_0, sl true ⟨1, false⟩ s_1, sl true ⟨1, false⟩ s_2]), .val [] (.pt false () (.st [sl true ⟨1, false⟩ s_0, sl true ⟨1, false⟩ s_1, sl true ⟨1, false⟩ s_2])), .val [] (.pt false () (.st [sl false ⟨1, false⟩ ([]), sl false ⟨1, false⟩ ([]), sl false ⟨1, false⟩ ([])])), .val [] (sl false ⟨1, false⟩ ([])), .adr 1 [.d 51, .f 51 0], .val [] (sl true ⟨1, false⟩ s_0), .un, .un, .adr 1 [.d 51, .f 51 1], .un, .un, .val [] (sl false ⟨1, false⟩ ([])), .adr 1 [.d 51, .f 51 2], .un, .un, .un, .un]
noncomputable abbrev R89_8 (s_0 : List TV) (s_1 : List TV) (s_2 : List TV) : Nd := .rg [1, 0] [true, true, true, false, false, true, false, false, true, true, false, false, false, false] (ER89_8 s_0 s_1 s_2)
noncomputable def ER89_9 (s_0 : List TV) (s_1 : List TV) (s_2 : List TV) : Env := [.val [] (.st [sl true ⟨1, false⟩ s_0, sl true ⟨1, false⟩ s_1, sl true ⟨1, false⟩ s_2]), .val [] (.pt false () (.st [sl true ⟨1, false⟩ s_0, sl true ⟨1, false⟩ s_1, sl true ⟨1, false⟩ s_2])), .val [] (.pt false () (.st [sl false ⟨1, false⟩ ([]), sl false ⟨1, false⟩ ([]), sl false ⟨1, false⟩ ([])])), .val [] (sl false ⟨1, false⟩ ([])), .adr 1 [.d 51, .f 51 0], .val [] (sl true ⟨1, false⟩ s_0), .un, .un, .adr 1 [.d 51, .f 51 1], .un, .un, .un, .adr 1 [.d 51, .f 51 2], .val [] (sl true ⟨1, false⟩ s_2), .un, .un, .un]
noncomputable abbrev R89_9 (s_0 : List TV) (s_1 : List TV) (s_2 : List TV) : Nd := .rg [1, 0] [true, true, true, false, false, true, false, false, false, true, true, false, false, false] (ER89_9 s_0 s_1 s_2)
noncomputable def ER89_10 (s_0 : List TV) (s_1 : List TV) (s_2 : List TV) : Env := [.val [] (.st [sl true ⟨1, false⟩ s_0, sl true ⟨1, false⟩ s_1, sl true ⟨1, false⟩ s_2]), .val [] (.pt false () (.st [sl true ⟨1, false⟩ s_0, sl true ⟨1, false⟩ s_1, sl true ⟨1, false⟩ s_2])), .val [] (.pt false () (.st [sl false ⟨1, false⟩ ([]), sl false ⟨1, false⟩ ([]), sl false ⟨1, false⟩ ([])])), .un, .adr 1 [.d 51, .f 51 0], .val [] (sl true ⟨1, false⟩ s_0), .un, .val [] (sl false ⟨1, false⟩ ([])), .adr 1 [.d 51, .f 51 1], .val [] (sl true ⟨1, false⟩ s_1), .un, .un, .adr 1 [.d 51, .f 51 2], .un, .un, .un, .un]
noncomputable abbrev R89_10 (s_0 : List TV) (s_1 : List TV) (s_2 : List TV) : Nd := .rg [1, 0] [false, true, true, false, true, true, true, false, false, true, false, false, false, false] (ER89_10 s_0 s_1 s_2)
noncomputable def ER89_11 (s_0 : List TV) (s_1 : List TV) (s_2 : List TV) : Env := [.val [] (.st [sl true ⟨1, false⟩ s_0, sl true ⟨1, false⟩ s_1, sl true ⟨1, false⟩ s_2]), .val [] (.pt false () (.st [sl true ⟨1, false⟩ s_0, sl true ⟨1, false⟩ s_1, sl true ⟨1, false⟩ s_2])), .val [] (.pt false () (.st [sl false ⟨1, false⟩ ([]), sl false ⟨1, false⟩ ([]), sl false ⟨1, false⟩ ([])])), .un, .adr 1 [.d 51, .f 51 0], .val [] (sl true ⟨1, false⟩ s_0), .un, .val [] (sl false ⟨1, false⟩ ([])), .adr 1 [.d 51, .f 51 1], .un, .un, .val [] (sl false ⟨1, false⟩ ([])), .adr 1 [.d 51, .f 51 2], .un, .un, .un, .un]
noncomputable abbrev R89_11 (s_0 : List TV) (s_1 : List TV) (s_2 : List TV) : Nd := .rg [1, 0] [false, true, true, false, true, true, false, false, true, true, false, false, false, false] (ER89_11 s_0 s_1 s_2)
noncomputable def ER89_12 (s_0 : List TV) (s_1 : List TV) (s_2 : List TV) : Env := [.val [] (.st [sl true ⟨1, false⟩ s_0, sl true ⟨1, false⟩ s_1, sl true ⟨1, false⟩ s_2]), .val [] (.pt false () (.st [sl true ⟨1, false⟩ s_0, sl true ⟨1, false⟩ s_1, sl true ⟨1, false⟩ s_2])), .val [] (.pt false () (.st [sl false ⟨1, false⟩ ([]), sl false ⟨1, false⟩ ([]), sl false ⟨1, false⟩ ([])])), .un, .adr 1 [.d 51, .f 51 0], .val [] (sl true ⟨1, false⟩ s_0), .un, .val [] (sl false ⟨1, false⟩ ([])), .adr 1 [.d 51, .f 51 1], .un, .un, .un, .adr 1 [.d 51, .f 51 2], .val [] (sl true ⟨1, false⟩ s_2), .un, .un, .un]
noncomputable abbrev R89_12 (s_0 : List TV) (s_1 : List TV) (s_2 : List TV) : Nd := .rg [1, 0] [false, true, true, false, true, true, false, false, false, true, true, false, false, false] (ER89_12 s_0 s_1 s_2)
noncomputable def ER89_13 (s_0 : List TV) (s_1 : List TV) (s_2 : List TV) : Env := [.val [] (.st [sl true ⟨1, false⟩ s_0, sl true ⟨1, false⟩ s_1, sl true ⟨1, false⟩ s_2]), .val [] (.pt false () (.st [sl true ⟨1, false⟩ s_0, sl true ⟨1, false⟩ s_1, sl true ⟨1, false⟩ s_2])), .val [] (.pt false () (.st [sl false ⟨1, false⟩ ([]), sl false ⟨1, false⟩ ([]), sl false ⟨1, false⟩ ([])])), .un, .adr 1 [.d 51, .f 51 0], .val [] (sl true ⟨1, false⟩ s_0), .un, .un, .adr 1 [.d 51, .f 51 1], .val [] (sl true ⟨1, false⟩ s_1), .un, .val [] (sl false ⟨1, false⟩ ([])), .adr 1 [.d 51, .f 51 2], .un, .un, .un, .un]
noncomputable abbrev R89_13 (s_0 : List TV) (s_1 : List TV) (s_2 : List TV) : Nd := .rg [1, 0] [false, true, true, false, false, true, true, false, true, true, false, false, false, false] (ER89_13 s_0 s_1 s_2)
noncomputable def ER89_14 (s_0 : List TV) (s_1 : List TV) (s_2 : List TV) : Env := [.val [] (.st [sl true ⟨1, false⟩ s_0, sl true ⟨1, false⟩ s_1, sl true ⟨1, false⟩ s_2]), .val [] (.pt false () (.st [sl true ⟨1, false⟩ s_0, sl true ⟨1, false⟩ s_1, sl true ⟨1, false⟩ s_2])), .val [] (.pt false () (.st [sl false ⟨1, false⟩ ([]), sl false ⟨1, false⟩ ([]), sl false ⟨1, false⟩ ([])])), .un, .adr 1 [.d 51, .f 51 0], .val [] (sl true ⟨1, false⟩ s_0), .un, .un, .adr 1 [.d 51, .f 51 1], .val [] (sl true ⟨1, false⟩ s_1), .un, .un, .adr 1 [.d 51, .f 51 2], .val [] (sl true ⟨1, false⟩ s_2), .un, .un, .un]
noncomputable abbrev R89_14 (s_0 : List TV) (s_1 : List TV) (s_2 : List TV) : Nd := .rg [1, 0] [false, true, true, false, false, true, true, false, false, true, true, false, false, false] (ER89_14 s_0 s_1 s_2)
noncomputable def ER89_15 (s_0 : List TV) (s_1 : List TV) (s_2 : List TV) : Env := [.val [] (.st [sl true ⟨1, false⟩ s_0, sl true ⟨1, false⟩ s_1, sl true ⟨1, false⟩ s_2]), .val [] (.pt false () (.st [sl true ⟨1, false⟩ s_0, sl true ⟨1, false⟩ s_1, sl true ⟨1, false⟩ s_2])), .val [] (.pt false () (.st [sl false ⟨1, false⟩ ([]), sl false ⟨1, false⟩ ([]), sl false ⟨1, false⟩ ([])])), .un, .adr 1 [.d 51, .f 51 0], .val [] (sl true ⟨1, false⟩ s_0), .un, .un, .adr 1 [.d 51, .f 51 1], .un, .un, .val [] (sl false ⟨1, false⟩ ([])), .adr 1 [.d 51, .f 51 2], .val [] (sl true ⟨1, false⟩ s_2), .un, .un, .un]
noncomputable abbrev R89_15 (s_0 : List TV) (s_1 : List TV) (s_2 : List TV) : Nd := .rg [1, 0] [false, true, true, false, false, true, false, false, true, true, true, false, false, false] (ER89_15 s_0 s_1 s_2)
noncomputable def ER89_16 (s_0 : List TV) (s_1 : List TV) (s_2 : List TV) : Env := [.val [] (.st [sl true ⟨1, false⟩ s_0, sl true ⟨1, false⟩ s_1, sl true ⟨1, false⟩ s_2]), .val [] (.pt false () (.st [sl true ⟨1, false⟩ s_0, sl true ⟨1, false⟩ s_1, sl true ⟨1, false⟩ s_2])), .val [] (.pt false () (.st [sl false ⟨1, false⟩ ([]), sl false ⟨1, false⟩ ([]), sl false ⟨1, false⟩ ([])])), .un, .adr 1 [.d 51, .f 51 0], .val [] (sl true ⟨1, false⟩ s_0), .val [] (sl false ⟨1, false⟩ (([]) ++ s_0)), .val [] (sl false ⟨1, false⟩ ([])), .adr 1 [.d 51, .f 51 1], .val [] (sl true ⟨1, false⟩ s_1), .un, .un, .adr 1 [.d 51, .f 51 2], .un, .un, .un, .un]
noncomputable abbrev R89_16 (s_0 : List TV) (s_1 : List TV) (s_2 : List TV) : Nd := .rg [1, 0] [true, true, true, true, true, true, true, false, false, true, false, false, false, false] (ER89_16 s_0 s_1 s_2)
noncomputable def ER89_17 (s_0 : List TV) (s_1 : List TV) (s_2 : List TV) : Env := [.val [] (.st [sl true ⟨1, false⟩ s_0, sl true ⟨1, false⟩ s_1, sl true ⟨1, false⟩ s_2]), .val [] (.pt false () (.st [sl true ⟨1, false⟩ s_0, sl true ⟨1, false⟩ s_1, sl true ⟨1, false⟩ s_2])), .val [] (.pt false () (.st [sl false ⟨1, false⟩ ([]), sl false ⟨1, false⟩ ([]), sl false ⟨1, false⟩ ([])])), .un, .adr 1 [.d 51, .f 51 0], .val [] (sl true ⟨1, false⟩ s_0), .val [] (sl false ⟨1, false⟩ (([]) ++ s_0)), .un, .adr 1 [.d 51, .f 51 1], .val [] (sl true ⟨1, false⟩ s_1), .un, .val [] (sl false ⟨1, false⟩ ([])), .adr 1 [.d 51, .f 51 2], .un, .un, .un, .un]
noncomputable abbrev R89_17 (s_0 : List TV) (s_1 : List TV) (s_2 : List TV) : Nd := .rg [1, 0] [true, true, true, true, false, true, true, false, true, true, false, false, false, false] (ER89_17 s_0 s_1 s_2)
noncomputable def ER89_18 (s_0 : List TV) (s_1 : List TV) (s_2 : List TV) : Env := [.val [] (.st [sl true ⟨1, false⟩ s_0, sl true ⟨1, false⟩ s_1, sl true ⟨1, false⟩ s_2]), .val [] (.pt false () (.st [sl true ⟨1, false⟩ s_0, sl true ⟨1, false⟩ s_1, sl true ⟨1, false⟩ s_2])), .val [] (.pt false () (.st [sl false ⟨1, false⟩ ([]), sl false ⟨1, false⟩ ([]), sl false ⟨1, false⟩ ([])])), .un, .adr 1 [.d 51, .f 51 0], .val [] (sl true ⟨1, false⟩ s_0), .val [] (sl false ⟨1, false⟩ (([]) ++ s_0)), .un, .adr 1 [.d 51, .f 51 1], .val [] (sl true ⟨1, false⟩ s_1), .un, .un, .adr 1 [.d 51, .f 51 2], .val [] (sl true ⟨1, false⟩ s_2), .un, .un, .un]
noncomputable abbrev R89_18 (s_0 : List TV) (s_1 : List TV) (s_2 : List TV) : Nd := .rg [1, 0] [true, true, true, true, false, true, true, false, false, true, true, false, false, false] (ER89_18 s_0 s_1 s_2)
noncomputable def ER89_19 (s_0 : List TV) (s_1 : List TV) (s_2 : List TV) : Env := [.val [] (.st [sl true ⟨1, false⟩ s_0, sl true ⟨1, false⟩ s_1, sl true ⟨1, false⟩ s_2]), .val [] (.pt false () (.st [sl true ⟨1, false⟩ s_0, sl true ⟨1, false⟩ s_1, sl true ⟨1, false⟩ s_2])), .val [] (.pt false () (.st [sl false ⟨1, false⟩ ([]), sl false ⟨1, false⟩ ([]), sl false ⟨1, false⟩ ([])])), .un, .adr 1 [.d 51, .f 51 0], .val [] (sl true ⟨1, false⟩ s_0), .val [] (sl false ⟨1, false⟩ (([]) ++ s_0)), .val [] (sl false ⟨1, false⟩ ([])), .adr 1 [.d 51, .f 51 1], .un, .un, .un, .adr 1 [.d 51, .f 51 2], .un, .un, .un, .un]
noncomputable abbrev R89_19 (s_0 : List TV) (s_1 : List TV) (s_2 : List TV) : Nd := .rg [1, 0] [true, true, true, true, true, true, false, false, false, true, false, false, false, false] (ER89_19 s_0 s_1 s_2)
noncomputable def ER89_20 (s_0 : List TV) (s_1 : List TV) (s_2 : List TV) : Env := [.val [] (.st [sl true ⟨1, false⟩ s_0, sl true ⟨1, false⟩ s_1, sl true ⟨1, false⟩ s_2]), .val [] (.pt false () (.st [sl true ⟨1, false⟩ s_0, sl true ⟨1, false⟩ s_1, sl true ⟨1, false⟩ s_2])), .val [] (.pt false () (.st [sl false ⟨1, false⟩ ([]), sl false ⟨1, false⟩ ([]), sl false ⟨1, false⟩ ([])])), .val [] (sl false ⟨1, false⟩ ([])), .adr 1 [.d 51, .f 51 0], .val [] (sl true ⟨1, false⟩ s_0), .un, .val [] (sl false ⟨1, false⟩ ([])), .adr 1 [.d 51, .f 51 1], .val [] (sl true ⟨1, false⟩ s_1), .un, .un, .adr 1 [.d 51, .f 51 2], .un, .un, .un, .un]
noncomputable abbrev R89_20 (s_0 : List TV) (s_1 : List TV) (s_2 : List TV) : Nd := .rg [1, 0] [true, true, true, false, true, true, true, false, false, true, false, false, false, false] (ER89_20 s_0 s_1 s_2)
noncomputable def ER89_21 (s_0 : List TV) (s_1 : List TV) (s_2 : List TV) : Env := [.val [] (.st [sl true ⟨1, false⟩ s_0, sl true ⟨1, false⟩ s_1, sl true ⟨1, false⟩ s_2]), .val [] (.pt false () (.st [sl true ⟨1, false⟩ s_0, sl true ⟨1, false⟩ s_1, sl true ⟨1, false⟩ s_2])), .val [] (.pt false () (.st [sl false ⟨1, false⟩ ([]), sl false ⟨1, false⟩ ([]), sl false ⟨1, false⟩ ([])])), .val [] (sl false ⟨1, false⟩ ([])), .adr 1 [.d 51, .f 51 0], .val [] (sl true ⟨1, false⟩ s_0), .un, .val [] (sl false ⟨1, false⟩ ([])), .adr 1 [.d 51, .f 51 1], .un, .un, .val [] (sl false ⟨1, false⟩ ([])), .adr 1 [.d 51, .f 51 2], .un, .un, .un, .un]
noncomputable abbrev R89_21 (s_0 : List TV) (s_1 : List TV) (s_2 : List TV) : Nd := .rg [1, 0] [true, true, true, false, true, true, false, false, true, true, false, false, false, false] (ER89_21 s_0 s_1 s_2)
noncomputable def ER89_22 (s_0 : List TV) (s_1 : List TV) (s_2 : List TV) : Env := [.val [] (.st [sl true ⟨1, false⟩ s_0, sl true ⟨1, false⟩ s_1, sl true ⟨1, false⟩ s_2]), .val [] (.pt false () (.st [sl true ⟨1, false⟩ s_0, sl true ⟨1, false⟩ s_1, sl true ⟨1, false⟩ s_2])), .val [] (.pt false () (.st [sl false ⟨1, false⟩ ([]), sl false ⟨1, false⟩ ([]), sl false ⟨1, false⟩ ([])])), .val [] (sl false ⟨1, false⟩ ([])), .adr 1 [.d 51, .f 51 0], .val [] (sl true ⟨1, false⟩ s_0), .un, .val [] (sl false ⟨1, false⟩ ([])), .adr 1 [.d 51, .f 51 1], .un, .un, .un, .adr 1 [.d 51, .f 51 2], .val [] (sl true ⟨1, false⟩ s_2), .un, .un, .un]
noncomputable abbrev R89_22 (s_0 : List TV) (s_1 : List TV) (s_2 : List TV) : Nd := .rg [1, 0] [true, true, true, false, true, true, false, false, false, true, true, false, false, false] (ER89_22 s_0 s_1 s_2)
noncomputable def ER89_23 (s_0 : List TV) (s_1 : List TV) (s_2 : List TV) : Env := [.val [] (.st [sl true ⟨1, false⟩ s_0, sl true ⟨1, false⟩ s_1, sl true ⟨1, false⟩ s_2]), .val [] (.pt false () (.st [sl true ⟨1, false⟩ s_0, sl true ⟨1, false⟩ s_1, sl true ⟨1, false⟩ s_2])), .val [] (.pt false () (.st [sl false ⟨1, false⟩ ([]), sl false ⟨1, false⟩ ([]), sl false ⟨1, false⟩ ([])])), .un, .adr 1 [.d 51, .f 51 0], .val [] (sl true ⟨1, false⟩ s_0), .val [] (sl false ⟨1, false⟩ (([]) ++ s_0)), .un, .adr 1 [.d 51, .f 51 1], .val [] (sl true ⟨1, false⟩ s_1), .un, .un, .adr 1 [.d 51, .f 51 2], .un, .un, .un, .un]
noncomputable abbrev R89_23 (s_0 : List TV) (s_1 : List TV) (s_2 : List TV) : Nd := .rg [1, 0] [true, true, true, true, false, true, true, false, false, true, false, false, false, false] (ER89_23 s_0 s_1 s_2)
noncomputable def ER89_24 (s_0 : List TV) (s_1 : List TV) (s_2 : List TV) : Env := [.val [] (.st [sl true ⟨1, false⟩ s_0, sl true ⟨1, false⟩ s_1, sl true ⟨1, false⟩ s_2]), .val [] (.pt false () (.st [sl true ⟨1, false⟩ s_0, sl true ⟨1, false⟩ s_1, sl true ⟨1, false⟩ s_2])), .val [] (.pt false () (.st [sl false ⟨1, false⟩ ([]), sl false ⟨1, false⟩ ([]), sl false ⟨1, false⟩ ([])])), .val [] (sl false ⟨1, false⟩ ([])), .adr 1 [.d 51, .f 51 0], .val [] (sl true ⟨1, false⟩ s_0), .un, .un, .adr 1 [.d 51, .f 51 1], .val [] (sl true ⟨1, false⟩ s_1), .un, .val [] (sl false ⟨1, false⟩ ([])), .adr 1 [.d 51, .f 51 2], .un, .un, .un, .un]
noncomputable abbrev R89_24 (s_0 : List TV) (s_1 : List TV) (s_2 : List TV) : Nd := .rg [1, 0] [true, true, true, false, false, true, true, false, true, true, false, false, false, false] (ER89_24 s_0 s_1 s_2)
noncomputable def ER89_25 (s_0 : List TV) (s_1 : List TV) (s_2 : List TV) : Env := [.val [] (.st [sl true ⟨1, false⟩ s_0, sl true ⟨1, false⟩ s_1, sl true ⟨1, false⟩ s_2]), .val [] (.pt false () (.st [sl true ⟨1, false⟩ s_0, sl true ⟨1, false⟩ s_1, sl true ⟨1, false⟩ s_2])), .val [] (.pt false () (.st [sl false ⟨1, false⟩ ([]), sl false ⟨1, false⟩ ([]), sl false ⟨1, false⟩ ([])])), .val [] (sl false ⟨1, false⟩ ([])), .adr 1 [.d 51, .f 51 0], .val [] (sl true ⟨1, false⟩ s_0), .un, .un, .adr 1 [.d 51, .f 51 1], .val [] (sl true ⟨1, false⟩ s_1), .un, .un, .adr 1 [.d 51, .f 51 2], .val [] (sl true ⟨1, false⟩ s_2), .un, .un, .un]
noncomputable abbrev R89_25 (s_0 : List TV) (s_1 : List TV) (s_2 : List TV) : Nd := .rg [1, 0] [true, true, true, false, false, true, true, false, false, true, true, false, false, false] (ER89_25 s_0 s_1 s_2)
noncomputable def ER89_26 (s_0 : List TV) (s_1 : List TV) (s_2 : List TV) : Env := [.val [] (.st [sl true ⟨1, false⟩ s_0, sl true ⟨1, false⟩ s_1, sl true ⟨1, false⟩ s_2]), .val [] (.pt false () (.st [sl true ⟨1, false⟩ s_0, sl true ⟨1, false⟩ s_1, sl true ⟨1, false⟩ s_2])), .val [] (.pt false () (.st [sl false ⟨1, false⟩ ([]), sl false ⟨1, false⟩ ([]), sl false ⟨1, false⟩ ([])])), .un, .adr 1 [.d 51, .f 51 0], .val [] (sl true ⟨1, false⟩ s_0), .val [] (sl false ⟨1, false⟩ (([]) ++ s_0)), .un, .adr 1 [.d 51, .f 51 1], .un, .un, .val [] (sl false ⟨1, false⟩ ([])), .adr 1 [.d 51, .f 51 2], .un, .un, .un, .un]
noncomputable abbrev R89_26 (s_0 : List TV) (s_1 : List TV) (s_2 : List TV) : Nd := .rg [1, 0] [true, true, true, true, false, true, false, false, true, true, false, false, false, false] (ER89_26 s_0 s_1 s_2)
noncomputable def ER89_27 (s_0 : List TV) (s_1 : List TV) (s_2 : List TV) : Env := [.val [] (.st [sl true ⟨1, false⟩ s_0, sl true ⟨1, false⟩ s_1, sl true ⟨1, false⟩ s_2]), .val [] (.pt false () (.st [sl true ⟨1, false⟩ s_0, sl true ⟨1, false⟩ s_1, sl true ⟨1, false⟩ s_2])), .val [] (.pt false () (.st [sl false ⟨1, false⟩ ([]), sl false ⟨1, false⟩ ([]), sl false ⟨1, false⟩ ([])])), .val [] (sl false ⟨1, false⟩ ([])), .adr 1 [.d 51, .f 51 0], .val [] (sl true ⟨1, false⟩ s_0), .un, .un, .adr 1 [.d 51, .f 51 1], .un, .un, .val [] (sl false ⟨1, false⟩ ([])), .adr 1 [.d 51, .f 51 2], .val [] (sl true ⟨1, false⟩ s_2), .un, .un, .un]
noncomputable abbrev R89_27 (s_0 : List TV) (s_1 : List TV) (s_2 : List TV) : Nd := .rg [1, 0] [true, true, true, false, false, true, false, false, true, true, true, false, false, false] (ER89_27 s_0 s_1 s_2)
noncomputable def ER89_28 (s_0 : List TV) (s_1 : List TV) (s_2 : List TV) : Env := [.val [] (.st [sl true ⟨1, false⟩ s_0, sl true ⟨1, false⟩ s_1, sl true ⟨1, false⟩ s_2]), .val [] (.pt false () (.st [sl true ⟨1, false⟩ s_0, sl true ⟨1, false⟩ s_1, sl true ⟨1, false⟩ s_2])), .val [] (.pt false () (.st [sl false ⟨1, false⟩ ([]), sl false ⟨1, false⟩ ([]), sl false ⟨1, false⟩ ([])])), .un, .adr 1 [.d 51, .f 51 0], .val [] (sl true ⟨1, false⟩ s_0), .val [] (sl false ⟨1, false⟩ (([]) ++ s_0)), .un, .adr 1 [.d 51, .f 51 1], .un, .un, .un, .adr 1 [.d 51, .f 51 2], .val [] (sl true ⟨1, false⟩ s_2), .un, .un, .un]
noncomputable abbrev R89_28 (s_0 : List TV) (s_1 : List TV) (s_2 : List TV) : Nd := .rg [1, 0] [true, true, true, true, false, true, false, false, false, true, true, false, false, false] (ER89_28 s_0 s_1 s_2)
noncomputable def ER89_29 (s_0 : List TV) (s_1 : List TV) (s_2 : List TV) : Env := [.val [] (.st [sl true ⟨1, false⟩ s_0, sl true ⟨1, false⟩ s_1, sl true ⟨1, false⟩ s_2]), .val [] (.pt false () (.st [sl true ⟨1, false⟩ s_0, sl true ⟨1, false⟩ s_1, sl true ⟨1, false⟩ s_2])), .val [] (.pt false () (.st [sl false ⟨1, false⟩ ([]), sl false ⟨1, false⟩ ([]), sl false ⟨1, false⟩ ([])])), .un, .adr 1 [.d 51, .f 51 0], .val [] (sl true ⟨1, false⟩ s_0), .un, .val [] (sl false ⟨1, false⟩ ([])), .adr 1 [.d 51, .f 51 1], .val [] (sl true ⟨1, false⟩ s_1), .un, .val [] (sl false ⟨1, false⟩ ([])), .adr 1 [.d 51, .f 51 2], .un, .un, .un, .un]
noncomputable abbrev R89_29 (s_0 : List TV) (s_1 : List TV) (s_2 : List TV) : Nd := .rg [1, 0] [false, true, true, false, true, true, true, false, true, true, false, false, false, false] (ER89_29 s_0 s_1 s_2)
noncomputable def ER89_30 (s_0 : List TV) (s_1 : List TV) (s_2 : List TV) : Env := [.val [] (.st [sl true ⟨1, false⟩ s_0, sl true ⟨1, false⟩ s_1, sl true ⟨1, false⟩ s_2]), .val [] (.pt false () (.st [sl true ⟨1, false⟩ s_0, sl true ⟨1, false⟩ s_1, sl true ⟨1, false⟩ s_2])), .val [] (.pt false () (.st [sl false ⟨1, false⟩ ([]), sl false ⟨1, false⟩ ([]), sl false ⟨1, false⟩ ([])])), .un, .adr 1 [.d 51, .f 51 0], .val [] (sl true ⟨1, false⟩ s_0), .un, .val [] (sl false ⟨1, false⟩ ([])), .adr 1 [.d 51, .f 51 1], .val [] (sl true ⟨1, false⟩ s_1), .un, .un, .adr 1 [.d 51, .f 51 2], .val [] (sl true ⟨1, false⟩ s_2), .un, .un, .un]
noncomputable abbrev R89_30 (s_0 : List TV) (s_1 : List TV) (s_2 : List TV) : Nd := .rg [1, 0] [false, true, true, false, true, true, true, false, false, true, true, false, false, false] (ER89_30 s_0 s_1 s_2)
noncomputable def ER89_31 (s_0 : List TV) (s_1 : List TV) (s_2 : List TV) : Env := [.val [] (.st [sl true ⟨1, false⟩ s_0, sl true ⟨1, false⟩ s_1, sl true ⟨1, false⟩ s_2]), .val [] (.pt false () (.st [sl true ⟨1, false⟩ s_0, sl true ⟨1, false⟩ s_1, sl true ⟨1, false⟩ s_2])), .val [] (.pt false () (.st [sl false ⟨1, false⟩ ([]), sl false ⟨1, false⟩ ([]), sl false ⟨1, false⟩ ([])])), .un, .adr 1 [.d 51, .f 51 0], .val [] (sl true ⟨1, false⟩ s_0), .un, .val [] (sl false ⟨1, false⟩ ([])), .adr 1 [.d 51, .f 51 1], .un, .un, .val [] (sl false ⟨1, false⟩ ([])), .adr 1 [.d 51, .f 51 2], .val [] (sl true ⟨1, false⟩ s_2), .un, .un, .un]
noncomputable abbrev R89_31 (s_0 : List TV) (s_1 : List TV) (s_2 : List TV) : Nd := .rg [1, 0] [false, true, true, false, true, true, false, false, true, true, true, false, false, false] (ER89_31 s_0 s_1 s_2)
noncomputable def ER89_32 (s_0 : List TV) (s_1 : List TV) (s_2 : List TV) : Env := [.val [] (.st [sl true ⟨1, false⟩ s_0, sl true ⟨1, false⟩ s_1, sl true ⟨1, false⟩ s_2]), .val [] (.pt false () (.st [sl true ⟨1, false⟩ s_0, sl true ⟨1, false⟩ s_1, sl true ⟨1, false⟩ s_2])), .val [] (.pt false () (.st [sl false ⟨1, false⟩ ([]), sl false ⟨1, false⟩ ([]), sl false ⟨1, false⟩ ([])])), .un, .adr 1 [.d 51, .f 51 0], .val [] (sl true ⟨1, false⟩ s_0), .un, .un, .adr 1 [.d 51, .f 51 1], .val [] (sl true ⟨1, false⟩ s_1), .un, .val [] (sl false ⟨1, false⟩ ([])), .adr 1 [.d 51, .f 51 2], .val [] (sl true ⟨1, false⟩ s_2), .un, .un, .un]
noncomputable abbrev R89_32 (s_0 : List TV) (s_1 : List TV) (s_2 : List TV) : Nd := .rg [1, 0] [false, true, true, false, false, true, true, false, true, true, true, false, false, false] (ER89_32 s_0 s_1 s_2)
noncomputable def ER89_33 (s_0 : List TV) (s_1 : List TV) (s_2 : List TV) : Env := [.val [] (.st [sl true ⟨1, false⟩ s_0, sl true ⟨1, false⟩ s_1, sl true ⟨1, false⟩ s_2]), .val [] (.pt false () (.st [sl true ⟨1, false⟩ s_0, sl true ⟨1, false⟩ s_1, sl true ⟨1, false⟩ s_2])), .val [] (.pt false () (.st [sl false ⟨1, false⟩ ([]), sl false ⟨1, false⟩ ([]), sl false ⟨1, false⟩ ([])])), .un, .adr 1 [.d 51, .f 51 0], .val [] (sl true ⟨1, false⟩ s_0), .val [] (sl false ⟨1, false⟩ (([]) ++ s_0)), .un, .adr 1 [.d 51, .f 51 1], .val [] (sl true ⟨1, false⟩ s_1), .val [] (sl false ⟨1, false⟩ (([]) ++ s_1)), .un, .adr 1 [.d 51, .f 51 2], .un, .un, .un, .un]
noncomputable abbrev R89_33 (s_0 : List TV) (s_1 : List TV) (s_2 : List TV) : Nd := .rg [1, 0] [true, true, true, true, true, true, true, true, false, true, false, false, false, false] (ER89_33 s_0 s_1 s_2)
noncomputable def ER89_34 (s_0 : List TV) (s_1 : List TV) (s_2 : List TV) : Env := [.val [] (.st [sl true ⟨1, false⟩ s_0, sl true ⟨1, false⟩ s_1, sl true ⟨1, false⟩ s_2]), .val [] (.pt false () (.st [sl true ⟨1, false⟩ s_0, sl true ⟨1, false⟩ s_1, sl true ⟨1, false⟩ s_2])), .val [] (.pt false () (.st [sl false ⟨1, false⟩ ([]), sl false ⟨1, false⟩ ([]), sl false ⟨1, false⟩ ([])])), .un, .adr 1 [.d 51, .f 51 0], .val [] (sl true ⟨1, false⟩ s_0), .val [] (sl false ⟨1, false⟩ (([]) ++ s_0)), .val [] (sl false ⟨1, false⟩ ([])), .adr 1 [.d 51, .f 51 1], .val [] (sl true ⟨1, false⟩ s_1), .un, .val [] (sl false ⟨1, false⟩ ([])), .adr 1 [.d 51, .f 51 2], .un, .un, .un, .un]
noncomputable abbrev R89_34 (s_0 : List TV) (s_1 : List TV) (s_2 : List TV) : Nd := .rg [1, 0] [true, true, true, true, true, true, true, false, true, true, false, false, false, false] (ER89_34 s_0 s_1 s_2)
noncomputable def ER89_35 (s_0 : List TV) (s_1 : List TV) (s_2 : List TV) : Env := [.val [] (.st [sl true ⟨1, false⟩ s_0, sl true ⟨1, false⟩ s_1, sl true ⟨1, false⟩ s_2]), .val [] (.pt false () (.st [sl true ⟨1, false⟩ s_0, sl true ⟨1, false⟩ s_1, sl true ⟨1, false⟩ s_2])), .val [] (.pt false () (.st [sl false ⟨1, false⟩ ([]), sl false ⟨1, false⟩ ([]), sl false ⟨1, false⟩ ([])])), .un, .adr 1 [.d 51, .f 51 0], .val [] (sl true ⟨1, false⟩ s_0), .val [] (sl false ⟨1, false⟩ (([]) ++ s_0)), .val [] (sl false ⟨1, false⟩ ([])), .adr 1 [.d 51, .f 51 1], .val [] (sl true ⟨1, false⟩ s_1), .un, .un, .adr 1 [.d 51, .f 51 2], .val [] (sl true ⟨1, false⟩ s_2), .un, .un, .un]
noncomputable abbrev R89_35 (s_0 : List TV) (s_1 : List TV) (s_2 : List TV) : Nd := .rg [1, 0] [true, true, true, true, true, true, true, false, false, true, true, false, false, false] (ER89_35 s_0 s_1 s_2)
noncomputable def ER89_36 (s_0 : List TV) (s_1 : List TV) (s_2 : List TV) : Env := [.val [] (.st [sl true ⟨1, false⟩ s_0, sl true ⟨1, false⟩ s_1, sl true ⟨1, false⟩ s_2]), .val [] (.pt false () (.st [sl true ⟨1, false⟩ s_0, sl true ⟨1, false⟩ s_1, sl true ⟨1, false⟩ s_2])), .val [] (.pt false () (.st [sl false ⟨1, false⟩ ([]), sl false ⟨1, false⟩ ([]), sl false ⟨1, false⟩ ([])])), .un, .adr 1 [.d 51, .f 51 0], .val [] (sl true ⟨1, false⟩ s_0), .val [] (sl false ⟨1, false⟩ (([]) ++ s_0)), .un, .adr 1 [.d 51, .f 51 1], .val [] (sl true ⟨1, false⟩ s_1), .un, .val [] (sl false ⟨1, false⟩ ([])), .adr 1 [.d 51, .f 51 2], .val [] (sl true ⟨1, false⟩ s_2), .un, .un, .un]
noncomputable abbrev R89_36 (s_0 : List TV) (s_1 : List TV) (s_2 : List TV) : Nd := .rg [1, 0] [true, true, true, true, false, true, true, false, true, true, true, false, false, false] (ER89_36 s_0 s_1 s_2)
noncomputable def ER89_37 (s_0 : List TV) (s_1 : List TV) (s_2 : List TV) : Env := [.val [] (.st [sl true ⟨1, false⟩ s_0, sl true ⟨1, false⟩ s_1, sl true ⟨1, false⟩ s_2]), .val [] (.pt false () (.st [sl true ⟨1, false⟩ s_0, sl true ⟨1, false⟩ s_1, sl true ⟨1, false⟩ s_2])), .val [] (.pt false () (.st [sl false ⟨1, false⟩ ([]), sl false ⟨1, false⟩ ([]), sl false ⟨1, false⟩ ([])])), .val [] (sl false ⟨1, false⟩ ([])), .adr 1 [.d 51, .f 51 0], .val [] (sl true ⟨1, false⟩ s_0), .un, .val [] (sl false ⟨1, false⟩ ([])), .adr 1 [.d 51, .f 51 1], .val [] (sl true ⟨1, false⟩ s_1), .un, .val [] (sl false ⟨1, false⟩ ([])), .adr 1 [.d 51, .f 51 2], .un, .un, .un, .un]
noncomputable abbrev R89_37 (s_0 : List TV) (s_1 : List TV) (s_2 : List TV) : Nd := .rg [1, 0] [true, true, true, false, true, true, true, false, true, true, false, false, false, false] (ER89_37 s_0 s_1 s_2)
noncomputable def ER89_38 (s_0 : List TV) (s_1 : List TV) (s_2 : List TV) : Env := [.val [] (.st [sl true ⟨1, false⟩ s_0, sl true ⟨1, false⟩ s_1, sl true ⟨1, false⟩ s_2]), .val [] (.pt false () (.st [sl true ⟨1, false⟩ s_0, sl true ⟨1, false⟩ s_1, sl true ⟨1, false⟩ s_2])), .val [] (.pt false () (.st [sl false ⟨1, false⟩ ([]), sl false ⟨1, false⟩ ([]), sl false ⟨1, false⟩ ([])])), .val [] (sl false ⟨1, false⟩ ([])), .adr 1 [.d 51, .f 51 0], .val [] (sl true ⟨1, false⟩ s_0), .un, .val [] (sl false ⟨1, false⟩ ([])), .adr 1 [.d 51, .f 51 1], .val [] (sl true ⟨1, false⟩ s_1), .un, .un, .adr 1 [.d 51, .f 51 2], .val [] (sl true ⟨1, false⟩ s_2), .un, .un, .un]
noncomputable abbrev R89_38 (s_0 : List TV) (s_1 : List TV) (s_2 : List TV) : Nd := .rg [1, 0] [true, true, true, false, true, true, true, false, false, true, true, false, false, false] (ER89_38 s_0 s_1 s_2)
noncomputable def ER89_39 (s_0 : List TV) (s_1 : List TV) (s_2 : List TV) : Env := [.val [] (.st [sl true ⟨1, false⟩ s_0, sl true ⟨1, false⟩ s_1, sl true ⟨1, false⟩ s_2]), .val [] (.pt false () (.st [sl true ⟨1, false⟩ s_0, sl true ⟨1, false⟩ s_1, sl true ⟨1, false⟩ s_2])), .val [] (.pt false () (.st [sl false ⟨1, false⟩ ([]), sl false ⟨1, false⟩ ([]), sl false ⟨1, false⟩ ([])])), .un, .adr 1 [.d 51, .f 51 0], .val [] (sl true ⟨1, false⟩ s_0), .val [] (sl false ⟨1, false⟩ (([]) ++ s_0)), .val [] (sl false ⟨1, false⟩ ([])), .adr 1 [.d 51, .f 51 1], .un, .un, .val [] (sl false ⟨1, false⟩ ([])), .adr 1 [.d 51, .f 51 2], .un, .un, .un, .un]
noncomputable abbrev R89_39 (s_0 : List TV) (s_1 : List TV) (s_2 : List TV) : Nd := .rg [1, 0] [true, true, true, true, true, true, false, false, true, true, false, false, false, false] (ER89_39 s_0 s_1 s_2)
noncomputable def ER89_40 (s_0 : List TV) (s_1 : List TV) (s_2 : List TV) : Env := [.val [] (.st [sl true ⟨1, false⟩ s_0, sl true ⟨1, false⟩ s_1, sl true ⟨1, false⟩ s_2]), .val [] (.pt false () (.st [sl true ⟨1, false⟩ s_0, sl true ⟨1, false⟩ s_1, sl true ⟨1, false⟩ s_2])), .val [] (.pt false () (.st [sl false ⟨1, false⟩ ([]), sl false ⟨1, false⟩ ([]), sl false ⟨1, false⟩ ([])])), .val [] (sl false ⟨1, false⟩ ([])), .adr 1 [.d 51, .f 51 0], .val [] (sl true ⟨1, false⟩ s_0), .un, .val [] (sl false ⟨1, false⟩ ([])), .adr 1 [.d 51, .f 51 1], .un, .un, .val [] (sl false ⟨1, false⟩ ([])), .adr 1 [.d 51, .f 51 2], .val [] (sl true ⟨1, false⟩ s_2), .un, .un, .un]
noncomputable abbrev R89_40 (s_0 : List TV) (s_1 : List TV) (s_2 : List TV) : Nd := .rg [1, 0] [true, true, true, false, true, true, false, false, true, true, true, false, false, false] (ER89_40 s_0 s_1 s_2)
noncomputable def ER89_41 (s_0 : List TV) (s_1 : List TV) (s_2 : List TV) : Env := [.val [] (.st [sl true ⟨1, false⟩ s_0, sl true ⟨1, false⟩ s_1, sl true ⟨1, false⟩ s_2]), .val [] (.pt false () (.st [sl true ⟨1, false⟩ s_0, sl true ⟨1, false⟩ s_1, sl true ⟨1, false⟩ s_2])), .val [] (.pt false () (.st [sl false ⟨1, false⟩ ([]), sl false ⟨1, false⟩ ([]), sl false ⟨1, false⟩ ([])])), .un, .adr 1 [.d 51, .f 51 0], .val [] (sl true ⟨1, false⟩ s_0), .val [] (sl false ⟨1, false⟩ (([]) ++ s_0)), .val [] (sl false ⟨1, false⟩ ([])), .adr 1 [.d 51, .f 51 1], .un, .un, .un, .adr 1 [.d 51, .f 51 2], .val [] (sl true ⟨1, false⟩ s_2), .un, .un, .un]
noncomputable abbrev R89_41 (s_0 : List TV) (s_1 : List TV) (s_2 : List TV) : Nd := .rg [1, 0] [true, true, true, true, true, true, false, false, false, true, true, false, false, false] (ER89_41 s_0 s_1 s_2)
noncomputable def ER89_42 (s_0 : List TV) (s_1 : List TV) (s_2 : List TV) : Env := [.val [] (.st [sl true ⟨1, false⟩ s_0, sl true ⟨1, false⟩ s_1, sl true ⟨1, false⟩ s_2]), .val [] (.pt false () (.st [sl true ⟨1, false⟩ s_0, sl true ⟨1, false⟩ s_1, sl true ⟨1, false⟩ s_2])), .val [] (.pt false () (.st [sl false ⟨1, false⟩ ([]), sl false ⟨1, false⟩ ([]), sl false ⟨1, false⟩ ([])])), .val [] (sl false ⟨1, false⟩ ([])), .adr 1 [.d 51, .f 51 0], .val [] (sl true ⟨1, false⟩ s_0), .un, .un, .adr 1 [.d 51, .f 51 1], .val [] (sl true ⟨1, false⟩ s_1), .un, .val [] (sl false ⟨1, false⟩ ([])), .adr 1 [.d 51, .f 51 2], .val [] (sl true ⟨1, false⟩ s_2), .un, .un, .un]
noncomputable abbrev R89_42 (s_0 : List TV) (s_1 : List TV) (s_2 : List TV) : Nd := .rg [1, 0] [true, true, true, false, false, true, true, false, true, true, true, false, false, false] (ER89_42 s_0 s_1 s_2)
noncomputable def ER89_43 (s_0 : List TV) (s_1 : List TV) (s_2 : List TV) : Env := [.val [] (.st [sl true ⟨1, false⟩ s_0, sl true ⟨1, false⟩ s_1, sl true ⟨1, false⟩ s_2]), .val [] (.pt false () (.st [sl true ⟨1, false⟩ s_0, sl true ⟨1, false⟩ s_1, sl true ⟨1, false⟩ s_2])), .val [] (.pt false () (.st [sl false ⟨1, false⟩ ([]), sl false ⟨1, false⟩ ([]), sl false ⟨1, false⟩ ([])])), .un, .adr 1 [.d 51, .f 51 0], .val [] (sl true ⟨1, false⟩ s_0), .val [] (sl false ⟨1, false⟩ (([]) ++ s_0)), .un, .adr 1 [.d 51, .f 51 1], .un, .un, .val [] (sl false ⟨1, false⟩ ([])), .adr 1 [.d 51, .f 51 2], .val [] (sl true ⟨1, false⟩ s_2), .un, .un, .un]
noncomputable abbrev R89_43 (s_0 : List TV) (s_1 : List TV) (s_2 : List TV) : Nd := .rg [1, 0] [true, true, true, true, false, true, false, false, true, true, true, false, false, false] (ER89_43 s_0 s_1 s_2)
noncomputable def ER89_44 (s_0 : List TV) (s_1 : List TV) (s_2 : List TV) : Env := [.val [] (.st [sl true ⟨1, false⟩ s_0, sl true ⟨1, false⟩ s_1, sl true ⟨1, false⟩ s_2]), .val [] (.pt false () (.st [sl true ⟨1, false⟩ s_0, sl true ⟨1, false⟩ s_1, sl true ⟨1, false⟩ s_2])), .val [] (.pt false () (.st [sl false ⟨1, false⟩ ([]), sl false ⟨1, false⟩ ([]), sl false ⟨1, false⟩ ([])])), .un, .adr 1 [.d 51, .f 51 0], .val [] (sl true ⟨1, false⟩ s_0), .un, .val [] (sl false ⟨1, false⟩ ([])), .adr 1 [.d 51, .f 51 1], .val [] (sl true ⟨1, false⟩ s_1), .un, .val [] (sl false ⟨1, false⟩ ([])), .adr 1 [.d 51, .f 51 2], .val [] (sl true ⟨1, false⟩ s_2), .un, .un, .un]
noncomputable abbrev R89_44 (s_0 : List TV) (s_1 : List TV) (s_2 : List TV) : Nd := .rg [1, 0] [false, true, true, false, true, true, true, false, true, true, true, false, false, false] (ER89_44 s_0 s_1 s_2)
noncomputable def ER89_45 (s_0 : List TV) (s_1 : List TV) (s_2 : List TV) : Env := [.val [] (.st [sl true ⟨1, false⟩ s_0, sl true ⟨1, false⟩ s_1, sl true ⟨1, false⟩ s_2]), .val [] (.pt false () (.st [sl true ⟨1, false⟩ s_0, sl true ⟨1, false⟩ s_1, sl true ⟨1, false⟩ s_2])), .val [] (.pt false () (.st [sl false ⟨1, false⟩ ([]), sl false ⟨1, false⟩ ([]), sl false ⟨1, false⟩ ([])])), .un, .adr 1 [.d 51, .f 51 0], .val [] (sl true ⟨1, false⟩ s_0), .val [] (sl false ⟨1, false⟩ (([]) ++ s_0)), .un, .adr 1 [.d 51, .f 51 1], .val [] (sl true ⟨1, false⟩ s_1), .val [] (sl false ⟨1, false⟩ (([]) ++ s_1)), .val [] (sl false ⟨1, false⟩ ([])), .adr 1 [.d 51, .f 51 2], .un, .un, .un, .un]
noncomputable abbrev R89_45 (s_0 : List TV) (s_1 : List TV) (s_2 : List TV) : Nd := .rg [1, 0] [true, true, true, true, true, true, true, true, true, true, false, false, false, false] (ER89_45 s_0 s_1 s_2)
noncomputable def ER89_46 (s_0 : List TV) (s_1 : List TV) (s_2 : List TV) : Env := [.val [] (.st [sl true ⟨1, false⟩ s_0, sl true ⟨1, false⟩ s_1, sl true ⟨1, false⟩ s_2]), .val [] (.pt false () (.st [sl true ⟨1, false⟩ s_0, sl true ⟨1, false⟩ s_1, sl true ⟨1, false⟩ s_2])), .val [] (.pt false () (.st [sl false ⟨1, false⟩ ([]), sl false ⟨1, false⟩ ([]), sl false ⟨1, false⟩ ([])])), .un, .adr 1 [.d 51, .f 51 0], .val [] (sl true ⟨1, false⟩ s_0), .val [] (sl false ⟨1, false⟩ (([]) ++ s_0)), .val [] (sl false ⟨1, false⟩ ([])), .adr 1 [.d 51, .f 51 1], .val [] (sl true ⟨1, false⟩ s_1), .un, .val [] (sl false ⟨1, false⟩ ([])), .adr 1 [.d 51, .f 51 2], .val [] (sl true ⟨1, false⟩ s_2), .un, .un, .un]
noncomputable abbrev R89_46 (s_0 : List TV) (s_1 : List TV) (s_2 : List TV) : Nd := .rg [1, 0] [true, true, true, true, true, true, true, false, true, true, true, false, false, false] (ER89_46 s_0 s_1 s_2)
noncomputable def ER89_47 (s_0 : List TV) (s_1 : List TV) (s_2 : List TV) : Env := [.val [] (.st [sl true ⟨1, false⟩ s_0, sl true ⟨1, false⟩ s_1, sl true ⟨1, false⟩ s_2]), .val [] (.pt false () (.st [sl true ⟨1, false⟩ s_0, sl true ⟨1, false⟩ s_1, sl true ⟨1, false⟩ s_2])), .val [] (.pt false () (.st [sl false ⟨1, false⟩ ([]), sl false ⟨1, false⟩ ([]), sl false ⟨1, false⟩ ([])])), .un, .adr 1 [.d 51, .f 51 0], .val [] (sl true ⟨1, false⟩ s_0), .val [] (sl false ⟨1, false⟩ (([]) ++ s_0)), .un, .adr 1 [.d 51, .f 51 1], .val [] (sl true ⟨1, false⟩ s_1), .val [] (sl false ⟨1, false⟩ (([]) ++ s_1)), .un, .adr 1 [.d 51, .f 51 2], .val [] (sl true ⟨1, false⟩ s_2), .un, .un, .un]
noncomputable abbrev R89_47 (s_0 : List TV) (s_1 : List TV) (s_2 : List TV) : Nd := .rg [1, 0] [true, true, true, true, true, true, true, true, false, true, true, false, false, false] (ER89_47 s_0 s_1 s_2)
noncomputable def ER89_48 (s_0 : List TV) (s_1 : List TV) (s_2 : List TV) : Env := [.val [] (.st [sl true ⟨1, false⟩ s_0, sl true ⟨1, false⟩ s_1, sl true ⟨1, false⟩ s_2]), .val [] (.pt false () (.st [sl true ⟨1, false⟩ s_0, sl true ⟨1, false⟩ s_1, sl true ⟨1, false⟩ s_2])), .val [] (.pt false () (.st [sl false ⟨1, false⟩ ([]), sl false ⟨1, false⟩ ([]), sl false ⟨1, false⟩ ([])])), .val [] (sl false ⟨1, false⟩ ([])), .adr 1 [.d 51, .f 51 0], .val [] (sl true ⟨1, false⟩ s_0), .un, .val [] (sl false ⟨1, false⟩ ([])), .adr 1 [.d 51, .f 51 1], .val [] (sl true ⟨1, false⟩ s_1), .un, .val [] (sl false ⟨1, false⟩ ([])), .adr 1 [.d 51, .f 51 2], .val [] (sl true ⟨1, false⟩ s_2), .un, .un, .un]
noncomputable abbrev R89_48 (s_0 : List TV) (s_1 : List TV) (s_2 : List TV) : Nd := .rg [1, 0] [true, true, true, false, true, true, true, false, true, true, true, false, false, false] (ER89_48 s_0 s_1 s_2)
noncomputable def ER89_49 (s_0 : List TV) (s_1 : List TV) (s_2 : List TV) : Env := [.val [] (.st [sl true ⟨1, false⟩ s_0, sl true ⟨1, false⟩ s_1, sl true ⟨1, false⟩ s_2]), .val [] (.pt false () (.st [sl true ⟨1, false⟩ s_0, sl true ⟨1, false⟩ s_1, sl true ⟨1, false⟩ s_2])), .val [] (.pt false () (.st [sl false ⟨1, false⟩ ([]), sl false ⟨1, false⟩ ([]), sl false ⟨1, false⟩ ([])])), .un, .adr 1 [.d 51, .f 51 0], .val [] (sl true ⟨1, false⟩ s_0), .val [] (sl false ⟨1, false⟩ (([]) ++ s_0)), .val [] (sl false ⟨1, false⟩ ([])), .adr 1 [.d 51, .f 51 1], .un, .un, .val [] (sl false ⟨1, false⟩ ([])), .adr 1 [.d 51, .f 51 2], .val [] (sl true ⟨1, false⟩ s_2), .un, .un, .un]
noncomputable abbrev R89_49 (s_0 : List TV) (s_1 : List TV) (s_2 : List TV) : Nd := .rg [1, 0] [true, true, true, true, true, true, false, false, true, true, true, false, false, false] (ER89_49 s_0 s_1 s_2)
noncomputable def N89 (s_0 : List TV) (s_1 : List TV) (s_2 : List TV) : Nd :=
  .amb5 
  (R89_0 s_0 s_1 s_2) 
  (R89_1 s_0 s_1 s_2) 
  (R89_2 s_0 s_1 s_2) 
  (R89_3 s_0 s_1 s_2) 
  (R89_4 s_0 s_1 s_2)
theorem e89 {s_0 : List TV} {s_1 : List TV} {s_2 : List TV} {r : Res} (h : S cx 89 (N89 s_0 s_1 s_2) = some r) : tw cx 89 [.st [sl true ⟨1, false⟩ s_0, sl true ⟨1, false⟩ s_1, sl true ⟨1, false⟩ s_2]] = some r :=
  tw_of (fun call hd hb pt rg => by kernel_rfl) h
noncomputable def NR89_0 (s_0 : List TV) (s_1 : List TV) (s_2 : List TV) : Nd :=
  .amb5 
  (.ck (decide ((0 + s_0.length) * 8 < lim)) <|
    R89_5 s_0 s_1 s_2) 
  (R89_6 s_0 s_1 s_2) 
  (R89_7 s_0 s_1 s_2) 
  (R89_8 s_0 s_1 s_2) 
  (R89_9 s_0 s_1 s_2)
theorem eR89_0 {s_0 : List TV} {s_1 : List TV} {s_2 : List TV} {r : Res} (h : S cx 89 (NR89_0 s_0 s_1 s_2) = some r) : S cx 89 (R89_0 s_0 s_1 s_2) = some r :=
  gw_of (fun call hd hb pt rg => by kernel_rfl) h
noncomputable def NR89_1 (s_0 : List TV) (s_1 : List TV) (s_2 : List TV) : Nd :=
  .amb4 
  (R89_6 s_0 s_1 s_2) 
  (R89_10 s_0 s_1 s_2) 
  (R89_11 s_0 s_1 s_2) 
  (R89_12 s_0 s_1 s_2)
theorem eR89_1 {s_0 : List TV} {s_1 : List TV} {s_2 : List TV} {r : Res} (h : S cx 89 (NR89_1 s_0 s_1 s_2) = some r) : S cx 89 (R89_1 s_0 s_1 s_2) = some r :=
  gw_of (fun call hd hb pt rg => by kernel_rfl) h
noncomputable def NR89_2 (s_0 : List TV) (s_1 : List TV) (s_2 : List TV) : Nd :=
  .amb4 
  (R89_7 s_0 s_1 s_2) 
  (R89_10 s_0 s_1 s_2) 
  (R89_13 s_0 s_1 s_2) 
  (R89_14 s_0 s_1 s_2)
theorem eR89_2 {s_0 : List TV} {s_1 : List TV} {s_2 : List TV} {r : Res} (h : S cx 89 (NR89_2 s_0 s_1 s_2) = some r) : S cx 89 (R89_2 s_0 s_1 s_2) = some r :=
  gw_of (fun call hd hb pt rg => by kernel_rfl) h
noncomputable def NR89_3 (s_0 : List TV) (s_1 : List TV) (s_2 : List TV) : Nd :=
  .amb4 
  (R89_8 s_0 s_1 s_2) 
  (R89_11 s_0 s_1 s_2) 
  (R89_13 s_0 s_1 s_2) 
  (R89_15 s_0 s_1 s_2)
theorem eR89_3 {s_0 : List TV} {s_1 : List TV} {s_2 : List TV} {r : Res} (h : S cx 89 (NR89_3 s_0 s_1 s_2) = some r) : S cx 89 (R89_3 s_0 s_1 s_2) = some r :=
  gw_of (fun call hd hb pt rg => by kernel_rfl) h
noncomputable def NR89_4 (s_0 : List TV) (s_1 : List TV) (s_2 : List TV) : Nd :=
  .amb4 
  (R89_9 s_0 s_1 s_2) 
  (R89_12 s_0 s_1 s_2) 
  (R89_14 s_0 s_1 s_2) 
  (R89_15 s_0 s_1 s_2)
theorem eR89_4 {s_0 : List TV} {s_1 : List TV} {s_2 : List TV} {r : Res} (h : S cx 89 (NR89_4 s_0 s_1 s_2) = some r) : S cx 89 (R89_4 s_0 s_1 s_2) = some r :=
  gw_of (fun call hd hb pt rg => by kernel_rfl) h
noncomputable def NR89_5 (s_0 : List TV) (s_1 : List TV) (s_2 : List TV) : Nd :=
  .amb3 
  (R89_16 s_0 s_1 s_2) 
  (R89_17 s_0 s_1 s_2) 
  (R89_18 s_0 s_1 s_2)
theorem eR89_5 {s_0 : List TV} {s_1 : List TV} {s_2 : List TV} {r : Res} (h : S cx 89 (NR89_5 s_0 s_1 s_2) = some r) : S cx 89 (R89_5 s_0 s_1 s_2) = some r :=
  gw_of (fun call hd hb pt rg => by kernel_rfl) h
noncomputable def NR89_6 (s_0 : List TV) (s_1 : List TV) (s_2 : List TV) : Nd :=
  .amb4 
  (.ck (decide ((0 + s_0.length) * 8 < lim)) <|
    R89_19 s_0 s_1 s_2) 
  (R89_20 s_0 s_1 s_2) 
  (R89_21 s_0 s_1 s_2) 
  (R89_22 s_0 s_1 s_2)
theorem eR89_6 {s_0 : List TV} {s_1 : List TV} {s_2 : List TV} {r : Res} (h : S cx 89 (NR89_6 s_0 s_1 s_2) = some r) : S cx 89 (R89_6 s_0 s_1 s_2) = some r :=
  gw_of (fun call hd hb pt rg => by kernel_rfl) h
noncomputable def NR89_7 (s_0 : List TV) (s_1 : List TV) (s_2 : List TV) : Nd :=
  .amb4 
  (.ck (decide ((0 + s_0.length) * 8 < lim)) <|
    R89_23 s_0 s_1 s_2) 
  (R89_20 s_0 s_1 s_2) 
  (R89_24 s_0 s_1 s_2) 
  (R89_25 s_0 s_1 s_2)
theorem eR89_7 {s_0 : List TV} {s_1 : List TV} {s_2 : List TV} {r : Res} (h : S cx 89 (NR89_7 s_0 s_1 s_2) = some r) : S cx 89 (R89_7 s_0 s_1 s_2) = some r :=
  gw_of (fun call hd hb pt rg => by kernel_rfl) h
noncomputable def NR89_8 (s_0 : List TV) (s_1 : List TV) (s_2 : List TV) : Nd :=
  .amb4 
  (.ck (decide ((0 + s_0.length) * 8 < lim)) <|
    R89_26 s_0 s_1 s_2) 
  (R89_21 s_0 s_1 s_2) 
  (R89_24 s_0 s_1 s_2) 
  (R89_27 s_0 s_1 s_2)
theorem eR89_8 {s_0 : List TV} {s_1 : List TV} {s_2 : List TV} {r : Res} (h : S cx 89 (NR89_8 s_0 s_1 s_2) = some r) : S cx 89 (R89_8 s_0 s_1 s_2) = some r :=
  gw_of (fun call hd hb pt rg => by kernel_rfl) h
noncomputable def NR89_9 (s_0 : List TV) (s_1 : List TV) (s_2 : List TV) : Nd :=
  .amb4 
  (.ck (decide ((0 + s_0.length) * 8 < lim)) <|
    R89_28 s_0 s_1 s_2) 
  (R89_22 s_0 s_1 s_2) 
  (R89_25 s_0 s_1 s_2) 
  (R89_27 s_0 s_1 s_2)
theorem eR89_9 {s_0 : List TV} {s_1 : List TV} {s_2 : List TV} {r : Res} (h : S cx 89 (NR89_9 s_0 s_1 s_2) = some r) : S cx 89 (R89_9 s_0 s_1 s_2) = some r :=
  gw_of (fun call hd hb pt rg => by kernel_rfl) h
noncomputable def NR89_10 (s_0 : List TV) (s_1 : List TV) (s_2 : List TV) : Nd :=
  .amb3 
  (R89_20 s_0 s_1 s_2) 
  (R89_29 s_0 s_1 s_2) 
  (R89_30 s_0 s_1 s_2)
theorem eR89_10 {s_0 : List TV} {s_1 : List TV} {s_2 : List TV} {r : Res} (h : S cx 89 (NR89_10 s_0 s_1 s_2) = some r) : S cx 89 (R89_10 s_0 s_1 s_2) = some r :=
  gw_of (fun call hd hb pt rg => by kernel_rfl) h
noncomputable def NR89_11 (s_0 : List TV) (s_1 : List TV) (s_2 : List TV) : Nd :=
  .amb3 
  (R89_21 s_0 s_1 s_2) 
  (R89_29 s_0 s_1 s_2) 
  (R89_31 s_0 s_1 s_2)
theorem eR89_11 {s_0 : List TV} {s_1 : List TV} {s_2 : List TV} {r : Res} (h : S cx 89 (NR89_11 s_0 s_1 s_2) = some r) : S cx 89 (R89_11 s_0 s_1 s_2) = some r :=
  gw_of (fun call hd hb pt rg => by kernel_rfl) h
noncomputable def NR89_12 (s_0 : List TV) (s_1 : List TV) (s_2 : List TV) : Nd :=
  .amb3 
  (R89_22 s_0 s_1 s_2) 
  (R89_30 s_0 s_1 s_2) 
  (R89_31 s_0 s_1 s_2)
theorem eR89_12 {s_0 : List TV} {s_1 : List TV} {s_2 : List TV} {r : Res} (h : S cx 89 (NR89_12 s_0 s_1 s_2) = some r) : S cx 89 (R89_12 s_0 s_1 s_2) = some r :=
  gw_of (fun call hd hb pt rg => by kernel_rfl) h
noncomputable def NR89_13 (s_0 : List TV) (s_1 : List TV) (s_2 : List TV) : Nd :=
  .amb3 
  (R89_24 s_0 s_1 s_2) 
  (R89_29 s_0 s_1 s_2) 
  (R89_32 s_0 s_1 s_2)
theorem eR89_13 {s_0 : List TV} {s_1 : List TV} {s_2 : List TV} {r : Res} (h : S cx 89 (NR89_13 s_0 s_1 s_2) = some r) : S cx 89 (R89_13 s_0 s_1 s_2) = some r :=
  gw_of (fun call hd hb pt rg => by kernel_rfl) h
noncomputable def NR89_14 (s_0 : List TV) (s_1 : List TV) (s_2 : List TV) : Nd :=
  .amb3 
  (R89_25 s_0 s_1 s_2) 
  (R89_30 s_0 s_1 s_2) 
  (R89_32 s_0 s_1 s_2)
theorem eR89_14 {s_0 : List TV} {s_1 : List TV} {s_2 : List TV} {r : Res} (h : S cx 89 (NR89_14 s_0 s_1 s_2) = some r) : S cx 89 (R89_14 s_0 s_1 s_2) = some r :=
  gw_of (fun call hd hb pt rg => by kernel_rfl) h
noncomputable def NR89_15 (s_0 : List TV) (s_1 : List TV) (s_2 : List TV) : Nd :=
  .amb3 
  (R89_27 s_0 s_1 s_2) 
  (R89_31 s_0 s_1 s_2) 
  (R89_32 s_0 s_1 s_2)
theorem eR89_15 {s_0 : List TV} {s_1 : List TV} {s_2 : List TV} {r : Res} (h : S cx 89 (NR89_15 s_0 s_1 s_2) = some r) : S cx 89 (R89_15 s_0 s_1 s_2) = some r :=
  gw_of (fun call hd hb pt rg => by kernel_rfl) h
noncomputable def NR89_16 (s_0 : List TV) (s_1 : List TV) (s_2 : List TV) : Nd :=
  .amb3 
  (.ck (decide ((0 + s_1.length) * 8 < lim)) <|
    R89_33 s_0 s_1 s_2) 
  (R89_34 s_0 s_1 s_2) 
  (R89_35 s_0 s_1 s_2)
theorem eR89_16 {s_0 : List TV} {s_1 : List TV} {s_2 : List TV} {r : Res} (h : S cx 89 (NR89_16 s_0 s_1 s_2) = some r) : S cx 89 (R89_16 s_0 s_1 s_2) = some r :=
  gw_of (fun call hd hb pt rg => by kernel_rfl) h
noncomputable def NR89_17 (s_0 : List TV) (s_1 : List TV) (s_2 : List TV) : Nd :=
  .amb2 
  (R89_34 s_0 s_1 s_2) 
  (R89_36 s_0 s_1 s_2)
theorem eR89_17 {s_0 : List TV} {s_1 : List TV} {s_2 : List TV} {r : Res} (h : S cx 89 (NR89_17 s_0 s_1 s_2) = some r) : S cx 89 (R89_17 s_0 s_1 s_2) = some r :=
  gw_of (fun call hd hb pt rg => by kernel_rfl) h
noncomputable def NR89_18 (s_0 : List TV) (s_1 : List TV) (s_2 : List TV) : Nd :=
  .amb2 
  (R89_35 s_0 s_1 s_2) 
  (R89_36 s_0 s_1 s_2)
theorem eR89_18 {s_0 : List TV} {s_1 : List TV} {s_2 : List TV} {r : Res} (h : S cx 89 (NR89_18 s_0 s_1 s_2) = some r) : S cx 89 (R89_18 s_0 s_1 s_2) = some r :=
  gw_of (fun call hd hb pt rg => by kernel_rfl) h
noncomputable def NR89_19 (s_0 : List TV) (s_1 : List TV) (s_2 : List TV) : Nd :=
  .amb3 
  (.ck (decide ((0 + s_1.length) * 8 < lim)) <|
    R89_33 s_0 s_1 s_2) 
  (R89_34 s_0 s_1 s_2) 
  (R89_35 s_0 s_1 s_2)
theorem eR89_19 {s_0 : List TV} {s_1 : List TV} {s_2 : List TV} {r : Res} (h : S cx 89 (NR89_19 s_0 s_1 s_2) = some r) : S cx 89 (R89_19 s_0 s_1 s_2) = some r :=
  gw_of (fun call hd hb pt rg => by kernel_rfl) h
noncomputable def NR89_20 (s_0 : List TV) (s_1 : List TV) (s_2 : List TV) : Nd :=
  .amb3 
  (.ck (decide ((0 + s_0.length) * 8 < lim)) <|
    R89_16 s_0 s_1 s_2) 
  (R89_37 s_0 s_1 s_2) 
  (R89_38 s_0 s_1 s_2)
theorem eR89_20 {s_0 : List TV} {s_1 : List TV} {s_2 : List TV} {r : Res} (h : S cx 89 (NR89_20 s_0 s_1 s_2) = some r) : S cx 89 (R89_20 s_0 s_1 s_2) = some r :=
  gw_of (fun call hd hb pt rg => by kernel_rfl) h
noncomputable def NR89_21 (s_0 : List TV) (s_1 : List TV) (s_2 : List TV) : Nd :=
  .amb3 
  (.ck (decide ((0 + s_0.length) * 8 < lim)) <|
    R89_39 s_0 s_1 s_2) 
  (R89_37 s_0 s_1 s_2) 
  (R89_40 s_0 s_1 s_2)
theorem eR89_21 {s_0 : List TV} {s_1 : List TV} {s_2 : List TV} {r : Res} (h : S cx 89 (NR89_21 s_0 s_1 s_2) = some r) : S cx 89 (R89_21 s_0 s_1 s_2) = some r :=
  gw_of (fun call hd hb pt rg => by kernel_rfl) h
noncomputable def NR89_22 (s_0 : List TV) (s_1 : List TV) (s_2 : List TV) : Nd :=
  .amb3 
  (.ck (decide ((0 + s_0.length) * 8 < lim)) <|
    R89_41 s_0 s_1 s_2) 
  (R89_38 s_0 s_1 s_2) 
  (R89_40 s_0 s_1 s_2)
theorem eR89_22 {s_0 : List TV} {s_1 : List TV} {s_2 : List TV} {r : Res} (h : S cx 89 (NR89_22 s_0 s_1 s_2) = some r) : S cx 89 (R89_22 s_0 s_1 s_2) = some r :=
  gw_of (fun call hd hb pt rg => by kernel_rfl) h
noncomputable def NR89_23 (s_0 : List TV) (s_1 : List TV) (s_2 : List TV) : Nd :=
  .amb3 
  (R89_16 s_0 s_1 s_2) 
  (R89_17 s_0 s_1 s_2) 
  (R89_18 s_0 s_1 s_2)
theorem eR89_23 {s_0 : List TV} {s_1 : List TV} {s_2 : List TV} {r : Res} (h : S cx 89 (NR89_23 s_0 s_1 s_2) = some r) : S cx 89 (R89_23 s_0 s_1 s_2) = some r :=
  gw_of (fun call hd hb pt rg => by kernel_rfl) h
noncomputable def NR89_24 (s_0 : List TV) (s_1 : List TV) (s_2 : List TV) : Nd :=
  .amb3 
  (.ck (decide ((0 + s_0.length) * 8 < lim)) <|
    R89_17 s_0 s_1 s_2) 
  (R89_37 s_0 s_1 s_2) 
  (R89_42 s_0 s_1 s_2)
theorem eR89_24 {s_0 : List TV} {s_1 : List TV} {s_2 : List TV} {r : Res} (h : S cx 89 (NR89_24 s_0 s_1 s_2) = some r) : S cx 89 (R89_24 s_0 s_1 s_2) = some r :=
  gw_of (fun call hd hb pt rg => by kernel_rfl) h
noncomputable def NR89_25 (s_0 : List TV) (s_1 : List TV) (s_2 : List TV) : Nd :=
  .amb3 
  (.ck (decide ((0 + s_0.length) * 8 < lim)) <|
    R89_18 s_0 s_1 s_2) 
  (R89_38 s_0 s_1 s_2) 
  (R89_42 s_0 s_1 s_2)
theorem eR89_25 {s_0 : List TV} {s_1 : List TV} {s_2 : List TV} {r : Res} (h : S cx 89 (NR89_25 s_0 s_1 s_2) = some r) : S cx 89 (R89_25 s_0 s_1 s_2) = some r :=
  gw_of (fun call hd hb pt rg => by kernel_rfl) h
noncomputable def NR89_26 (s_0 : List TV) (s_1 : List TV) (s_2 : List TV) : Nd :=
  .amb2 
  (R89_34 s_0 s_1 s_2) 
  (R89_36 s_0 s_1 s_2)
theorem eR89_26 {s_0 : List TV} {s_1 : List TV} {s_2 : List TV} {r : Res} (h : S cx 89 (NR89_26 s_0 s_1 s_2) = some r) : S cx 89 (R89_26 s_0 s_1 s_2) = some r :=
  gw_of (fun call hd hb pt rg => by kernel_rfl) h
noncomputable def NR89_27 (s_0 : List TV) (s_1 : List TV) (s_2 : List TV) : Nd :=
  .amb3 
  (.ck (decide ((0 + s_0.length) * 8 < lim)) <|
    R89_43 s_0 s_1 s_2) 
  (R89_40 s_0 s_1 s_2) 
  (R89_42 s_0 s_1 s_2)
theorem eR89_27 {s_0 : List TV} {s_1 : List TV} {s_2 : List TV} {r : Res} (h : S cx 89 (NR89_27 s_0 s_1 s_2) = some r) : S cx 89 (R89_27 s_0 s_1 s_2) = some r :=
  gw_of (fun call hd hb pt rg => by kernel_rfl) h
noncomputable def NR89_28 (s_0 : List TV) (s_1 : List TV) (s_2 : List TV) : Nd :=
  .amb2 
  (R89_35 s_0 s_1 s_2) 
  (R89_36 s_0 s_1 s_2)
theorem eR89_28 {s_0 : List TV} {s_1 : List TV} {s_2 : List TV} {r : Res} (h : S cx 89 (NR89_28 s_0 s_1 s_2) = some r) : S cx 89 (R89_28 s_0 s_1 s_2) = some r :=
  gw_of (fun call hd hb pt rg => by kernel_rfl) h
noncomputable def NR89_29 (s_0 : List TV) (s_1 : List TV) (s_2 : List TV) : Nd :=
  .amb2 
  (R89_37 s_0 s_1 s_2) 
  (R89_44 s_0 s_1 s_2)
theorem eR89_29 {s_0 : List TV} {s_1 : List TV} {s_2 : List TV} {r : Res} (h : S cx 89 (NR89_29 s_0 s_1 s_2) = some r) : S cx 89 (R89_29 s_0 s_1 s_2) = some r :=
  gw_of (fun call hd hb pt rg => by kernel_rfl) h
noncomputable def NR89_30 (s_0 : List TV) (s_1 : List TV) (s_2 : List TV) : Nd :=
  .amb2 
  (R89_38 s_0 s_1 s_2) 
  (R89_44 s_0 s_1 s_2)
theorem eR89_30 {s_0 : List TV} {s_1 : List TV} {s_2 : List TV} {r : Res} (h : S cx 89 (NR89_30 s_0 s_1 s_2) = some r) : S cx 89 (R89_30 s_0 s_1 s_2) = some r :=
  gw_of (fun call hd hb pt rg => by kernel_rfl) h
noncomputable def NR89_31 (s_0 : List TV) (s_1 : List TV) (s_2 : List TV) : Nd :=
  .amb2 
  (R89_40 s_0 s_1 s_2) 
  (R89_44 s_0 s_1 s_2)
theorem eR89_31 {s_0 : List TV} {s_1 : List TV} {s_2 : List TV} {r : Res} (h : S cx 89 (NR89_31 s_0 s_1 s_2) = some r) : S cx 89 (R89_31 s_0 s_1 s_2) = some r :=
  gw_of (fun call hd hb pt rg => by kernel_rfl) h
noncomputable def NR89_32 (s_0 : List TV) (s_1 : List TV) (s_2 : List TV) : Nd :=
  .amb2 
  (R89_42 s_0 s_1 s_2) 
  (R89_44 s_0 s_1 s_2)
theorem eR89_32 {s_0 : List TV} {s_1 : List TV} {s_2 : List TV} {r : Res} (h : S cx 89 (NR89_32 s_0 s_1 s_2) = some r) : S cx 89 (R89_32 s_0 s_1 s_2) = some r :=
  gw_of (fun call hd hb pt rg => by kernel_rfl) h
noncomputable def NR89_33 (s_0 : List TV) (s_1 : List TV) (s_2 : List TV) : Nd :=
  .ck (decide ((0 + s_2.length) * 8 < lim)) <|
  .ret [.st [sl false ⟨1, false⟩ (([]) ++ s_0), sl false ⟨1, false⟩ (([]) ++ s_1), sl false ⟨1, false⟩ (([]) ++ s_2)]] []
theorem eR89_33 {s_0 : List TV} {s_1 : List TV} {s_2 : List TV} {r : Res} (h : S cx 89 (NR89_33 s_0 s_1 s_2) = some r) : S cx 89 (R89_33 s_0 s_1 s_2) = some r :=
  gw_of (fun call hd hb pt rg => by kernel_rfl) h
noncomputable def NR89_34 (s_0 : List TV) (s_1 : List TV) (s_2 : List TV) : Nd :=
  .amb2 
  (.ck (decide ((0 + s_1.length) * 8 < lim)) <|
    R89_45 s_0 s_1 s_2) 
  (R89_46 s_0 s_1 s_2)
theorem eR89_34 {s_0 : List TV} {s_1 : List TV} {s_2 : List TV} {r : Res} (h : S cx 89 (NR89_34 s_0 s_1 s_2) = some r) : S cx 89 (R89_34 s_0 s_1 s_2) = some r :=
  gw_of (fun call hd hb pt rg => by kernel_rfl) h
noncomputable def NR89_35 (s_0 : List TV) (s_1 : List TV) (s_2 : List TV) : Nd :=
  .amb2 
  (.ck (decide ((0 + s_1.length) * 8 < lim)) <|
    R89_47 s_0 s_1 s_2) 
  (R89_46 s_0 s_1 s_2)
theorem eR89_35 {s_0 : List TV} {s_1 : List TV} {s_2 : List TV} {r : Res} (h : S cx 89 (NR89_35 s_0 s_1 s_2) = some r) : S cx 89 (R89_35 s_0 s_1 s_2) = some r :=
  gw_of (fun call hd hb pt rg => by kernel_rfl) h
noncomputable def NR89_36 (s_0 : List TV) (s_1 : List TV) (s_2 : List TV) : Nd :=
  .ck (decide ((0 + s_1.length) * 8 < lim)) <|
  .ck (decide ((0 + s_2.length) * 8 < lim)) <|
  .ret [.st [sl false ⟨1, false⟩ (([]) ++ s_0), sl false ⟨1, false⟩ (([]) ++ s_1), sl false ⟨1, false⟩ (([]) ++ s_2)]] []
theorem eR89_36 {s_0 : List TV} {s_1 : List TV} {s_2 : List TV} {r : Res} (h : S cx 89 (NR89_36 s_0 s_1 s_2) = some r) : S cx 89 (R89_36 s_0 s_1 s_2) = some r :=
  gw_of (fun call hd hb pt rg => by kernel_rfl) h
noncomputable def NR89_37 (s_0 : List TV) (s_1 : List TV) (s_2 : List TV) : Nd :=
  .amb2 
  (.ck (decide ((0 + s_0.length) * 8 < lim)) <|
    R89_34 s_0 s_1 s_2) 
  (R89_48 s_0 s_1 s_2)
theorem eR89_37 {s_0 : List TV} {s_1 : List TV} {s_2 : List TV} {r : Res} (h : S cx 89 (NR89_37 s_0 s_1 s_2) = some r) : S cx 89 (R89_37 s_0 s_1 s_2) = some r :=
  gw_of (fun call hd hb pt rg => by kernel_rfl) h
noncomputable def NR89_38 (s_0 : List TV) (s_1 : List TV) (s_2 : List TV) : Nd :=
  .amb2 
  (.ck (decide ((0 + s_0.length) * 8 < lim)) <|
    R89_35 s_0 s_1 s_2) 
  (R89_48 s_0 s_1 s_2)
theorem eR89_38 {s_0 : List TV} {s_1 : List TV} {s_2 : List TV} {r : Res} (h : S cx 89 (NR89_38 s_0 s_1 s_2) = some r) : S cx 89 (R89_38 s_0 s_1 s_2) = some r :=
  gw_of (fun call hd hb pt rg => by kernel_rfl) h
noncomputable def NR89_39 (s_0 : List TV) (s_1 : List TV) (s_2 : List TV) : Nd :=
  .amb2 
  (.ck (decide ((0 + s_1.length) * 8 < lim)) <|
    R89_45 s_0 s_1 s_2) 
  (R89_46 s_0 s_1 s_2)
theorem eR89_39 {s_0 : List TV} {s_1 : List TV} {s_2 : List TV} {r : Res} (h : S cx 89 (NR89_39 s_0 s_1 s_2) = some r) : S cx 89 (R89_39 s_0 s_1 s_2) = some r :=
  gw_of (fun call hd hb pt rg => by kernel_rfl) h
noncomputable def NR89_40 (s_0 : List TV) (s_1 : List TV) (s_2 : List TV) : Nd :=
  .amb2 
  (.ck (decide ((0 + s_0.length) * 8 < lim)) <|
    R89_49 s_0 s_1 s_2) 
  (R89_48 s_0 s_1 s_2)
theorem eR89_40 {s_0 : List TV} {s_1 : List TV} {s_2 : List TV} {r : Res} (h : S cx 89 (NR89_40 s_0 s_1 s_2) = some r) : S cx 89 (R89_40 s_0 s_1 s_2) = some r :=
  gw_of (fun call hd hb pt rg => by kernel_rfl) h
noncomputable def NR89_41 (s_0 : List TV) (s_1 : List TV) (s_2 : List TV) : Nd :=
  .amb2 
  (.ck (decide ((0 + s_1.length) * 8 < lim)) <|
    R89_47 s_0 s_1 s_2) 
  (R89_46 s_0 s_1 s_2)
theorem eR89_41 {s_0 : List TV} {s_1 : List TV} {s_2 : List TV} {r : Res} (h : S cx 89 (NR89_41 s_0 s_1 s_2) = some r) : S cx 89 (R89_41 s_0 s_1 s_2) = some r :=
  gw_of (fun call hd hb pt rg => by kernel_rfl) h
noncomputable def NR89_42 (s_0 : List TV) (s_1 : List TV) (s_2 : List TV) : Nd :=
  .amb2 
  (.ck (decide ((0 + s_0.length) * 8 < lim)) <|
    R89_36 s_0 s_1 s_2) 
  (R89_48 s_0 s_1 s_2)
theorem eR89_42 {s_0 : List TV} {s_1 : List TV} {s_2 : List TV} {r : Res} (h : S cx 89 (NR89_42 s_0 s_1 s_2) = some r) : S cx 89 (R89_42 s_0 s_1 s_2) = some r :=
  gw_of (fun call hd hb pt rg => by kernel_rfl) h
noncomputable def NR89_43 (s_0 : List TV) (s_1 : List TV) (s_2 : List TV) : Nd :=
  .ck (decide ((0 + s_1.length) * 8 < lim)) <|
  .ck (decide ((0 + s_2.length) * 8 < lim)) <|
  .ret [.st [sl false ⟨1, false⟩ (([]) ++ s_0), sl false ⟨1, false⟩ (([]) ++ s_1), sl false ⟨1, false⟩ (([]) ++ s_2)]] []
theorem eR89_43 {s_0 : List TV} {s_1 : List TV} {s_2 : List TV} {r : Res} (h : S cx 89 (NR89_43 s_0 s_1 s_2) = some r) : S cx 89 (R89_43 s_0 s_1 s_2) = some r :=
  gw_of (fun call hd hb pt rg => by kernel_rfl) h
noncomputable def NR89_44 (s_0 : List TV) (s_1 : List TV) (s_2 : List TV) : Nd :=
  .ck (decide ((0 + s_0.length) * 8 < lim)) <|
  .ck (decide ((0 + s_1.length) * 8 < lim)) <|
  .ck (decide ((0 + s_2.length) * 8 < lim)) <|
  .ret [.st [sl false ⟨1, false⟩ (([]) ++ s_0), sl false ⟨1, false⟩ (([]) ++ s_1), sl false ⟨1, false⟩ (([]) ++ s_2)]] []
theorem eR89_44 {s_0 : List TV} {s_1 : List TV} {s_2 : List TV} {r : Res} (h : S cx 89 (NR89_44 s_0 s_1 s_2) = some r) : S cx 89 (R89_44 s_0 s_1 s_2) = some r :=
  gw_of (fun call hd hb pt rg => by kernel_rfl) h
noncomputable def NR89_45 (s_0 : List TV) (s_1 : List TV) (s_2 : List TV) : Nd :=
  .ck (decide ((0 + s_2.length) * 8 < lim)) <|
  .ret [.st [sl false ⟨1, false⟩ (([]) ++ s_0), sl false ⟨1, false⟩ (([]) ++ s_1), sl false ⟨1, false⟩ (([]) ++ s_2)]] []
theorem eR89_45 {s_0 : List TV} {s_1 : List TV} {s_2 : List TV} {r : Res} (h : S cx 89 (NR89_45 s_0 s_1 s_2) = some r) : S cx 89 (R89_45 s_0 s_1 s_2) = some r :=
  gw_of (fun call hd hb pt rg => by kernel_rfl) h
noncomputable def NR89_46 (s_0 : List TV) (s_1 : List TV) (s_2 : List TV) : Nd :=
  .ck (decide ((0 + s_1.length) * 8 < lim)) <|
  .ck (decide ((0 + s_2.length) * 8 < lim)) <|
  .ret [.st [sl false ⟨1, false⟩ (([]) ++ s_0), sl false ⟨1, false⟩ (([]) ++ s_1), sl false ⟨1, false⟩ (([]) ++ s_2)]] []
theorem eR89_46 {s_0 : List TV} {s_1 : List TV} {s_2 : List TV} {r : Res} (h : S cx 89 (NR89_46 s_0 s_1 s_2) = some r) : S cx 89 (R89_46 s_0 s_1 s_2) = some r :=
  gw_of (fun call hd hb pt rg => by kernel_rfl) h
noncomputable def NR89_47 (s_0 : List TV) (s_1 : List TV) (s_2 : List TV) : Nd :=
  .ck (decide ((0 + s_2.length) * 8 < lim)) <|
  .ret [.st [sl false ⟨1, false⟩ (([]) ++ s_0), sl false ⟨1, false⟩ (([]) ++ s_1), sl false ⟨1, false⟩ (([]) ++ s_2)]] []
theorem eR89_47 {s_0 : List TV} {s_1 : List TV} {s_2 : List TV} {r : Res} (h : S cx 89 (NR89_47 s_0 s_1 s_2) = some r) : S cx 89 (R89_47 s_0 s_1 s_2) = some r :=
  gw_of (fun call hd hb pt rg => by kernel_rfl) h
noncomputable def NR89_48 (s_0 : List TV) (s_1 : List TV) (s_2 : List TV) : Nd :=
  .ck (decide ((0 + s_0.length) * 8 < lim)) <|
  .ck (decide ((0 + s_1.length) * 8 < lim)) <|
  .ck (decide ((0 + s_2.length) * 8 < lim)) <|
  .ret [.st [sl false ⟨1, false⟩ (([]) ++ s_0), sl false ⟨1, false⟩ (([]) ++ s_1), sl false ⟨1, false⟩ (([]) ++ s_2)]] []
theorem eR89_48 {s_0 : List TV} {s_1 : List TV} {s_2 : List TV} {r : Res} (h : S cx 89 (NR89_48 s_0 s_1 s_2) = some r) : S cx 89 (R89_48 s_0 s_1 s_2) = some r :=
  gw_of (fun call hd hb pt rg => by kernel_rfl) h
noncomputable def NR89_49 (s_0 : List TV) (s_1 : List TV) (s_2 : List TV) : Nd :=
  .ck (decide ((0 + s_1.length) * 8 < lim)) <|
  .ck (decide ((0 + s_2.length) * 8 < lim)) <|
  .ret [.st [sl false ⟨1, false⟩ (([]) ++ s_0), sl false ⟨1, false⟩ (([]) ++ s_1), sl false ⟨1, false⟩ (([]) ++ s_2)]] []
theorem eR89_49 {s_0 : List TV} {s_1 : List TV} {s_2 : List TV} {r : Res} (h : S cx 89 (NR89_49 s_0 s_1 s_2) = some r) : S cx 89 (R89_49 s_0 s_1 s_2) = some r :=
  gw_of (fun call hd hb pt rg => by kernel_rfl) h
end Go.Tree.Q

/- Trees of values: program points of functions. -/
namespace Go.Tree.Q
open Go.Proofs
set_option linter.unusedVariables false
set_option maxRecDepth 20000
/-! laws.toBlock -/
noncomputable def N90 (a_0 : List TV) (a_1 : Int) (a_2 : Int) (a_3 : List TV) : Nd :=
  C16 a_0 fun vs_c85a =>
  C17 a_3 fun vs_40e6 =>
  .ret [.st [sl false ⟨6, false⟩ vs_c85a, i64 a_1, i64 a_2, sl false ⟨1, false⟩ vs_40e6]] []
theorem e90 {a_0 : List TV} {a_1 : Int} {a_2 : Int} {a_3 : List TV} {r : Res} (h : S cx 90 (N90 a_0 a_1 a_2 a_3) = some r) : tw cx 90 [.st [sl true ⟨6, false⟩ a_0, i64 a_1, i64 a_2, sl true ⟨1, false⟩ a_3]] = some r :=
  tw_of (fun call hd hb pt rg => by kernel_rfl) h
/-! impl.GoodFlow -/
noncomputable def N91 (f_0 : List TV) : Nd :=
  C65 ((f_0.length : Nat) : Int) 1 64 fun v_3af7 =>
  .bif ((!v_3af7))
  (.ret [tb false] [])
  (C125 f_0 f_0 fun v_25d5 =>
    .ret [tb (!v_25d5)] [])
theorem e91 {f_0 : List TV} {r : Res} (h : S cx 91 (N91 f_0) = some r) : tw cx 91 [sl true ⟨4, true⟩ f_0] = some r :=
  tw_of (fun call hd hb pt rg => by kernel_rfl) h
/-! impl.GoodState -/
noncomputable def N92 (s_0 : List TV) (s_1 : List TV) (s_2 : List TV) : Nd :=
  .bif ((((s_0.length : Nat) : Int) == 8))
  (.bif ((((s_1.length : Nat) : Int) == 16))
    (.bif (decide (((s_2.length : Nat) : Int) ≤ 100))
      (C128 s_0 fun v_bdae =>
        .bif (v_bdae)
        (C128 s_1 fun v_6e68 =>
          .bif (v_6e68)
          (C128 s_2 fun v_a9ea =>
            .ret [tb v_a9ea] [])
          (.ret [tb false] []))
        (.ret [tb false] []))
      (.ret [tb false] []))
    (.ret [tb false] []))
  (.ret [tb false] [])
theorem e92 {s_0 : List TV} {s_1 : List TV} {s_2 : List TV} {r : Res} (h : S cx 92 (N92 s_0 s_1 s_2) = some r) : tw cx 92 [.st [sl true ⟨1, false⟩ s_0, sl true ⟨1, false⟩ s_1, sl true ⟨1, false⟩ s_2]] = some r :=
  tw_of (fun call hd hb pt rg => by kernel_rfl) h
/-! impl.cloneState -/
noncomputable def N93_s0 (s_1 : List TV) (s_2 : List TV) (vs_fe4f : List TV) : Nd :=
  C129 s_1 fun vs_101a =>
  C129 s_2 fun vs_2c91 =>
  .ret [.st [sl false ⟨1, false⟩ vs_fe4f, sl false ⟨1, false⟩ vs_101a, sl false ⟨1, false⟩ vs_2c91]] []
noncomputable def N93_s1 (s_0 : List TV) (s_1 : List TV) (s_2 : List TV) : Nd :=
  C129 s_0 fun vs_fe4f =>
  .amb2 
  (N93_s0 s_1 s_2 vs_fe4f) 
  (N93_s0 s_1 s_2 vs_fe4f)
noncomputable def N93_s2 (s_0 : List TV) (s_1 : List TV) (s_2 : List TV) : Nd :=
  C129 s_0 fun vs_fe4f =>
  N93_s0 s_1 s_2 vs_fe4f
noncomputable def N93 (s_0 : List TV) (s_1 : List TV) (s_2 : List TV) : Nd :=
  .amb3 
  (N93_s1 s_0 s_1 s_2) 
  (.amb2 
    (N93_s1 s_0 s_1 s_2) 
    (N93_s2 s_0 s_1 s_2)) 
  (.amb2 
    (N93_s2 s_0 s_1 s_2) 
    (N93_s2 s_0 s_1 s_2))
theorem e93 {s_0 : List TV} {s_1 : List TV} {s_2 : List TV} {r : Res} (h : S cx 93 (N93 s_0 s_1 s_2) = some r) : tw cx 93 [.st [sl true ⟨1, false⟩ s_0, sl true ⟨1, false⟩ s_1, sl true ⟨1, false⟩ s_2]] = some r :=
  tw_of (fun call hd hb pt rg => by kernel_rfl) h
/-! (*impl.State).doFlat -/
noncomputable def EG94_0 (ok_4 : Bool) (s_0 : List TV) (s_1 : List TV) (s_2 : List TV) (names_3 : List TV) : Env := uns 7 ++ [.val [] (tb ok_4)] ++ uns 91 ++ [.val [] (.pt false () (.st [sl false ⟨1, false⟩ s_0, sl false ⟨1, false⟩ s_1, sl false ⟨1, false⟩ s_2])), .un, .val [] (sl false ⟨1, false⟩ names_3)]
noncomputable abbrev G94_0 (ok_4 : Bool) (s_0 : List TV) (s_1 : List TV) (s_2 : List TV) (names_3 : List TV) : Nd := .go [1, 1, 1] (EG94_0 ok_4 s_0 s_1 s_2 names_3)
noncomputable def N94 (s_0 : List TV) (s_1 : List TV) (s_2 : List TV) (x_3 : Int) (x_4 : Int) (x_5 : Int) (x_6 : Int) (x_7 : Int) (x_8 : Int) (names_9 : List TV) : Nd :=
  .bif ((x_3 == 1))
  (.ck (decide ((0 : Int) ≤ x_5) && decide (x_5 < ((names_9.length : Nat) : Int))) <|
    G94_0 true s_0 s_1 s_2 (names_9.set (0 + x_5.toNat) (i64 x_8)))
  (.bif ((x_3 == 2))
    (.ck (decide ((0 : Int) ≤ x_6) && decide (x_6 < ((names_9.length : Nat) : Int))) <|
      .int .i64 (names_9.getD (0 + x_6.toNat) (.dead ())) fun x_936e =>
      .ck (decide ((0 : Int) ≤ x_5) && decide (x_5 < ((names_9.length : Nat) : Int))) <|
      G94_0 true s_0 s_1 s_2 (names_9.set (0 + x_5.toNat) (i64 x_936e)))
    (.bif ((x_3 == 3))
      (.ck (decide ((0 : Int) ≤ x_6) && decide (x_6 < ((names_9.length : Nat) : Int))) <|
        .int .i64 (names_9.getD (0 + x_6.toNat) (.dead ())) fun x_936e =>
        .ck (decide ((0 : Int) ≤ x_7) && decide (x_7 < ((names_9.length : Nat) : Int))) <|
        .int .i64 (names_9.getD (0 + x_7.toNat) (.dead ())) fun x_dc01 =>
        C130 x_4 x_936e x_dc01 fun v_967d v_35bf =>
        .bif (v_35bf)
        (.ck (decide ((0 : Int) ≤ x_5) && decide (x_5 < ((names_9.length : Nat) : Int))) <|
          G94_0 v_35bf s_0 s_1 s_2 (names_9.set (0 + x_5.toNat) (i64 v_967d)))
        (G94_0 v_35bf s_0 s_1 s_2 names_9))
      (.bif ((x_3 == 4))
        (.ck (decide ((0 : Int) ≤ x_6) && decide (x_6 < ((names_9.length : Nat) : Int))) <|
          .int .i64 (names_9.getD (0 + x_6.toNat) (.dead ())) fun x_936e =>
          C131 s_0 s_1 s_2 x_936e fun v_dcdb v_adc6 =>
          .bif (v_adc6)
          (.ck (decide ((0 : Int) ≤ x_5) && decide (x_5 < ((names_9.length : Nat) : Int))) <|
            G94_0 v_adc6 s_0 s_1 s_2 (names_9.set (0 + x_5.toNat) (i64 v_dcdb)))
          (G94_0 v_adc6 s_0 s_1 s_2 names_9))
        (.bif ((x_3 == 5))
          (.ck (decide ((0 : Int) ≤ x_6) && decide (x_6 < ((names_9.length : Nat) : Int))) <|
            .int .i64 (names_9.getD (0 + x_6.toNat) (.dead ())) fun x_936e =>
            .ck (decide ((0 : Int) ≤ x_7) && decide (x_7 < ((names_9.length : Nat) : Int))) <|
            .int .i64 (names_9.getD (0 + x_7.toNat) (.dead ())) fun x_dc01 =>
            C132 s_0 s_1 s_2 x_936e x_dc01 fun v_3266 localss_4058 mems_ad95 tolds_9a4d =>
            G94_0 v_3266 localss_4058 mems_ad95 tolds_9a4d names_9)
          (.ck (decide ((0 : Int) ≤ x_6) && decide (x_6 < ((names_9.length : Nat) : Int))) <|
            .int .i64 (names_9.getD (0 + x_6.toNat) (.dead ())) fun x_936e =>
            C133 s_0 s_1 s_2 x_936e fun v_90bf localss_68b0 mems_62b5 tolds_2613 =>
            G94_0 v_90bf localss_68b0 mems_62b5 tolds_2613 names_9)))))
theorem e94 {s_0 : List TV} {s_1 : List TV} {s_2 : List TV} {x_3 : Int} {x_4 : Int} {x_5 : Int} {x_6 : Int} {x_7 : Int} {x_8 : Int} {names_9 : List TV} {r : Res} (h : S cx 94 (N94 s_0 s_1 s_2 x_3 x_4 x_5 x_6 x_7 x_8 names_9) = some r) : tw cx 94 [.pt false () (.st [sl false ⟨1, false⟩ s_0, sl false ⟨1, false⟩ s_1, sl false ⟨1, false⟩ s_2]), .st [i64 x_3, i64 x_4, i64 x_5, i64 x_6, i64 x_7, i64 x_8], sl false ⟨1, false⟩ names_9] = some r :=
  tw_of (fun call hd hb pt rg => by kernel_rfl) h
noncomputable def NG94_0 (ok_4 : Bool) (s_0 : List TV) (s_1 : List TV) (s_2 : List TV) (names_3 : List TV) : Nd :=
  .ret [tb ok_4] [.pt false () (.st [sl false ⟨1, false⟩ s_0, sl false ⟨1, false⟩ s_1, sl false ⟨1, false⟩ s_2]), sl false ⟨1, false⟩ names_3]
theorem eG94_0 {ok_4 : Bool} {s_0 : List TV} {s_1 : List TV} {s_2 : List TV} {names_3 : List TV} {r : Res} (h : S cx 94 (NG94_0 ok_4 s_0 s_1 s_2 names_3) = some r) : S cx 94 (G94_0 ok_4 s_0 s_1 s_2 names_3) = some r :=
  pw_of (fun call hd hb pt rg => by kernel_rfl) h
/-! impl.way -/
noncomputable def N95 (kind_0 : Int) (test_1 : Int) (many_2 : Int) : Nd :=
  .bif ((kind_0 == 2))
  (C134 (test_1 != 0) fun v_7aac =>
    .ret [i64 (w64 ((1 : Int) - v_7aac))] [])
  (.bif ((kind_0 == 5))
    (.ret [i64 (if w64 (many_2 - 1) < test_1 then w64 (many_2 - 1) else test_1)] [])
    (.ret [i64 0] []))
theorem e95 {kind_0 : Int} {test_1 : Int} {many_2 : Int} {r : Res} (h : S cx 95 (N95 kind_0 test_1 many_2) = some r) : tw cx 95 [i64 kind_0, i64 test_1, i64 many_2] = some r :=
  tw_of (fun call hd hb pt rg => by kernel_rfl) h
/-! laws.eqBlock -/
noncomputable def N96 (a_0 : List TV) (a_1 : Int) (a_2 : Int) (a_3 : List TV) (b_4 : List TV) (b_5 : Int) (b_6 : Int) (b_7 : List TV) : Nd :=
  C19 a_0 b_4 fun v_4f79 =>
  .bif ((!v_4f79))
  (.ret [tb false] [])
  (.bif ((a_1 != b_5))
    (.ret [tb false] [])
    (.bif ((a_2 != b_6))
      (.ret [tb false] [])
      (C20 a_3 b_7 fun v_5565 =>
        .bif ((!v_5565))
        (.ret [tb false] [])
        (.ret [tb true] []))))
theorem e96 {a_0 : List TV} {a_1 : Int} {a_2 : Int} {a_3 : List TV} {b_4 : List TV} {b_5 : Int} {b_6 : Int} {b_7 : List TV} {r : Res} (h : S cx 96 (N96 a_0 a_1 a_2 a_3 b_4 b_5 b_6 b_7) = some r) : tw cx 96 [.st [sl true ⟨6, false⟩ a_0, i64 a_1, i64 a_2, sl true ⟨1, false⟩ a_3], .st [sl true ⟨6, false⟩ b_4, i64 b_5, i64 b_6, sl true ⟨1, false⟩ b_7]] = some r :=
  tw_of (fun call hd hb pt rg => by kernel_rfl) h
/-! spec.l6Flat -/
noncomputable def EG111_0 (x_0 : Int) (x_1 : Int) (x_2 : Int) (x_3 : Int) (x_4 : Int) (x_5 : Int) (v_6 : Bool) : Env := [.un, .val [] (.pt false () (.st [i64 x_0, i64 x_1, i64 x_2, i64 x_3, i64 x_4, i64 x_5]))] ++ uns 20 ++ [.val [] (i64 x_0)] ++ uns 20 ++ [.val [] (tb v_6)] ++ uns 69
noncomputable abbrev G111_0 (x_0 : Int) (x_1 : Int) (x_2 : Int) (x_3 : Int) (x_4 : Int) (x_5 : Int) (v_6 : Bool) : Nd := .go [1, 1, 0, 1, 2, 1, 4, 1] (EG111_0 x_0 x_1 x_2 x_3 x_4 x_5 v_6)
noncomputable def N111_s0 (x_0 : Int) (x_1 : Int) (x_2 : Int) (x_3 : Int) (x_4 : Int) (x_5 : Int) : Nd :=
  .bif ((x_0 == 1))
  (C147 x_2 fun v_1fb7 =>
    .bif (v_1fb7)
    (.bif ((x_3 == 0))
      (.bif ((x_4 == 0))
        (C112 x_5 0 65535 fun v_ef72 =>
          .ret [tb v_ef72] [])
        (.ret [tb false] []))
      (.ret [tb false] []))
    (.ret [tb false] []))
  (.bif ((x_0 == 2))
    (G111_0 x_0 x_1 x_2 x_3 x_4 x_5 (x_0 == 2))
    (G111_0 x_0 x_1 x_2 x_3 x_4 x_5 (x_0 == 4)))
noncomputable def N111_s1 (x_0 : Int) (x_1 : Int) (x_2 : Int) (x_3 : Int) (x_4 : Int) (x_5 : Int) : Nd :=
  .bif ((x_0 != 1))
  (.bif ((x_5 != 0))
    (.ret [tb false] [])
    (N111_s0 x_0 x_1 x_2 x_3 x_4 x_5))
  (N111_s0 x_0 x_1 x_2 x_3 x_4 x_5)
noncomputable def N111 (x_0 : Int) (x_1 : Int) (x_2 : Int) (x_3 : Int) (x_4 : Int) (x_5 : Int) : Nd :=
  .bif ((x_0 != 3))
  (.bif ((x_1 != 0))
    (.ret [tb false] [])
    (N111_s1 x_0 x_1 x_2 x_3 x_4 x_5))
  (N111_s1 x_0 x_1 x_2 x_3 x_4 x_5)
theorem e111 {x_0 : Int} {x_1 : Int} {x_2 : Int} {x_3 : Int} {x_4 : Int} {x_5 : Int} {r : Res} (h : S cx 111 (N111 x_0 x_1 x_2 x_3 x_4 x_5) = some r) : tw cx 111 [.st [i64 x_0, i64 x_1, i64 x_2, i64 x_3, i64 x_4, i64 x_5]] = some r :=
  tw_of (fun call hd hb pt rg => by kernel_rfl) h
noncomputable def NG111_0_s0 (x_3 : Int) (x_4 : Int) : Nd :=
  C147 x_3 fun v_8f41 =>
  .bif (v_8f41)
  (.ret [tb (x_4 == 0)] [])
  (.ret [tb false] [])
noncomputable def NG111_0 (x_0 : Int) (x_1 : Int) (x_2 : Int) (x_3 : Int) (x_4 : Int) (x_5 : Int) (v_6 : Bool) : Nd :=
  .bif (v_6)
  (C147 x_2 fun v_1fb7 =>
    .bif (v_1fb7)
    (NG111_0_s0 x_3 x_4)
    (.ret [tb false] []))
  (.bif ((x_0 == 3))
    (C147 x_2 fun v_1fb7 =>
      .bif (v_1fb7)
      (C147 x_3 fun v_8f41 =>
        .bif (v_8f41)
        (C147 x_4 fun v_17dd =>
          .bif (v_17dd)
          (C112 x_1 4 9 fun v_7828 =>
            .ret [tb v_7828] [])
          (.ret [tb false] []))
        (.ret [tb false] []))
      (.ret [tb false] []))
    (.bif ((x_0 == 5))
      (.bif ((x_2 == 0))
        (C147 x_3 fun v_8f41 =>
          .bif (v_8f41)
          (C147 x_4 fun v_17dd =>
            .ret [tb v_17dd] [])
          (.ret [tb false] []))
        (.ret [tb false] []))
      (.bif ((x_0 == 6))
        (.bif ((x_2 == 0))
          (NG111_0_s0 x_3 x_4)
          (.ret [tb false] []))
        (.ret [tb false] []))))
theorem eG111_0 {x_0 : Int} {x_1 : Int} {x_2 : Int} {x_3 : Int} {x_4 : Int} {x_5 : Int} {v_6 : Bool} {r : Res} (h : S cx 111 (NG111_0 x_0 x_1 x_2 x_3 x_4 x_5 v_6) = some r) : S cx 111 (G111_0 x_0 x_1 x_2 x_3 x_4 x_5 v_6) = some r :=
  pw_of (fun call hd hb pt rg => by kernel_rfl) h
/-! spec.l1In -/
noncomputable def N112 (n_0 : Int) (lo_1 : Int) (hi_2 : Int) : Nd :=
  .bif (decide (n_0 ≥ lo_1))
  (.ret [tb (decide (n_0 ≤ hi_2))] [])
  (.ret [tb false] [])
theorem e112 {n_0 : Int} {lo_1 : Int} {hi_2 : Int} {r : Res} (h : S cx 112 (N112 n_0 lo_1 hi_2) = some r) : tw cx 112 [i64 n_0, i64 lo_1, i64 hi_2] = some r :=
  tw_of (fun call hd hb pt rg => by kernel_rfl) h
/-! impl.fieldsOf -/
noncomputable def EG114_0 (v_0 : Int) (v_1 : Bool) : Env := [.un, .un, .val [] (.pt false () (.st [tb false, tb false, tb false, tb false, tb false])), .un, .val [] (i64 v_0), .un, .un, .un, .val [] (tb v_1)] ++ uns 14
noncomputable abbrev G114_0 (v_0 : Int) (v_1 : Bool) : Nd := .go [1, 0, 1, 2, 1, 4, 1] (EG114_0 v_0 v_1)
noncomputable def N114 (op_0 : Int) : Nd :=
  .bif ((op_0 == 1))
  (.ret [.st [tb true, tb false, tb false, tb true, tb false], tb true] [])
  (.bif ((op_0 == 2))
    (G114_0 op_0 (op_0 == 2))
    (G114_0 op_0 (op_0 == 4)))
theorem e114 {op_0 : Int} {r : Res} (h : S cx 114 (N114 op_0) = some r) : tw cx 114 [i64 op_0] = some r :=
  tw_of (fun call hd hb pt rg => by kernel_rfl) h
noncomputable def NG114_0 (v_0 : Int) (v_1 : Bool) : Nd :=
  .bif (v_1)
  (.ret [.st [tb true, tb true, tb false, tb false, tb false], tb true] [])
  (.bif ((v_0 == 3))
    (.ret [.st [tb true, tb true, tb true, tb false, tb true], tb true] [])
    (.bif ((v_0 == 5))
      (.ret [.st [tb false, tb true, tb true, tb false, tb false], tb true] [])
      (.bif ((v_0 == 6))
        (.ret [.st [tb false, tb true, tb false, tb false, tb false], tb true] [])
        (.ret [.st [tb false, tb false, tb false, tb false, tb false], tb false] []))))
theorem eG114_0 {v_0 : Int} {v_1 : Bool} {r : Res} (h : S cx 114 (NG114_0 v_0 v_1) = some r) : S cx 114 (G114_0 v_0 v_1) = some r :=
  pw_of (fun call hd hb pt rg => by kernel_rfl) h
/-! impl.codeOK -/
noncomputable def N118 (l_0 : List TV) (many_1 : Int) : Nd :=
  .bif (decide (((l_0.length : Nat) : Int) ≤ 60))
  (C150 l_0 many_1 fun v_4856 =>
    .ret [tb (!v_4856)] [])
  (.ret [tb false] [])
theorem e118 {l_0 : List TV} {many_1 : Int} {r : Res} (h : S cx 118 (N118 l_0 many_1) = some r) : tw cx 118 [sl true ⟨6, false⟩ l_0, i64 many_1] = some r :=
  tw_of (fun call hd hb pt rg => by kernel_rfl) h
/-! spec.l6Block -/
noncomputable def EH121_0 (many_0 : Int) (b_1 : List TV) (b_2 : Int) (b_3 : Int) (b_4 : List TV) (v_5 : Int) : Env := [.un, .val [] (i64 many_0), .val [] (.pt false () (.st [sl true ⟨6, false⟩ b_1, i64 b_2, i64 b_3, sl true ⟨1, false⟩ b_4]))] ++ uns 8 ++ [.val [] (sl true ⟨6, false⟩ b_1), .val [] (i64 ((b_1.length : Nat) : Int)), .val [] (i64 v_5)] ++ uns 92
noncomputable abbrev H121_0 (many_0 : Int) (b_1 : List TV) (b_2 : Int) (b_3 : Int) (b_4 : List TV) (v_5 : Int) : Nd := .head [1, 0, 1, 2] (EH121_0 many_0 b_1 b_2 b_3 b_4 v_5)
noncomputable abbrev B121_0 (many_0 : Int) (b_1 : List TV) (b_2 : Int) (b_3 : Int) (b_4 : List TV) (v_5 : Int) : Nd := .back [1, 0, 1, 2] (EH121_0 many_0 b_1 b_2 b_3 b_4 v_5)
noncomputable def EH121_1 (many_0 : Int) (b_1 : List TV) (b_2 : Int) (b_3 : Int) (b_4 : List TV) (v_5 : Int) : Env := [.un, .val [] (i64 many_0), .val [] (.pt false () (.st [sl true ⟨6, false⟩ b_1, i64 b_2, i64 b_3, sl true ⟨1, false⟩ b_4]))] ++ uns 19 ++ [.val [] (sl true ⟨1, false⟩ b_4), .val [] (i64 ((b_4.length : Nat) : Int)), .val [] (i64 v_5)] ++ uns 81
noncomputable abbrev H121_1 (many_0 : Int) (b_1 : List TV) (b_2 : Int) (b_3 : Int) (b_4 : List TV) (v_5 : Int) : Nd := .head [1, 1, 0, 1, 2] (EH121_1 many_0 b_1 b_2 b_3 b_4 v_5)
noncomputable abbrev B121_1 (many_0 : Int) (b_1 : List TV) (b_2 : Int) (b_3 : Int) (b_4 : List TV) (v_5 : Int) : Nd := .back [1, 1, 0, 1, 2] (EH121_1 many_0 b_1 b_2 b_3 b_4 v_5)
noncomputable def N121 (b_0 : List TV) (b_1 : Int) (b_2 : Int) (b_3 : List TV) (many_4 : Int) : Nd :=
  H121_0 many_4 b_0 b_1 b_2 b_3 0
theorem e121 {b_0 : List TV} {b_1 : Int} {b_2 : Int} {b_3 : List TV} {many_4 : Int} {r : Res} (h : S cx 121 (N121 b_0 b_1 b_2 b_3 many_4) = some r) : tw cx 121 [.st [sl true ⟨6, false⟩ b_0, i64 b_1, i64 b_2, sl true ⟨1, false⟩ b_3], i64 many_4] = some r :=
  tw_of (fun call hd hb pt rg => by kernel_rfl) h
noncomputable def NH121_0 (many_0 : Int) (b_1 : List TV) (b_2 : Int) (b_3 : Int) (b_4 : List TV) (v_5 : Int) : Nd :=
  .bif (decide (v_5 < ((b_1.length : Nat) : Int)))
  (.ck (decide ((0 : Int) ≤ v_5) && decide (v_5 < ((b_1.length : Nat) : Int))) <|
    V6 (b_1.getD (0 + v_5.toNat) (.dead ())) fun op_8687 do_4265 dst_27ee a_051b b_f5b0 n_6b6c =>
    C111 op_8687 do_4265 dst_27ee a_051b b_f5b0 n_6b6c fun v_c775 =>
    .bif ((!v_c775))
    (.ret [tb false] [])
    (B121_0 many_0 b_1 b_2 b_3 b_4 (w64 (v_5 + 1))))
  (H121_1 many_0 b_1 b_2 b_3 b_4 0)
theorem eH121_0 {many_0 : Int} {b_1 : List TV} {b_2 : Int} {b_3 : Int} {b_4 : List TV} {v_5 : Int} {r : Res} (h : S cx 121 (NH121_0 many_0 b_1 b_2 b_3 b_4 v_5) = some r) : S cx 121 (H121_0 many_0 b_1 b_2 b_3 b_4 v_5) = some r :=
  hw_of (fun call hd hb pt rg => by kernel_rfl) h
noncomputable def NH121_1_s0 (b_1 : List TV) (b_3 : Int) : Nd :=
  C147 b_3 fun v_3e06 =>
  .bif (v_3e06)
  (.ret [tb (decide (((b_1.length : Nat) : Int) ≤ 60))] [])
  (.ret [tb false] [])
noncomputable def NH121_1 (many_0 : Int) (b_1 : List TV) (b_2 : Int) (b_3 : Int) (b_4 : List TV) (v_5 : Int) : Nd :=
  .bif (decide (v_5 < ((b_4.length : Nat) : Int)))
  (.ck (decide ((0 : Int) ≤ v_5) && decide (v_5 < ((b_4.length : Nat) : Int))) <|
    .int .i64 (b_4.getD (0 + v_5.toNat) (.dead ())) fun x_7bb9 =>
    .bif (decide (x_7bb9 < 0))
    (.ret [tb false] [])
    (.bif (decide (x_7bb9 ≥ many_0))
      (.ret [tb false] [])
      (B121_1 many_0 b_1 b_2 b_3 b_4 (w64 (v_5 + 1)))))
  (.bif ((b_2 == 1))
    (.bif ((((b_4.length : Nat) : Int) == 1))
      (.bif ((b_3 == 0))
        (.ret [tb (decide (((b_1.length : Nat) : Int) ≤ 60))] [])
        (.ret [tb false] []))
      (.ret [tb false] []))
    (.bif ((b_2 == 2))
      (.bif ((((b_4.length : Nat) : Int) == 2))
        (NH121_1_s0 b_1 b_3)
        (.ret [tb false] []))
      (.bif ((b_2 == 5))
        (C112 ((b_4.length : Nat) : Int) 2 6 fun v_3dbc =>
          .bif (v_3dbc)
          (NH121_1_s0 b_1 b_3)
          (.ret [tb false] []))
        (C112 b_2 3 4 fun v_4d54 =>
          .bif (v_4d54)
          (.bif ((((b_4.length : Nat) : Int) == 0))
            (.bif ((b_3 == 0))
              (.ret [tb (decide (((b_1.length : Nat) : Int) ≤ 60))] [])
              (.ret [tb false] []))
            (.ret [tb false] []))
          (.ret [tb false] [])))))
theorem eH121_1 {many_0 : Int} {b_1 : List TV} {b_2 : Int} {b_3 : Int} {b_4 : List TV} {v_5 : Int} {r : Res} (h : S cx 121 (NH121_1 many_0 b_1 b_2 b_3 b_4 v_5) = some r) : S cx 121 (H121_1 many_0 b_1 b_2 b_3 b_4 v_5) = some r :=
  hw_of (fun call hd hb pt rg => by kernel_rfl) h
/-! spec.l5Words -/
noncomputable def EH122_0 (l_0 : List TV) (many_1 : Int) (v_2 : Int) : Env := [.val [] (sl true ⟨1, false⟩ l_0), .val [] (i64 many_1), .un, .un, .un, .un, .un, .val [] (sl true ⟨1, false⟩ l_0), .val [] (i64 ((l_0.length : Nat) : Int)), .val [] (i64 v_2)] ++ uns 13
noncomputable abbrev H122_0 (l_0 : List TV) (many_1 : Int) (v_2 : Int) : Nd := .head [1, 0, 1, 2] (EH122_0 l_0 many_1 v_2)
noncomputable abbrev B122_0 (l_0 : List TV) (many_1 : Int) (v_2 : Int) : Nd := .back [1, 0, 1, 2] (EH122_0 l_0 many_1 v_2)
noncomputable def N122 (l_0 : List TV) (many_1 : Int) : Nd :=
  H122_0 l_0 many_1 0
theorem e122 {l_0 : List TV} {many_1 : Int} {r : Res} (h : S cx 122 (N122 l_0 many_1) = some r) : tw cx 122 [sl true ⟨1, false⟩ l_0, i64 many_1] = some r :=
  tw_of (fun call hd hb pt rg => by kernel_rfl) h
noncomputable def NH122_0 (l_0 : List TV) (many_1 : Int) (v_2 : Int) : Nd :=
  .bif (decide (v_2 < ((l_0.length : Nat) : Int)))
  (.ck (decide ((0 : Int) ≤ v_2) && decide (v_2 < ((l_0.length : Nat) : Int))) <|
    .int .i64 (l_0.getD (0 + v_2.toNat) (.dead ())) fun x_9183 =>
    C112 x_9183 0 65535 fun v_275e =>
    .bif ((!v_275e))
    (.ret [tb false] [])
    (B122_0 l_0 many_1 (w64 (v_2 + 1))))
  (.ret [tb (((l_0.length : Nat) : Int) == many_1)] [])
theorem eH122_0 {l_0 : List TV} {many_1 : Int} {v_2 : Int} {r : Res} (h : S cx 122 (NH122_0 l_0 many_1 v_2) = some r) : S cx 122 (H122_0 l_0 many_1 v_2) = some r :=
  hw_of (fun call hd hb pt rg => by kernel_rfl) h
/-! spec.l6Do -/
noncomputable def N123 (x_0 : Int) (x_1 : Int) (x_2 : Int) (x_3 : Int) (x_4 : Int) (x_5 : Int) (vars_6 : List TV) (s_7 : List TV) (s_8 : List TV) (s_9 : List TV) : Nd :=
  .bif ((x_0 == 1))
  (.ck (decide ((0 : Int) ≤ x_2) && decide (x_2 < ((vars_6.length : Nat) : Int))) <|
    .ret [tb true] [sl false ⟨1, false⟩ (vars_6.set (0 + x_2.toNat) (i64 x_5)), .pt false () (.st [sl false ⟨1, false⟩ s_7, sl false ⟨1, false⟩ s_8, sl false ⟨1, false⟩ s_9])])
  (.bif ((x_0 == 2))
    (.ck (decide ((0 : Int) ≤ x_3) && decide (x_3 < ((vars_6.length : Nat) : Int))) <|
      .int .i64 (vars_6.getD (0 + x_3.toNat) (.dead ())) fun x_a03d =>
      .ck (decide ((0 : Int) ≤ x_2) && decide (x_2 < ((vars_6.length : Nat) : Int))) <|
      .ret [tb true] [sl false ⟨1, false⟩ (vars_6.set (0 + x_2.toNat) (i64 x_a03d)), .pt false () (.st [sl false ⟨1, false⟩ s_7, sl false ⟨1, false⟩ s_8, sl false ⟨1, false⟩ s_9])])
    (.bif ((x_0 == 3))
      (.ck (decide ((0 : Int) ≤ x_3) && decide (x_3 < ((vars_6.length : Nat) : Int))) <|
        .int .i64 (vars_6.getD (0 + x_3.toNat) (.dead ())) fun x_a03d =>
        .ck (decide ((0 : Int) ≤ x_4) && decide (x_4 < ((vars_6.length : Nat) : Int))) <|
        .int .i64 (vars_6.getD (0 + x_4.toNat) (.dead ())) fun x_4409 =>
        C153 x_1 x_a03d x_4409 fun v_6cda v_8fef =>
        .bif ((!v_8fef))
        (.ret [tb false] [sl false ⟨1, false⟩ vars_6, .pt false () (.st [sl false ⟨1, false⟩ s_7, sl false ⟨1, false⟩ s_8, sl false ⟨1, false⟩ s_9])])
        (.ck (decide ((0 : Int) ≤ x_2) && decide (x_2 < ((vars_6.length : Nat) : Int))) <|
          .ret [tb true] [sl false ⟨1, false⟩ (vars_6.set (0 + x_2.toNat) (i64 v_6cda)), .pt false () (.st [sl false ⟨1, false⟩ s_7, sl false ⟨1, false⟩ s_8, sl false ⟨1, false⟩ s_9])]))
      (.bif ((x_0 == 4))
        (.ck (decide ((0 : Int) ≤ x_3) && decide (x_3 < ((vars_6.length : Nat) : Int))) <|
          .int .i64 (vars_6.getD (0 + x_3.toNat) (.dead ())) fun x_a03d =>
          .bif (decide (x_a03d ≥ 16))
          (.ret [tb false] [sl false ⟨1, false⟩ vars_6, .pt false () (.st [sl false ⟨1, false⟩ s_7, sl false ⟨1, false⟩ s_8, sl false ⟨1, false⟩ s_9])])
          (.ck (decide ((0 : Int) ≤ x_3) && decide (x_3 < ((vars_6.length : Nat) : Int))) <|
            .int .i64 (vars_6.getD (0 + x_3.toNat) (.dead ())) fun x_a03d_2 =>
            .ck (decide ((0 : Int) ≤ x_a03d_2) && decide (x_a03d_2 < ((s_8.length : Nat) : Int))) <|
            .int .i64 (s_8.getD (0 + x_a03d_2.toNat) (.dead ())) fun x_a6c6 =>
            .ck (decide ((0 : Int) ≤ x_2) && decide (x_2 < ((vars_6.length : Nat) : Int))) <|
            .ret [tb true] [sl false ⟨1, false⟩ (vars_6.set (0 + x_2.toNat) (i64 x_a6c6)), .pt false () (.st [sl false ⟨1, false⟩ s_7, sl false ⟨1, false⟩ s_8, sl false ⟨1, false⟩ s_9])]))
        (.bif ((x_0 == 5))
          (.ck (decide ((0 : Int) ≤ x_3) && decide (x_3 < ((vars_6.length : Nat) : Int))) <|
            .int .i64 (vars_6.getD (0 + x_3.toNat) (.dead ())) fun x_a03d =>
            .bif (decide (x_a03d ≥ 16))
            (.ret [tb false] [sl false ⟨1, false⟩ vars_6, .pt false () (.st [sl false ⟨1, false⟩ s_7, sl false ⟨1, false⟩ s_8, sl false ⟨1, false⟩ s_9])])
            (.ck (decide ((0 : Int) ≤ x_3) && decide (x_3 < ((vars_6.length : Nat) : Int))) <|
              .int .i64 (vars_6.getD (0 + x_3.toNat) (.dead ())) fun x_a03d_2 =>
              .ck (decide ((0 : Int) ≤ x_4) && decide (x_4 < ((vars_6.length : Nat) : Int))) <|
              .int .i64 (vars_6.getD (0 + x_4.toNat) (.dead ())) fun x_4409 =>
              .ck (decide ((0 : Int) ≤ x_a03d_2) && decide (x_a03d_2 < ((s_8.length : Nat) : Int))) <|
              .ret [tb true] [sl false ⟨1, false⟩ vars_6, .pt false () (.st [sl false ⟨1, false⟩ s_7, sl false ⟨1, false⟩ (s_8.set (0 + x_a03d_2.toNat) (i64 x_4409)), sl false ⟨1, false⟩ s_9])]))
          (.bif ((((s_9.length : Nat) : Int) == 100))
            (.ret [tb false] [sl false ⟨1, false⟩ vars_6, .pt false () (.st [sl false ⟨1, false⟩ s_7, sl false ⟨1, false⟩ s_8, sl false ⟨1, false⟩ s_9])])
            (.ck (decide ((0 : Int) ≤ x_3) && decide (x_3 < ((vars_6.length : Nat) : Int))) <|
              .int .i64 (vars_6.getD (0 + x_3.toNat) (.dead ())) fun x_a03d =>
              .ck (decide ((s_9.length + ([i64 x_a03d] : List TV).length) * 8 < lim)) <|
              .ret [tb true] [sl false ⟨1, false⟩ vars_6, .pt false () (.st [sl false ⟨1, false⟩ s_7, sl false ⟨1, false⟩ s_8, sl false ⟨1, false⟩ (s_9 ++ ([i64 x_a03d]))])]))))))
theorem e123 {x_0 : Int} {x_1 : Int} {x_2 : Int} {x_3 : Int} {x_4 : Int} {x_5 : Int} {vars_6 : List TV} {s_7 : List TV} {s_8 : List TV} {s_9 : List TV} {r : Res} (h : S cx 123 (N123 x_0 x_1 x_2 x_3 x_4 x_5 vars_6 s_7 s_8 s_9) = some r) : tw cx 123 [.st [i64 x_0, i64 x_1, i64 x_2, i64 x_3, i64 x_4, i64 x_5], sl false ⟨1, false⟩ vars_6, .pt false () (.st [sl false ⟨1, false⟩ s_7, sl false ⟨1, false⟩ s_8, sl false ⟨1, false⟩ s_9])] = some r :=
  tw_of (fun call hd hb pt rg => by kernel_rfl) h
/-! spec.l6Next -/
noncomputable def EG124_0 (b_0 : List TV) (b_1 : Int) (b_2 : Int) (b_3 : List TV) (k_4 : Int) : Env := [.un, .un, .val [] (.pt false () (.st [sl true ⟨6, false⟩ b_0, i64 b_1, i64 b_2, sl true ⟨1, false⟩ b_3])), .un, .un, .val [] (i64 k_4)] ++ uns 49
noncomputable abbrev G124_0 (b_0 : List TV) (b_1 : Int) (b_2 : Int) (b_3 : List TV) (k_4 : Int) : Nd := .go [1, 0, 1, 2, 1, 4, 1, 4, 1, 3, 1, 1] (EG124_0 b_0 b_1 b_2 b_3 k_4)
noncomputable def N124 (b_0 : List TV) (b_1 : Int) (b_2 : Int) (b_3 : List TV) (vars_4 : List TV) : Nd :=
  .bif ((b_1 == 1))
  (.ck (decide ((0 : Int) < ((b_3.length : Nat) : Int))) <|
    .int .i64 (b_3.getD 0 (.dead ())) fun x_1c58 =>
    .ret [i64 x_1c58] [])
  (.bif ((b_1 == 2))
    (.ck (decide ((0 : Int) ≤ b_2) && decide (b_2 < ((vars_4.length : Nat) : Int))) <|
      .int .i64 (vars_4.getD (0 + b_2.toNat) (.dead ())) fun x_4aba =>
      .bif ((x_4aba != 0))
      (.ck (decide ((0 : Int) < ((b_3.length : Nat) : Int))) <|
        .int .i64 (b_3.getD 0 (.dead ())) fun x_1c58 =>
        .ret [i64 x_1c58] [])
      (.ck (decide ((1 : Int) < ((b_3.length : Nat) : Int))) <|
        .int .i64 (b_3.getD 1 (.dead ())) fun x_6fa6 =>
        .ret [i64 x_6fa6] []))
    (.bif ((b_1 == 5))
      (.ck (decide ((0 : Int) ≤ b_2) && decide (b_2 < ((vars_4.length : Nat) : Int))) <|
        .int .i64 (vars_4.getD (0 + b_2.toNat) (.dead ())) fun x_4aba =>
        .bif (decide (x_4aba ≥ ((b_3.length : Nat) : Int)))
        (G124_0 b_0 b_1 b_2 b_3 (w64 (((b_3.length : Nat) : Int) - 1)))
        (G124_0 b_0 b_1 b_2 b_3 x_4aba))
      (.bif ((b_1 == 3))
        (.ret [i64 (-1)] [])
        (.ret [i64 (-2)] []))))
theorem e124 {b_0 : List TV} {b_1 : Int} {b_2 : Int} {b_3 : List TV} {vars_4 : List TV} {r : Res} (h : S cx 124 (N124 b_0 b_1 b_2 b_3 vars_4) = some r) : tw cx 124 [.st [sl true ⟨6, false⟩ b_0, i64 b_1, i64 b_2, sl true ⟨1, false⟩ b_3], sl true ⟨1, false⟩ vars_4] = some r :=
  tw_of (fun call hd hb pt rg => by kernel_rfl) h
noncomputable def NG124_0 (b_0 : List TV) (b_1 : Int) (b_2 : Int) (b_3 : List TV) (k_4 : Int) : Nd :=
  .ck (decide ((0 : Int) ≤ k_4) && decide (k_4 < ((b_3.length : Nat) : Int))) <|
  .int .i64 (b_3.getD (0 + k_4.toNat) (.dead ())) fun x_4712 =>
  .ret [i64 x_4712] []
theorem eG124_0 {b_0 : List TV} {b_1 : Int} {b_2 : Int} {b_3 : List TV} {k_4 : Int} {r : Res} (h : S cx 124 (NG124_0 b_0 b_1 b_2 b_3 k_4) = some r) : S cx 124 (G124_0 b_0 b_1 b_2 b_3 k_4) = some r :=
  pw_of (fun call hd hb pt rg => by kernel_rfl) h
/-! slices.ContainsFunc[[]impl.Block,impl.Block] -/
noncomputable def N125 (s_0 : List TV) (f_1 : List TV) : Nd :=
  C154 s_0 f_1 fun v_ba23 =>
  .ret [tb (decide (v_ba23 ≥ 0))] []
theorem e125 {s_0 : List TV} {f_1 : List TV} {r : Res} (h : S cx 125 (N125 s_0 f_1) = some r) : tw cx 125 [sl true ⟨4, true⟩ s_0, .cl 126 [.pt true () (sl true ⟨4, true⟩ f_1)]] = some r :=
  tw_of (fun call hd hb pt rg => by kernel_rfl) h
/-! impl.GoodFlow$1 -/
noncomputable def N126 (b_0 : List TV) (b_1 : Int) (b_2 : Int) (b_3 : List TV) (v_4 : List TV) : Nd :=
  C118 b_0 12 fun v_d16c =>
  .bif ((!v_d16c))
  (.ret [tb true] [])
  (C127 b_1 b_2 b_3 12 ((v_4.length : Nat) : Int) fun v_48b3 =>
    .ret [tb (!v_48b3)] [])
theorem e126 {b_0 : List TV} {b_1 : Int} {b_2 : Int} {b_3 : List TV} {v_4 : List TV} {r : Res} (h : S cx 126 (N126 b_0 b_1 b_2 b_3 v_4) = some r) : tw cx 126 [.st [sl true ⟨6, false⟩ b_0, i64 b_1, i64 b_2, sl true ⟨1, false⟩ b_3], .pt true () (sl true ⟨4, true⟩ v_4)] = some r :=
  tw_of (fun call hd hb pt rg => by kernel_rfl) h
/-! impl.goOK -/
noncomputable def N127_s0 (kind_0 : Int) (next_2 : List TV) (blocks_4 : Int) : Nd :=
  C156 next_2 blocks_4 fun v_2ee6 =>
  .bif (v_2ee6)
  (.ret [tb false] [])
  (.bif ((kind_0 == 1))
    (.ret [tb (((next_2.length : Nat) : Int) == 1)] [])
    (.bif ((kind_0 == 2))
      (.ret [tb (((next_2.length : Nat) : Int) == 2)] [])
      (.bif ((kind_0 == 5))
        (C65 ((next_2.length : Nat) : Int) 2 6 fun v_deed =>
          .ret [tb v_deed] [])
        (.bif ((kind_0 == 3))
          (.ret [tb (((next_2.length : Nat) : Int) == 0)] [])
          (.bif ((kind_0 == 4))
            (.ret [tb (((next_2.length : Nat) : Int) == 0)] [])
            (.ret [tb false] []))))))
noncomputable def N127_s1 (kind_0 : Int) (test_1 : Int) (next_2 : List TV) (blocks_4 : Int) : Nd :=
  C155 kind_0 fun v_65e2 =>
  .bif ((!v_65e2))
  (.bif ((test_1 != 0))
    (.ret [tb false] [])
    (N127_s0 kind_0 next_2 blocks_4))
  (N127_s0 kind_0 next_2 blocks_4)
noncomputable def N127 (kind_0 : Int) (test_1 : Int) (next_2 : List TV) (many_3 : Int) (blocks_4 : Int) : Nd :=
  C155 kind_0 fun v_8456 =>
  .bif (v_8456)
  (C65 test_1 0 (w64 (many_3 - 1)) fun v_9afb =>
    .bif ((!v_9afb))
    (.ret [tb false] [])
    (N127_s1 kind_0 test_1 next_2 blocks_4))
  (N127_s1 kind_0 test_1 next_2 blocks_4)
theorem e127 {kind_0 : Int} {test_1 : Int} {next_2 : List TV} {many_3 : Int} {blocks_4 : Int} {r : Res} (h : S cx 127 (N127 kind_0 test_1 next_2 many_3 blocks_4) = some r) : tw cx 127 [i64 kind_0, i64 test_1, sl true ⟨1, false⟩ next_2, i64 many_3, i64 blocks_4] = some r :=
  tw_of (fun call hd hb pt rg => by kernel_rfl) h
/-! impl.wordsOK -/
noncomputable def N128 (l_0 : List TV) : Nd :=
  C156_1 l_0 fun v_28f3 =>
  .ret [tb (!v_28f3)] []
theorem e128 {l_0 : List TV} {r : Res} (h : S cx 128 (N128 l_0) = some r) : tw cx 128 [sl true ⟨1, false⟩ l_0] = some r :=
  tw_of (fun call hd hb pt rg => by kernel_rfl) h
/-! slices.Clone[[]int,int] -/
noncomputable def N129 (s_0 : List TV) : Nd :=
  .isNil s_0
  (.amb2 
    (.ret [sl false ⟨1, false⟩ ([])] []) 
    (.ck (decide ((0 + s_0.length) * 8 < lim)) <|
      .ret [sl false ⟨1, false⟩ (([]) ++ s_0)] []))
  (.ck (decide ((0 + s_0.length) * 8 < lim)) <|
    .ret [sl false ⟨1, false⟩ (([]) ++ s_0)] [])
theorem e129 {s_0 : List TV} {r : Res} (h : S cx 129 (N129 s_0) = some r) : tw cx 129 [sl true ⟨1, false⟩ s_0] = some r :=
  tw_of (fun call hd hb pt rg => by kernel_rfl) h
/-! impl.doWord -/
noncomputable def N130 (op_0 : Int) (a_1 : Int) (b_2 : Int) : Nd :=
  .bif ((op_0 == 4))
  (.ret [i64 (w64 (((BitVec.ofInt 64 (w64 (a_1 + b_2)) &&& BitVec.ofInt 64 65535).toNat : Int))), tb true] [])
  (.bif ((op_0 == 5))
    (.ret [i64 (w64 (((BitVec.ofInt 64 (w64 (a_1 - b_2)) &&& BitVec.ofInt 64 65535).toNat : Int))), tb true] [])
    (.bif ((op_0 == 6))
      (.ret [i64 (w64 (((BitVec.ofInt 64 (w64 (a_1 * b_2)) &&& BitVec.ofInt 64 65535).toNat : Int))), tb true] [])
      (.bif ((op_0 == 7))
        (.bif ((b_2 == 0))
          (.ret [i64 0, tb false] [])
          (.ck ((!(decide (b_2 = 0)))) <|
            .ret [i64 (w64 (a_1.tdiv b_2)), tb true] []))
        (.bif ((op_0 == 8))
          (C134 (decide (a_1 < b_2)) fun v_4be3 =>
            .ret [i64 v_4be3, tb true] [])
          (C134 (a_1 == b_2) fun v_1ac2 =>
            .ret [i64 v_1ac2, tb true] [])))))
theorem e130 {op_0 : Int} {a_1 : Int} {b_2 : Int} {r : Res} (h : S cx 130 (N130 op_0 a_1 b_2) = some r) : tw cx 130 [i64 op_0, i64 a_1, i64 b_2] = some r :=
  tw_of (fun call hd hb pt rg => by kernel_rfl) h
/-! (*impl.State).load -/
noncomputable def N131 (s_0 : List TV) (s_1 : List TV) (s_2 : List TV) (at_3 : Int) : Nd :=
  .bif (decide (at_3 ≥ 16))
  (.ret [i64 0, tb false] [])
  (.ck (decide ((0 : Int) ≤ at_3) && decide (at_3 < ((s_1.length : Nat) : Int))) <|
    .int .i64 (s_1.getD (0 + at_3.toNat) (.dead ())) fun x_4a56 =>
    .ret [i64 x_4a56, tb true] [])
theorem e131 {s_0 : List TV} {s_1 : List TV} {s_2 : List TV} {at_3 : Int} {r : Res} (h : S cx 131 (N131 s_0 s_1 s_2 at_3) = some r) : tw cx 131 [.pt true () (.st [sl false ⟨1, false⟩ s_0, sl false ⟨1, false⟩ s_1, sl false ⟨1, false⟩ s_2]), i64 at_3] = some r :=
  tw_of (fun call hd hb pt rg => by kernel_rfl) h
/-! (*impl.State).store -/
noncomputable def N132 (s_0 : List TV) (s_1 : List TV) (s_2 : List TV) (at_3 : Int) (n_4 : Int) : Nd :=
  .bif (decide (at_3 ≥ 16))
  (.ret [tb false] [.pt false () (.st [sl false ⟨1, false⟩ s_0, sl false ⟨1, false⟩ s_1, sl false ⟨1, false⟩ s_2])])
  (.ck (decide ((0 : Int) ≤ at_3) && decide (at_3 < ((s_1.length : Nat) : Int))) <|
    .ret [tb true] [.pt false () (.st [sl false ⟨1, false⟩ s_0, sl false ⟨1, false⟩ (s_1.set (0 + at_3.toNat) (i64 n_4)), sl false ⟨1, false⟩ s_2])])
theorem e132 {s_0 : List TV} {s_1 : List TV} {s_2 : List TV} {at_3 : Int} {n_4 : Int} {r : Res} (h : S cx 132 (N132 s_0 s_1 s_2 at_3 n_4) = some r) : tw cx 132 [.pt false () (.st [sl false ⟨1, false⟩ s_0, sl false ⟨1, false⟩ s_1, sl false ⟨1, false⟩ s_2]), i64 at_3, i64 n_4] = some r :=
  tw_of (fun call hd hb pt rg => by kernel_rfl) h
/-! (*impl.State).tell -/
noncomputable def N133 (s_0 : List TV) (s_1 : List TV) (s_2 : List TV) (n_3 : Int) : Nd :=
  .bif ((((s_2.length : Nat) : Int) == 100))
  (.ret [tb false] [.pt false () (.st [sl false ⟨1, false⟩ s_0, sl false ⟨1, false⟩ s_1, sl false ⟨1, false⟩ s_2])])
  (.ck (decide ((s_2.length + ([i64 n_3] : List TV).length) * 8 < lim)) <|
    .ret [tb true] [.pt false () (.st [sl false ⟨1, false⟩ s_0, sl false ⟨1, false⟩ s_1, sl false ⟨1, false⟩ (s_2 ++ ([i64 n_3]))])])
theorem e133 {s_0 : List TV} {s_1 : List TV} {s_2 : List TV} {n_3 : Int} {r : Res} (h : S cx 133 (N133 s_0 s_1 s_2 n_3) = some r) : tw cx 133 [.pt false () (.st [sl false ⟨1, false⟩ s_0, sl false ⟨1, false⟩ s_1, sl false ⟨1, false⟩ s_2]), i64 n_3] = some r :=
  tw_of (fun call hd hb pt rg => by kernel_rfl) h
/-! impl.oneIf -/
noncomputable def N134 (is_0 : Bool) : Nd :=
  .bif (is_0)
  (.ret [i64 1] [])
  (.ret [i64 0] [])
theorem e134 {is_0 : Bool} {r : Res} (h : S cx 134 (N134 is_0) = some r) : tw cx 134 [tb is_0] = some r :=
  tw_of (fun call hd hb pt rg => by kernel_rfl) h
/-! spec.l6Name -/
noncomputable def N147 (n_0 : Int) : Nd :=
  C112 n_0 0 11 fun v_1f04 =>
  .ret [tb v_1f04] []
theorem e147 {n_0 : Int} {r : Res} (h : S cx 147 (N147 n_0) = some r) : tw cx 147 [i64 n_0] = some r :=
  tw_of (fun call hd hb pt rg => by kernel_rfl) h
/-! slices.ContainsFunc[[]impl.Flat,impl.Flat] -/
noncomputable def N150 (s_0 : List TV) (f_1 : Int) : Nd :=
  C181 s_0 f_1 fun v_ffa3 =>
  .ret [tb (decide (v_ffa3 ≥ 0))] []
theorem e150 {s_0 : List TV} {f_1 : Int} {r : Res} (h : S cx 150 (N150 s_0 f_1) = some r) : tw cx 150 [sl true ⟨6, false⟩ s_0, .cl 151 [.pt true () (i64 f_1)]] = some r :=
  tw_of (fun call hd hb pt rg => by kernel_rfl) h
/-! impl.codeOK$1 -/
noncomputable def N151 (x_0 : Int) (x_1 : Int) (x_2 : Int) (x_3 : Int) (x_4 : Int) (x_5 : Int) (v_6 : Int) : Nd :=
  C152 x_0 x_1 x_2 x_3 x_4 x_5 v_6 fun v_8ccc =>
  .ret [tb (!v_8ccc)] []
theorem e151 {x_0 : Int} {x_1 : Int} {x_2 : Int} {x_3 : Int} {x_4 : Int} {x_5 : Int} {v_6 : Int} {r : Res} (h : S cx 151 (N151 x_0 x_1 x_2 x_3 x_4 x_5 v_6) = some r) : tw cx 151 [.st [i64 x_0, i64 x_1, i64 x_2, i64 x_3, i64 x_4, i64 x_5], .pt true () (i64 v_6)] = some r :=
  tw_of (fun call hd hb pt rg => by kernel_rfl) h
/-! impl.flatOK -/
noncomputable def N152_s0 (x_1 : Int) (do_6f70 : Bool) : Nd :=
  .bif (do_6f70)
  (C179 x_1 fun v_ef6d =>
    .bif (v_ef6d)
    (.ret [tb true] [])
    (.bif ((!do_6f70))
      (.ret [tb (x_1 == 0)] [])
      (.ret [tb false] [])))
  (.bif ((!do_6f70))
    (.ret [tb (x_1 == 0)] [])
    (.ret [tb false] []))
noncomputable def N152_s1 (x_1 : Int) (x_5 : Int) (n_59db : Bool) (do_6f70 : Bool) : Nd :=
  .bif ((!n_59db))
  (.bif ((x_5 == 0))
    (N152_s0 x_1 do_6f70)
    (.ret [tb false] []))
  (.ret [tb false] [])
noncomputable def N152 (x_0 : Int) (x_1 : Int) (x_2 : Int) (x_3 : Int) (x_4 : Int) (x_5 : Int) (many_6 : Int) : Nd :=
  C114 x_0 fun dst_b770 a_571a b_3e26 n_59db do_6f70 v_dc2e =>
  .bif ((!v_dc2e))
  (.ret [tb false] [])
  (C182 dst_b770 x_2 many_6 fun v_756e =>
    .bif ((!v_756e))
    (.ret [tb false] [])
    (C182 a_571a x_3 many_6 fun v_d643 =>
      .bif ((!v_d643))
      (.ret [tb false] [])
      (C182 b_3e26 x_4 many_6 fun v_4d2d =>
        .bif ((!v_4d2d))
        (.ret [tb false] [])
        (.bif (n_59db)
          (C159 x_5 fun v_c879 =>
            .bif (v_c879)
            (N152_s0 x_1 do_6f70)
            (N152_s1 x_1 x_5 n_59db do_6f70))
          (N152_s1 x_1 x_5 n_59db do_6f70)))))
theorem e152 {x_0 : Int} {x_1 : Int} {x_2 : Int} {x_3 : Int} {x_4 : Int} {x_5 : Int} {many_6 : Int} {r : Res} (h : S cx 152 (N152 x_0 x_1 x_2 x_3 x_4 x_5 many_6) = some r) : tw cx 152 [.st [i64 x_0, i64 x_1, i64 x_2, i64 x_3, i64 x_4, i64 x_5], i64 many_6] = some r :=
  tw_of (fun call hd hb pt rg => by kernel_rfl) h
/-! spec.l5Do -/
noncomputable def N153 (op_0 : Int) (a_1 : Int) (b_2 : Int) : Nd :=
  .bif ((op_0 == 4))
  (.ret [i64 (w64 (((BitVec.ofInt 64 (w64 (a_1 + b_2)) &&& BitVec.ofInt 64 65535).toNat : Int))), tb true] [])
  (.bif ((op_0 == 5))
    (.ret [i64 (w64 (((BitVec.ofInt 64 (w64 (a_1 - b_2)) &&& BitVec.ofInt 64 65535).toNat : Int))), tb true] [])
    (.bif ((op_0 == 6))
      (.ret [i64 (w64 (((BitVec.ofInt 64 (w64 (a_1 * b_2)) &&& BitVec.ofInt 64 65535).toNat : Int))), tb true] [])
      (.bif ((op_0 == 7))
        (.bif ((b_2 == 0))
          (.ret [i64 0, tb false] [])
          (.ck ((!(decide (b_2 = 0)))) <|
            .ret [i64 (w64 (a_1.tdiv b_2)), tb true] []))
        (.bif ((op_0 == 8))
          (C183 (decide (a_1 < b_2)) fun v_89d6 =>
            .ret [i64 v_89d6, tb true] [])
          (C183 (a_1 == b_2) fun v_600e =>
            .ret [i64 v_600e, tb true] [])))))
theorem e153 {op_0 : Int} {a_1 : Int} {b_2 : Int} {r : Res} (h : S cx 153 (N153 op_0 a_1 b_2) = some r) : tw cx 153 [i64 op_0, i64 a_1, i64 b_2] = some r :=
  tw_of (fun call hd hb pt rg => by kernel_rfl) h
/-! slices.IndexFunc[[]impl.Block,impl.Block] -/
noncomputable def EH154_0 (s_0 : List TV) (f_1 : List TV) (v_2 : Int) : Env := [.val [] (sl true ⟨4, true⟩ s_0), .val [] (.cl 126 [.pt true () (sl true ⟨4, true⟩ f_1)]), .un, .un, .un, .un, .un, .val [] (i64 ((s_0.length : Nat) : Int)), .val [] (i64 v_2)] ++ uns 12
noncomputable abbrev H154_0 (s_0 : List TV) (f_1 : List TV) (v_2 : Int) : Nd := .head [1, 0, 1, 2] (EH154_0 s_0 f_1 v_2)
noncomputable abbrev B154_0 (s_0 : List TV) (f_1 : List TV) (v_2 : Int) : Nd := .back [1, 0, 1, 2] (EH154_0 s_0 f_1 v_2)
noncomputable def N154 (s_0 : List TV) (f_1 : List TV) : Nd :=
  H154_0 s_0 f_1 0
theorem e154 {s_0 : List TV} {f_1 : List TV} {r : Res} (h : S cx 154 (N154 s_0 f_1) = some r) : tw cx 154 [sl true ⟨4, true⟩ s_0, .cl 126 [.pt true () (sl true ⟨4, true⟩ f_1)]] = some r :=
  tw_of (fun call hd hb pt rg => by kernel_rfl) h
noncomputable def NH154_0 (s_0 : List TV) (f_1 : List TV) (v_2 : Int) : Nd :=
  .bif (decide (v_2 < ((s_0.length : Nat) : Int)))
  (.ck (decide ((0 : Int) ≤ v_2) && decide (v_2 < ((s_0.length : Nat) : Int))) <|
    V4 (s_0.getD (0 + v_2.toNat) (.dead ())) fun codes_8806 go_0bb1 test_8cba nexts_1f22 =>
    C126 codes_8806 go_0bb1 test_8cba nexts_1f22 f_1 fun v_41b5 =>
    .bif (v_41b5)
    (.ret [i64 v_2] [])
    (B154_0 s_0 f_1 (w64 (v_2 + 1))))
  (.ret [i64 (-1)] [])
theorem eH154_0 {s_0 : List TV} {f_1 : List TV} {v_2 : Int} {r : Res} (h : S cx 154 (NH154_0 s_0 f_1 v_2) = some r) : S cx 154 (H154_0 s_0 f_1 v_2) = some r :=
  hw_of (fun call hd hb pt rg => by kernel_rfl) h
/-! impl.tests -/
noncomputable def N155 (kind_0 : Int) : Nd :=
  .bif ((kind_0 == 2))
  (.ret [tb true] [])
  (.ret [tb (kind_0 == 5)] [])
theorem e155 {kind_0 : Int} {r : Res} (h : S cx 155 (N155 kind_0) = some r) : tw cx 155 [i64 kind_0] = some r :=
  tw_of (fun call hd hb pt rg => by kernel_rfl) h
/-! slices.ContainsFunc[[]int,int] -/
noncomputable def N156 (s_0 : List TV) : Nd :=
  C184 s_0 fun v_8d8c =>
  .ret [tb (decide (v_8d8c ≥ 0))] []
theorem e156 {s_0 : List TV} {r : Res} (h : S cx 156 (N156 s_0) = some r) : tw cx 156 [sl true ⟨1, false⟩ s_0, .cl 158 []] = some r :=
  tw_of (fun call hd hb pt rg => by kernel_rfl) h
/-! slices.ContainsFunc[[]int,int] -/
noncomputable def N156b (s_0 : List TV) (f_1 : Int) : Nd :=
  C184_1 s_0 f_1 fun v_b86f =>
  .ret [tb (decide (v_b86f ≥ 0))] []
theorem e156b {s_0 : List TV} {f_1 : Int} {r : Res} (h : S cx 156 (N156b s_0 f_1) = some r) : tw cx 156 [sl true ⟨1, false⟩ s_0, .cl 157 [.pt true () (i64 f_1)]] = some r :=
  tw_of (fun call hd hb pt rg => by kernel_rfl) h
/-! impl.goOK$1 -/
noncomputable def N157 (k_0 : Int) (v_1 : Int) : Nd :=
  C65 k_0 0 (w64 (v_1 - 1)) fun v_d6d7 =>
  .ret [tb (!v_d6d7)] []
theorem e157 {k_0 : Int} {v_1 : Int} {r : Res} (h : S cx 157 (N157 k_0 v_1) = some r) : tw cx 157 [i64 k_0, .pt true () (i64 v_1)] = some r :=
  tw_of (fun call hd hb pt rg => by kernel_rfl) h
/-! impl.wordsOK$1 -/
noncomputable def N158 (n_0 : Int) : Nd :=
  C159 n_0 fun v_96ee =>
  .ret [tb (!v_96ee)] []
theorem e158 {n_0 : Int} {r : Res} (h : S cx 158 (N158 n_0) = some r) : tw cx 158 [i64 n_0] = some r :=
  tw_of (fun call hd hb pt rg => by kernel_rfl) h
/-! impl.isWord -/
noncomputable def N159 (n_0 : Int) : Nd :=
  C65 n_0 0 65535 fun v_d8a5 =>
  .ret [tb v_d8a5] []
theorem e159 {n_0 : Int} {r : Res} (h : S cx 159 (N159 n_0) = some r) : tw cx 159 [i64 n_0] = some r :=
  tw_of (fun call hd hb pt rg => by kernel_rfl) h
/-! impl.isTwo -/
noncomputable def N179 (op_0 : Int) : Nd :=
  C65 op_0 4 9 fun v_9f8c =>
  .ret [tb v_9f8c] []
theorem e179 {op_0 : Int} {r : Res} (h : S cx 179 (N179 op_0) = some r) : tw cx 179 [i64 op_0] = some r :=
  tw_of (fun call hd hb pt rg => by kernel_rfl) h
/-! slices.IndexFunc[[]impl.Flat,impl.Flat] -/
noncomputable def EH181_0 (s_0 : List TV) (f_1 : Int) (v_2 : Int) : Env := [.val [] (sl true ⟨6, false⟩ s_0), .val [] (.cl 151 [.pt true () (i64 f_1)]), .un, .un, .un, .un, .un, .val [] (i64 ((s_0.length : Nat) : Int)), .val [] (i64 v_2)] ++ uns 12
noncomputable abbrev H181_0 (s_0 : List TV) (f_1 : Int) (v_2 : Int) : Nd := .head [1, 0, 1, 2] (EH181_0 s_0 f_1 v_2)
noncomputable abbrev B181_0 (s_0 : List TV) (f_1 : Int) (v_2 : Int) : Nd := .back [1, 0, 1, 2] (EH181_0 s_0 f_1 v_2)
noncomputable def N181 (s_0 : List TV) (f_1 : Int) : Nd :=
  H181_0 s_0 f_1 0
theorem e181 {s_0 : List TV} {f_1 : Int} {r : Res} (h : S cx 181 (N181 s_0 f_1) = some r) : tw cx 181 [sl true ⟨6, false⟩ s_0, .cl 151 [.pt true () (i64 f_1)]] = some r :=
  tw_of (fun call hd hb pt rg => by kernel_rfl) h
noncomputable def NH181_0 (s_0 : List TV) (f_1 : Int) (v_2 : Int) : Nd :=
  .bif (decide (v_2 < ((s_0.length : Nat) : Int)))
  (.ck (decide ((0 : Int) ≤ v_2) && decide (v_2 < ((s_0.length : Nat) : Int))) <|
    V6 (s_0.getD (0 + v_2.toNat) (.dead ())) fun op_5762 do_2a6b dst_68ab a_50bf b_9d57 n_7666 =>
    C151 op_5762 do_2a6b dst_68ab a_50bf b_9d57 n_7666 f_1 fun v_66e7 =>
    .bif (v_66e7)
    (.ret [i64 v_2] [])
    (B181_0 s_0 f_1 (w64 (v_2 + 1))))
  (.ret [i64 (-1)] [])
theorem eH181_0 {s_0 : List TV} {f_1 : Int} {v_2 : Int} {r : Res} (h : S cx 181 (NH181_0 s_0 f_1 v_2) = some r) : S cx 181 (H181_0 s_0 f_1 v_2) = some r :=
  hw_of (fun call hd hb pt rg => by kernel_rfl) h
/-! impl.flatOK$1 -/
noncomputable def N182_s0 (has_0 : Bool) (n_1 : Int) (v_2 : Int) : Nd :=
  .bif (has_0)
  (C65 n_1 0 (w64 (v_2 - 1)) fun v_a828 =>
    .ret [tb v_a828] [])
  (.ret [tb false] [])
noncomputable def N182 (has_0 : Bool) (n_1 : Int) (v_2 : Int) : Nd :=
  .bif ((!has_0))
  (.bif ((n_1 == 0))
    (.ret [tb true] [])
    (N182_s0 has_0 n_1 v_2))
  (N182_s0 has_0 n_1 v_2)
theorem e182 {has_0 : Bool} {n_1 : Int} {v_2 : Int} {r : Res} (h : S cx 182 (N182 has_0 n_1 v_2) = some r) : tw cx 182 [tb has_0, i64 n_1, .pt true () (i64 v_2)] = some r :=
  tw_of (fun call hd hb pt rg => by kernel_rfl) h
/-! spec.l5Bit -/
noncomputable def N183 (b_0 : Bool) : Nd :=
  .bif (b_0)
  (.ret [i64 1] [])
  (.ret [i64 0] [])
theorem e183 {b_0 : Bool} {r : Res} (h : S cx 183 (N183 b_0) = some r) : tw cx 183 [tb b_0] = some r :=
  tw_of (fun call hd hb pt rg => by kernel_rfl) h
end Go.Tree.Q

/- Trees of values: program points of functions. -/
namespace Go.Tree.Q
open Go.Proofs
set_option linter.unusedVariables false
set_option maxRecDepth 20000
/-! slices.IndexFunc[[]int,int] -/
noncomputable def EH184_0 (s_0 : List TV) (v_1 : Int) : Env := [.val [] (sl true ⟨1, false⟩ s_0), .val [] (.cl 158 []), .un, .un, .un, .un, .un, .val [] (i64 ((s_0.length : Nat) : Int)), .val [] (i64 v_1)] ++ uns 12
noncomputable abbrev H184_0 (s_0 : List TV) (v_1 : Int) : Nd := .head [1, 0, 1, 2] (EH184_0 s_0 v_1)
noncomputable abbrev B184_0 (s_0 : List TV) (v_1 : Int) : Nd := .back [1, 0, 1, 2] (EH184_0 s_0 v_1)
noncomputable def N184 (s_0 : List TV) : Nd :=
  H184_0 s_0 0
theorem e184 {s_0 : List TV} {r : Res} (h : S cx 184 (N184 s_0) = some r) : tw cx 184 [sl true ⟨1, false⟩ s_0, .cl 158 []] = some r :=
  tw_of (fun call hd hb pt rg => by kernel_rfl) h
noncomputable def NH184_0 (s_0 : List TV) (v_1 : Int) : Nd :=
  .bif (decide (v_1 < ((s_0.length : Nat) : Int)))
  (.ck (decide ((0 : Int) ≤ v_1) && decide (v_1 < ((s_0.length : Nat) : Int))) <|
    .int .i64 (s_0.getD (0 + v_1.toNat) (.dead ())) fun x_ad5c =>
    C158 x_ad5c fun v_600e =>
    .bif (v_600e)
    (.ret [i64 v_1] [])
    (B184_0 s_0 (w64 (v_1 + 1))))
  (.ret [i64 (-1)] [])
theorem eH184_0 {s_0 : List TV} {v_1 : Int} {r : Res} (h : S cx 184 (NH184_0 s_0 v_1) = some r) : S cx 184 (H184_0 s_0 v_1) = some r :=
  hw_of (fun call hd hb pt rg => by kernel_rfl) h
/-! slices.IndexFunc[[]int,int] -/
noncomputable def EH184_b_0 (s_0 : List TV) (f_1 : Int) (v_2 : Int) : Env := [.val [] (sl true ⟨1, false⟩ s_0), .val [] (.cl 157 [.pt true () (i64 f_1)]), .un, .un, .un, .un, .un, .val [] (i64 ((s_0.length : Nat) : Int)), .val [] (i64 v_2)] ++ uns 12
noncomputable abbrev H184_b_0 (s_0 : List TV) (f_1 : Int) (v_2 : Int) : Nd := .head [1, 0, 1, 2] (EH184_b_0 s_0 f_1 v_2)
noncomputable abbrev B184_b_0 (s_0 : List TV) (f_1 : Int) (v_2 : Int) : Nd := .back [1, 0, 1, 2] (EH184_b_0 s_0 f_1 v_2)
noncomputable def N184b (s_0 : List TV) (f_1 : Int) : Nd :=
  H184_b_0 s_0 f_1 0
theorem e184b {s_0 : List TV} {f_1 : Int} {r : Res} (h : S cx 184 (N184b s_0 f_1) = some r) : tw cx 184 [sl true ⟨1, false⟩ s_0, .cl 157 [.pt true () (i64 f_1)]] = some r :=
  tw_of (fun call hd hb pt rg => by kernel_rfl) h
noncomputable def NH184_b_0 (s_0 : List TV) (f_1 : Int) (v_2 : Int) : Nd :=
  .bif (decide (v_2 < ((s_0.length : Nat) : Int)))
  (.ck (decide ((0 : Int) ≤ v_2) && decide (v_2 < ((s_0.length : Nat) : Int))) <|
    .int .i64 (s_0.getD (0 + v_2.toNat) (.dead ())) fun x_5429 =>
    C157 x_5429 f_1 fun v_9e23 =>
    .bif (v_9e23)
    (.ret [i64 v_2] [])
    (B184_b_0 s_0 f_1 (w64 (v_2 + 1))))
  (.ret [i64 (-1)] [])
theorem eH184_b_0 {s_0 : List TV} {f_1 : Int} {v_2 : Int} {r : Res} (h : S cx 184 (NH184_b_0 s_0 f_1 v_2) = some r) : S cx 184 (H184_b_0 s_0 f_1 v_2) = some r :=
  hw_of (fun call hd hb pt rg => by kernel_rfl) h
end Go.Tree.Q
