/- The functions that the law reaches, told as points of a program. Conditions: none. -/
import Derived.Test.YtfjmogpgccnccaaGreatMt3
import Derived.Test.YtfjmogpgccnccaaGreatProg
import Derived.KernelRfl
/- Trees of values: what is told of the functions, and words for views and calls. -/
namespace Go.Tree.Q
open Go.Proofs
set_option linter.unusedVariables false
set_option maxRecDepth 20000
abbrev i64 (n : Int) : TV := .fl (.int .i64 n)
abbrev tb (b : Bool) : TV := .fl (.bool b)
abbrev tnil : TV := .fl (.pointer none)
abbrev sl (r : Bool) (k : Ek) (xs : List TV) : TV := .sl r k () xs
abbrev w64 (n : Int) : Int := IntKind.i64.wrap n
abbrev uns (n : Nat) : Env := List.replicate n .un
/-- slices.Grow of nil. -/
def g185 : List TV → Option Res
  | [.fl (.slice none 0 0), .fl (.int .i64 n)] => if 0 ≤ n ∧ n ≤ 1073741824 then some ([.sl false ⟨1, false⟩ () []], []) else none
  | _ => none
/-- The numbers from one on, in a row. -/
def marks (k : Int) (n : Nat) : List TV := (List.range n).map fun (i : Nat) => .fl (.int .i64 (k + (i : Int)))
def g19 : List TV → Option Res
  | [.st [.sl false ⟨1, false⟩ () xs, .sl false ⟨1, false⟩ () ys, .sl false ⟨1, false⟩ () zs], .fl (.int .i64 k)] =>
    if 0 ≤ k ∧ k ≤ 1152921504606846976 ∧ xs.length ≤ 1073741824 ∧ ys.length ≤ 1073741824 ∧ zs.length ≤ 1073741824 then
      some ([.fl (.int .i64 (k + xs.length + ys.length + zs.length))], [.st [.sl false ⟨1, false⟩ () (marks k xs.length), .sl false ⟨1, false⟩ () (marks (k + xs.length) ys.length), .sl false ⟨1, false⟩ () (marks (k + xs.length + ys.length) zs.length)]])
    else none
  | _ => none
/-- A table. -/
def tab {β : Type} (d : β) : List (Nat × β) → Nat → β
  | [], _ => d
  | (k, v) :: l, n => bif Nat.beq k n then v else tab d l n
/-- What the evaluator is told of the functions: who writes what, what lives where. -/
noncomputable def cx : Ctx where
  P := Tryz.prog
  sig := tab ⟨[], [], [], false⟩ [(18, ⟨[true], [], [], true⟩), (19, ⟨[true], [], [], true⟩), (20, ⟨[true], [], [], false⟩), (120, ⟨[true], [true], [], false⟩), (137, ⟨[true], [], [], false⟩), (141, ⟨[true], [], [], false⟩), (142, ⟨[true], [], [], false⟩), (165, ⟨[true], [], [], false⟩)]
  given := fun f => bif Nat.beq f 185 then some g185 else bif Nat.beq f 19 then some g19 else none
  keep := fun f r => tab [] [(17004, [0, 1, 5]), (20002, [0, 1, 5, 19]), (21002, [0, 1, 5]), (41005, [0, 1, 5]), (43004, [1, 30, 31, 32]), (43007, [1, 30, 31, 32, 37, 38, 39]), (43014, [1, 55, 56, 57]), (43025, [9, 11, 12, 87, 88, 89]), (43031, [9, 11, 12, 13, 14, 15, 87, 88, 89, 105, 106, 107]), (46004, [2, 3, 6, 7, 8, 9]), (46011, [2, 3, 6, 7, 8, 10, 41, 42, 43]), (46016, [2, 3, 6, 7, 10, 58, 59, 60]), (46026, [6, 7, 86, 87, 88]), (46039, [2, 3, 6, 7, 8, 9, 124, 125, 126]), (47003, [0, 3, 4]), (48003, [0, 3, 4]), (50004, [0, 1, 5]), (69006, [0, 2, 7, 8]), (69009, [0, 2, 7, 8, 33, 34, 35]), (81002, [2, 3, 12, 13, 14]), (81019, [2, 3, 163, 164, 165]), (82003, [1, 4, 5]), (82009, [1, 4, 28, 29, 30]), (82013, [1, 4, 6, 8, 28, 29, 30, 40, 41, 42]), (82019, [1, 4, 6, 8, 28, 29, 30, 55, 56, 57]), (83003, [2, 3, 10, 11, 12]), (83007, [2, 3, 6, 10, 11, 12, 17, 18, 19]), (84004, [1, 3, 4, 17, 18]), (84008, [1, 3, 4, 5, 6, 17, 18, 24, 25, 26]), (85002, [1, 2, 3, 4, 14, 15, 16]), (88005, [3, 20, 21, 22]), (89002, [0, 1, 7, 8, 9]), (90004, [2, 3, 4, 5, 6]), (94005, [1, 3, 31, 32]), (94014, [3, 56, 57]), (95005, [0, 2, 7, 8, 9]), (95010, [0, 2, 7, 8, 9, 10, 56, 73, 74, 75]), (112002, [1, 2, 11, 12, 13]), (112008, [1, 2, 22, 23, 24]), (114008, [7, 8]), (116002, [1, 7, 8, 9]), (120002, [0, 1, 5, 48]), (129005, [0, 1, 5]), (131005, [1, 2, 5, 6]), (131008, [1, 2, 5, 6, 25, 26, 27]), (134003, [0, 3, 4]), (135003, [0, 3, 4]), (136003, [3, 11, 12, 13]), (137005, [0, 1, 5, 14, 71, 72, 73, 115]), (137011, [0, 1, 5, 14, 86, 87, 88, 115]), (138003, [0, 3, 4, 16, 17]), (138008, [0, 3, 4, 27, 28, 29]), (138013, [0, 3, 4, 6, 8, 27, 28, 29, 41, 42]), (140003, [0, 1, 5, 16, 22, 23, 24]), (140006, [0, 1, 5, 6, 16, 22, 23, 24, 30, 31, 32]), (140015, [0, 1, 5, 16, 68, 69, 70]), (141002, [0, 10, 11, 12, 37]), (143004, [0, 1, 5]), (144004, [0, 1, 5]), (157002, [0, 1, 7, 8]), (158002, [0, 1, 7, 8]), (162002, [0, 1, 7, 8]), (164006, [0, 1, 42, 43, 44]), (167002, [0, 1, 7, 8]), (170003, [0, 3, 9, 10, 11]), (170011, [6, 25, 26, 27]), (171003, [0, 5, 11, 12, 13])] (f * 1000 + r)
  cut := fun f r => tab none [(3009, some [2, 3, 4, 8, 9]), (4009, some [2, 3, 4, 8, 9, 10]), (4032, some [8, 9, 10, 13, 17, 19, 20, 21]), (5009, some [2, 3, 4, 8, 9, 10, 11]), (5032, some [8, 9, 10, 11, 14, 19, 21, 22, 23, 24]), (46020, some [2, 3, 6, 7, 10, 14, 58, 59, 60]), (52501, some []), (69012, some [0, 2, 7, 8, 10, 33, 34, 35, 49]), (84011, some [1, 3, 4, 5, 6, 8, 17, 18, 24, 25, 26, 38]), (86006, some [1, 7]), (88004, some [1, 3]), (94003, some [1]), (94004, some [1, 3]), (94503, some []), (95002, some [0, 2, 4, 7]), (95003, some [0, 2, 7]), (114003, some [0, 1]), (114006, some [0, 6]), (130008, some [1, 22, 43]), (138002, some [0, 3, 4]), (141006, some [0, 6, 10, 11, 12, 37]), (159006, some [2, 4, 8]), (168005, some [1, 3, 4]), (168007, some [3])] (f * 1000 + r)
  pol := fun f => ⟨fun s i b => match tab 0 [(490340000000, 1), (940340000000, 1), (950340000000, 1), (1370340000000, 1), (1400340000000, 1), (1410340000000, 1), (1420340000000, 1), (1640340000000, 1), (1650340000000, 1), (1690340000000, 1)] ((f * 1000 + s) * 10000000 + i) with | 0 => !b | 1 => b | _ => true, fun t => tab false [(12076, true), (16076, true), (23076, true), (49076, true), (49135, true)] (f * 1000 + t)⟩
  inl := tab false [(59, true), (91, true), (109, true), (110, true)]
  own := tab false [(138, true), (185, true)]
theorem call_S {f g : FuncId} {args : List TV} {v : Res} {K : Res → Nd} {X : Option Res} (h : tw cx g args = some v) (e : S cx f (K v) = X) : S cx f (.call g args K) = X := by
  show Option.bind (tw cx g args) _ = X
  rw [h]
  exact e
def w0 (A0 : List TV) (A1 : Int) : AV Unit := .val [] (.pt false () (.st [sl true ⟨6, true⟩ A0, i64 A1]))
def w1 (A0 : List TV) (A1 : List TV) (A2 : List TV) : AV Unit := .val [] (.pt false () (.st [sl true ⟨1, false⟩ A0, sl true ⟨1, false⟩ A1, sl true ⟨1, false⟩ A2]))
def w2 : AV Unit := .val [] (.pt false () (.st [sl false ⟨1, false⟩ ([]), sl false ⟨1, false⟩ ([]), sl false ⟨1, false⟩ ([])]))
def w3 (A0 : List TV) : AV Unit := .val [] (sl true ⟨1, false⟩ A0)
def w4 (A0 : List TV) (A1 : List TV) (A2 : List TV) : AV Unit := .val [] (.st [sl true ⟨1, false⟩ A0, sl true ⟨1, false⟩ A1, sl true ⟨1, false⟩ A2])
def w5 (A0 : List TV) (A1 : Int) : AV Unit := .val [] (.st [sl true ⟨6, true⟩ A0, i64 A1])
def w6 (A0 : Int) : AV Unit := .val [] (i64 A0)
def w7 : AV Unit := .adr 1 [.d 34, .f 34 1]
def w8 (A0 : List TV) : AV Unit := .val [] (i64 ((A0.length : Nat) : Int))
def w9 : AV Unit := .val [] (sl false ⟨1, false⟩ ([]))
def w10 (A0 : List TV) : AV Unit := .val [] (sl false ⟨1, false⟩ A0)
def w11 : AV Unit := .val [] (sl false ⟨1, false⟩ ([i64 (-1)]))
def w12 (A0 : Int) : AV Unit := .val [] (sl false ⟨1, false⟩ (List.replicate A0.toNat (i64 0)))
def w13 (A0 : List TV) (A1 : Int) (A2 : List TV) (A3 : List TV) (A4 : List TV) (A5 : List TV) : AV Unit := .val [] (.pt true () (.st [.st [sl true ⟨6, true⟩ A0, i64 A1], sl false ⟨1, true⟩ A2, sl false ⟨1, true⟩ A3, sl false ⟨1, false⟩ A4, sl false ⟨1, false⟩ A5]))
def w14 : AV Unit := .val [] (.pt false () (.st [.st [sl false ⟨1, false⟩ ([]), sl false ⟨1, false⟩ ([]), sl false ⟨1, false⟩ ([])], i64 0, i64 0, sl false ⟨1, false⟩ ([]), i64 0, i64 0]))
def w15 : AV Unit := .adr 1 [.d 36, .f 36 0]
def w16 : AV Unit := .adr 1 [.d 36, .f 36 1]
def w17 : AV Unit := .adr 1 [.d 36, .f 36 2]
def w18 (A0 : List TV) : AV Unit := .val [] (sl false ⟨1, true⟩ A0)
def w19 (A0 : List TV) (A1 : List TV) (A2 : List TV) (A3 : Int) (A4 : Int) (A5 : List TV) (A6 : Int) (A7 : Int) : AV Unit := .val [] (.pt false () (.st [.st [sl false ⟨1, false⟩ A0, sl false ⟨1, false⟩ A1, sl false ⟨1, false⟩ A2], i64 A3, i64 A4, sl false ⟨1, false⟩ A5, i64 A6, i64 A7]))
def w20 (A0 : List TV) (A1 : List TV) (A2 : Int) (A3 : Int) (A4 : List TV) (A5 : List TV) : AV Unit := .val [] (.pt false () (.st [sl true ⟨1, false⟩ A0, sl true ⟨6, false⟩ A1, i64 A2, i64 A3, sl true ⟨1, false⟩ A4, sl true ⟨1, true⟩ A5]))
def w21 (A0 : List TV) : AV Unit := .val [] (sl false ⟨1, false⟩ (([]) ++ A0))
def w22 (A0 : List TV) (A1 : List TV) (A2 : List TV) (A3 : List TV) (A4 : Int) (A5 : Int) (A6 : Int) (A7 : Int) : AV Unit := .val [] (.pt false () (.st [.st [sl false ⟨1, false⟩ A0, sl false ⟨1, false⟩ A1, sl false ⟨1, false⟩ A2], sl false ⟨1, false⟩ A3, i64 A4, i64 A5, i64 A6, i64 A7]))
def w23 (A0 : List TV) (A1 : Int) (A2 : List TV) (A3 : List TV) (A4 : List TV) (A5 : List TV) : AV Unit := .val [] (.pt false () (.st [.st [sl true ⟨6, true⟩ A0, i64 A1], sl false ⟨1, true⟩ A2, sl false ⟨1, true⟩ A3, sl false ⟨1, false⟩ A4, sl false ⟨1, false⟩ A5]))
def w24 (A0 : List TV) : AV Unit := .val [] (sl true ⟨6, true⟩ A0)
def w25 (A0 : List TV) : AV Unit := .val [] (sl true ⟨6, false⟩ A0)
def w26 (A0 : List TV) : AV Unit := .val [] (sl true ⟨1, true⟩ A0)
def w27 (A0 : List TV) (A1 : List TV) (A2 : List TV) : AV Unit := .val [] (.pt false () (.st [sl false ⟨1, false⟩ A0, sl false ⟨1, false⟩ A1, sl false ⟨1, false⟩ A2]))
def w28 (A0 : Int) (A1 : Int) (A2 : Int) (A3 : Int) (A4 : Int) (A5 : Int) : AV Unit := .val [] (.pt false () (.st [i64 A0, i64 A1, i64 A2, i64 A3, i64 A4, i64 A5]))
def w29 (A0 : List TV) (A1 : List TV) (A2 : List TV) (A3 : List TV) : AV Unit := .val [] (.pt false () (.st [.st [sl false ⟨1, false⟩ A0, sl false ⟨1, false⟩ A1, sl false ⟨1, false⟩ A2], sl false ⟨1, false⟩ A3, i64 3, i64 0, i64 (-1), i64 0]))
def w30 (A0 : List TV) : AV Unit := .val [] (.pt false () (.st [sl true ⟨1, true⟩ A0]))
def w31 (A0 : List TV) : AV Unit := .val [] (.pt false () (.st [sl false ⟨1, true⟩ A0]))
noncomputable def C10 (B0 : List TV) (B1 : Int) (K : (List TV) → Int → Nd) : Nd := .call 10 [.st [sl true ⟨6, true⟩ B0, i64 B1]] fun R => .cons R.1 fun X0 X1 => .st X0 fun X2 => .cons X2 fun X3 X4 => .slO ⟨6, true⟩ X3 fun A0 => .cons X4 fun X5 X6 => .int .i64 X5 fun A1 => .nil X6 <| .nil X1 <| .nil R.2 <| K A0 A1
theorem C10_S {f : FuncId} {B0 : List TV} {B1 : Int} {A0 : List TV} {A1 : Int} {K : (List TV) → Int → Nd} (h : tw cx 10 [.st [sl true ⟨6, true⟩ B0, i64 B1]] = some ([.st [sl false ⟨6, true⟩ A0, i64 A1]], [])) : S cx f (C10 B0 B1 K) = S cx f (K A0 A1) := call_S h rfl
noncomputable def C11 (B0 : List TV) (B1 : List TV) (B2 : List TV) (K : (List TV) → (List TV) → (List TV) → Nd) : Nd := .call 11 [.st [sl true ⟨1, false⟩ B0, sl true ⟨1, false⟩ B1, sl true ⟨1, false⟩ B2]] fun R => .cons R.1 fun X0 X1 => .st X0 fun X2 => .cons X2 fun X3 X4 => .slO ⟨1, false⟩ X3 fun A0 => .cons X4 fun X5 X6 => .slO ⟨1, false⟩ X5 fun A1 => .cons X6 fun X7 X8 => .slO ⟨1, false⟩ X7 fun A2 => .nil X8 <| .nil X1 <| .nil R.2 <| K A0 A1 A2
theorem C11_S {f : FuncId} {B0 : List TV} {B1 : List TV} {B2 : List TV} {A0 : List TV} {A1 : List TV} {A2 : List TV} {K : (List TV) → (List TV) → (List TV) → Nd} (h : tw cx 11 [.st [sl true ⟨1, false⟩ B0, sl true ⟨1, false⟩ B1, sl true ⟨1, false⟩ B2]] = some ([.st [sl false ⟨1, false⟩ A0, sl false ⟨1, false⟩ A1, sl false ⟨1, false⟩ A2]], [])) : S cx f (C11 B0 B1 B2 K) = S cx f (K A0 A1 A2) := call_S h rfl
noncomputable def C9 (B0 : List TV) (B1 : Int) (B2 : List TV) (B3 : List TV) (B4 : List TV) (B5 : Int) (K : Int → Bool → Nd) : Nd := .call 9 [.st [sl true ⟨6, true⟩ B0, i64 B1], .st [sl true ⟨1, false⟩ B2, sl true ⟨1, false⟩ B3, sl true ⟨1, false⟩ B4], i64 B5] fun R => .cons R.1 fun X0 X1 => .int .i64 X0 fun A0 => .cons X1 fun X2 X3 => .bool X2 fun A1 => .nil X3 <| .nil R.2 <| K A0 A1
theorem C9_S {f : FuncId} {B0 : List TV} {B1 : Int} {B2 : List TV} {B3 : List TV} {B4 : List TV} {B5 : Int} {A0 : Int} {A1 : Bool} {K : Int → Bool → Nd} (h : tw cx 9 [.st [sl true ⟨6, true⟩ B0, i64 B1], .st [sl true ⟨1, false⟩ B2, sl true ⟨1, false⟩ B3, sl true ⟨1, false⟩ B4], i64 B5] = some ([i64 A0, tb A1], [])) : S cx f (C9 B0 B1 B2 B3 B4 B5 K) = S cx f (K A0 A1) := call_S h rfl
noncomputable def C7 (B0 : List TV) (B1 : Int) (B2 : Int) (K : Int → Nd) : Nd := .call 7 [.st [sl true ⟨6, true⟩ B0, i64 B1], i64 B2] fun R => .cons R.1 fun X0 X1 => .int .i64 X0 fun A0 => .nil X1 <| .nil R.2 <| K A0
theorem C7_S {f : FuncId} {B0 : List TV} {B1 : Int} {B2 : Int} {A0 : Int} {K : Int → Nd} (h : tw cx 7 [.st [sl true ⟨6, true⟩ B0, i64 B1], i64 B2] = some ([i64 A0], [])) : S cx f (C7 B0 B1 B2 K) = S cx f (K A0) := call_S h rfl
noncomputable def C8 (B0 : List TV) (B1 : List TV) (B2 : List TV) (B3 : Int) (K : Int → Nd) : Nd := .call 8 [.st [sl true ⟨1, false⟩ B0, sl true ⟨1, false⟩ B1, sl true ⟨1, false⟩ B2], i64 B3] fun R => .cons R.1 fun X0 X1 => .int .i64 X0 fun A0 => .nil X1 <| .nil R.2 <| K A0
theorem C8_S {f : FuncId} {B0 : List TV} {B1 : List TV} {B2 : List TV} {B3 : Int} {A0 : Int} {K : Int → Nd} (h : tw cx 8 [.st [sl true ⟨1, false⟩ B0, sl true ⟨1, false⟩ B1, sl true ⟨1, false⟩ B2], i64 B3] = some ([i64 A0], [])) : S cx f (C8 B0 B1 B2 B3 K) = S cx f (K A0) := call_S h rfl
noncomputable def C14 (B0 : List TV) (B1 : List TV) (B2 : List TV) (B3 : List TV) (B4 : List TV) (B5 : List TV) (K : Bool → Nd) : Nd := .call 14 [.st [sl true ⟨1, false⟩ B0, sl true ⟨1, false⟩ B1, sl true ⟨1, false⟩ B2], .st [sl true ⟨1, false⟩ B3, sl true ⟨1, false⟩ B4, sl true ⟨1, false⟩ B5]] fun R => .cons R.1 fun X0 X1 => .bool X0 fun A0 => .nil X1 <| .nil R.2 <| K A0
theorem C14_S {f : FuncId} {B0 : List TV} {B1 : List TV} {B2 : List TV} {B3 : List TV} {B4 : List TV} {B5 : List TV} {A0 : Bool} {K : Bool → Nd} (h : tw cx 14 [.st [sl true ⟨1, false⟩ B0, sl true ⟨1, false⟩ B1, sl true ⟨1, false⟩ B2], .st [sl true ⟨1, false⟩ B3, sl true ⟨1, false⟩ B4, sl true ⟨1, false⟩ B5]] = some ([tb A0], [])) : S cx f (C14 B0 B1 B2 B3 B4 B5 K) = S cx f (K A0) := call_S h rfl
noncomputable def C13 (B0 : List TV) (B1 : Int) (B2 : List TV) (B3 : Int) (K : Bool → Nd) : Nd := .call 13 [.st [sl true ⟨6, true⟩ B0, i64 B1], .st [sl true ⟨6, true⟩ B2, i64 B3]] fun R => .cons R.1 fun X0 X1 => .bool X0 fun A0 => .nil X1 <| .nil R.2 <| K A0
theorem C13_S {f : FuncId} {B0 : List TV} {B1 : Int} {B2 : List TV} {B3 : Int} {A0 : Bool} {K : Bool → Nd} (h : tw cx 13 [.st [sl true ⟨6, true⟩ B0, i64 B1], .st [sl true ⟨6, true⟩ B2, i64 B3]] = some ([tb A0], [])) : S cx f (C13 B0 B1 B2 B3 K) = S cx f (K A0) := call_S h rfl
noncomputable def C12 (B0 : List TV) (B1 : Int) (B2 : List TV) (B3 : List TV) (B4 : List TV) (B5 : Int) (K : Int → Bool → Nd) : Nd := .call 12 [.st [sl true ⟨6, true⟩ B0, i64 B1], .st [sl true ⟨1, false⟩ B2, sl true ⟨1, false⟩ B3, sl true ⟨1, false⟩ B4], i64 B5] fun R => .cons R.1 fun X0 X1 => .int .i64 X0 fun A0 => .cons X1 fun X2 X3 => .bool X2 fun A1 => .nil X3 <| .nil R.2 <| K A0 A1
theorem C12_S {f : FuncId} {B0 : List TV} {B1 : Int} {B2 : List TV} {B3 : List TV} {B4 : List TV} {B5 : Int} {A0 : Int} {A1 : Bool} {K : Int → Bool → Nd} (h : tw cx 12 [.st [sl true ⟨6, true⟩ B0, i64 B1], .st [sl true ⟨1, false⟩ B2, sl true ⟨1, false⟩ B3, sl true ⟨1, false⟩ B4], i64 B5] = some ([i64 A0, tb A1], [])) : S cx f (C12 B0 B1 B2 B3 B4 B5 K) = S cx f (K A0 A1) := call_S h rfl
noncomputable def C15 (B0 : List TV) (B1 : Int) (B2 : List TV) (B3 : List TV) (B4 : List TV) (B5 : Int) (K : (List TV) → Int → Bool → Nd) : Nd := .call 15 [.st [sl true ⟨6, true⟩ B0, i64 B1], .st [sl true ⟨1, false⟩ B2, sl true ⟨1, false⟩ B3, sl true ⟨1, false⟩ B4], i64 B5] fun R => .cons R.1 fun X0 X1 => .slO ⟨1, false⟩ X0 fun A0 => .cons X1 fun X2 X3 => .int .i64 X2 fun A1 => .cons X3 fun X4 X5 => .bool X4 fun A2 => .nil X5 <| .nil R.2 <| K A0 A1 A2
noncomputable def C17 (B0 : List TV) (B1 : List TV) (K : Bool → Nd) : Nd := .call 17 [sl true ⟨1, false⟩ B0, sl true ⟨1, false⟩ B1] fun R => .cons R.1 fun X0 X1 => .bool X0 fun A0 => .nil X1 <| .nil R.2 <| K A0
theorem C17_S {f : FuncId} {B0 : List TV} {B1 : List TV} {A0 : Bool} {K : Bool → Nd} (h : tw cx 17 [sl true ⟨1, false⟩ B0, sl true ⟨1, false⟩ B1] = some ([tb A0], [])) : S cx f (C17 B0 B1 K) = S cx f (K A0) := call_S h rfl
noncomputable def C22 (B0 : List TV) (B1 : Int) (B2 : List TV) (B3 : List TV) (B4 : List TV) (B5 : Int) (K : (List TV) → (List TV) → (List TV) → Int → Int → Bool → Nd) : Nd := .call 22 [.st [sl true ⟨6, true⟩ B0, i64 B1], .st [sl true ⟨1, false⟩ B2, sl true ⟨1, false⟩ B3, sl true ⟨1, false⟩ B4], i64 B5] fun R => .cons R.1 fun X0 X1 => .st X0 fun X2 => .cons X2 fun X3 X4 => .slO ⟨1, false⟩ X3 fun A0 => .cons X4 fun X5 X6 => .slO ⟨1, false⟩ X5 fun A1 => .cons X6 fun X7 X8 => .slO ⟨1, false⟩ X7 fun A2 => .nil X8 <| .cons X1 fun X9 X10 => .int .i64 X9 fun A3 => .cons X10 fun X11 X12 => .int .i64 X11 fun A4 => .cons X12 fun X13 X14 => .bool X13 fun A5 => .nil X14 <| .nil R.2 <| K A0 A1 A2 A3 A4 A5
noncomputable def C41 (B0 : List TV) (B1 : Int) (K : Int → Nd) : Nd := .call 41 [sl true ⟨6, true⟩ B0, i64 B1] fun R => .cons R.1 fun X0 X1 => .int .i64 X0 fun A0 => .nil X1 <| .nil R.2 <| K A0
theorem C41_S {f : FuncId} {B0 : List TV} {B1 : Int} {A0 : Int} {K : Int → Nd} (h : tw cx 41 [sl true ⟨6, true⟩ B0, i64 B1] = some ([i64 A0], [])) : S cx f (C41 B0 B1 K) = S cx f (K A0) := call_S h rfl
noncomputable def C42 (B0 : List TV) (B1 : Int) (K : Int → Nd) : Nd := .call 42 [sl true ⟨1, false⟩ B0, i64 B1] fun R => .cons R.1 fun X0 X1 => .int .i64 X0 fun A0 => .nil X1 <| .nil R.2 <| K A0
theorem C42_S {f : FuncId} {B0 : List TV} {B1 : Int} {A0 : Int} {K : Int → Nd} (h : tw cx 42 [sl true ⟨1, false⟩ B0, i64 B1] = some ([i64 A0], [])) : S cx f (C42 B0 B1 K) = S cx f (K A0) := call_S h rfl
noncomputable def C43 (B0 : List TV) (B1 : Int) (K : Bool → Nd) : Nd := .call 43 [.st [sl true ⟨6, true⟩ B0, i64 B1]] fun R => .cons R.1 fun X0 X1 => .bool X0 fun A0 => .nil X1 <| .nil R.2 <| K A0
theorem C43_S {f : FuncId} {B0 : List TV} {B1 : Int} {A0 : Bool} {K : Bool → Nd} (h : tw cx 43 [.st [sl true ⟨6, true⟩ B0, i64 B1]] = some ([tb A0], [])) : S cx f (C43 B0 B1 K) = S cx f (K A0) := call_S h rfl
noncomputable def C44 (B0 : List TV) (B1 : List TV) (B2 : List TV) (K : Bool → Nd) : Nd := .call 44 [.st [sl true ⟨1, false⟩ B0, sl true ⟨1, false⟩ B1, sl true ⟨1, false⟩ B2]] fun R => .cons R.1 fun X0 X1 => .bool X0 fun A0 => .nil X1 <| .nil R.2 <| K A0
theorem C44_S {f : FuncId} {B0 : List TV} {B1 : List TV} {B2 : List TV} {A0 : Bool} {K : Bool → Nd} (h : tw cx 44 [.st [sl true ⟨1, false⟩ B0, sl true ⟨1, false⟩ B1, sl true ⟨1, false⟩ B2]] = some ([tb A0], [])) : S cx f (C44 B0 B1 B2 K) = S cx f (K A0) := call_S h rfl
noncomputable def C45 (B0 : Int) (K : Bool → Nd) : Nd := .call 45 [i64 B0] fun R => .cons R.1 fun X0 X1 => .bool X0 fun A0 => .nil X1 <| .nil R.2 <| K A0
theorem C45_S {f : FuncId} {B0 : Int} {A0 : Bool} {K : Bool → Nd} (h : tw cx 45 [i64 B0] = some ([tb A0], [])) : S cx f (C45 B0 K) = S cx f (K A0) := call_S h rfl
noncomputable def C46 (B0 : List TV) (B1 : Int) (B2 : List TV) (B3 : List TV) (B4 : List TV) (B5 : Int) (K : (List TV) → (List TV) → (List TV) → Int → Int → (List TV) → Int → Int → Nd) : Nd := .call 46 [.st [sl true ⟨6, true⟩ B0, i64 B1], .st [sl true ⟨1, false⟩ B2, sl true ⟨1, false⟩ B3, sl true ⟨1, false⟩ B4], i64 B5] fun R => .cons R.1 fun X0 X1 => .st X0 fun X2 => .cons X2 fun X3 X4 => .st X3 fun X5 => .cons X5 fun X6 X7 => .slO ⟨1, false⟩ X6 fun A0 => .cons X7 fun X8 X9 => .slO ⟨1, false⟩ X8 fun A1 => .cons X9 fun X10 X11 => .slO ⟨1, false⟩ X10 fun A2 => .nil X11 <| .cons X4 fun X12 X13 => .int .i64 X12 fun A3 => .cons X13 fun X14 X15 => .int .i64 X14 fun A4 => .cons X15 fun X16 X17 => .slO ⟨1, false⟩ X16 fun A5 => .cons X17 fun X18 X19 => .int .i64 X18 fun A6 => .cons X19 fun X20 X21 => .int .i64 X20 fun A7 => .nil X21 <| .nil X1 <| .nil R.2 <| K A0 A1 A2 A3 A4 A5 A6 A7
theorem C46_S {f : FuncId} {B0 : List TV} {B1 : Int} {B2 : List TV} {B3 : List TV} {B4 : List TV} {B5 : Int} {A0 : List TV} {A1 : List TV} {A2 : List TV} {A3 : Int} {A4 : Int} {A5 : List TV} {A6 : Int} {A7 : Int} {K : (List TV) → (List TV) → (List TV) → Int → Int → (List TV) → Int → Int → Nd} (h : tw cx 46 [.st [sl true ⟨6, true⟩ B0, i64 B1], .st [sl true ⟨1, false⟩ B2, sl true ⟨1, false⟩ B3, sl true ⟨1, false⟩ B4], i64 B5] = some ([.st [.st [sl false ⟨1, false⟩ A0, sl false ⟨1, false⟩ A1, sl false ⟨1, false⟩ A2], i64 A3, i64 A4, sl false ⟨1, false⟩ A5, i64 A6, i64 A7]], [])) : S cx f (C46 B0 B1 B2 B3 B4 B5 K) = S cx f (K A0 A1 A2 A3 A4 A5 A6 A7) := call_S h rfl
noncomputable def C47 (B0 : List TV) (K : (List TV) → Nd) : Nd := .call 47 [sl true ⟨6, true⟩ B0] fun R => .cons R.1 fun X0 X1 => .slO ⟨6, true⟩ X0 fun A0 => .nil X1 <| .nil R.2 <| K A0
theorem C47_S {f : FuncId} {B0 : List TV} {A0 : List TV} {K : (List TV) → Nd} (h : tw cx 47 [sl true ⟨6, true⟩ B0] = some ([sl false ⟨6, true⟩ A0], [])) : S cx f (C47 B0 K) = S cx f (K A0) := call_S h rfl
noncomputable def C48 (B0 : List TV) (K : (List TV) → Nd) : Nd := .call 48 [sl true ⟨1, false⟩ B0] fun R => .cons R.1 fun X0 X1 => .slO ⟨1, false⟩ X0 fun A0 => .nil X1 <| .nil R.2 <| K A0
theorem C48_S {f : FuncId} {B0 : List TV} {A0 : List TV} {K : (List TV) → Nd} (h : tw cx 48 [sl true ⟨1, false⟩ B0] = some ([sl false ⟨1, false⟩ A0], [])) : S cx f (C48 B0 K) = S cx f (K A0) := call_S h rfl
noncomputable def V3 (t : TV) (K : (List TV) → (List TV) → (List TV) → Nd) : Nd := .st t fun L => .cons L fun TV0 L0 => .slO ⟨1, false⟩ TV0 fun A0 => .cons L0 fun TV1 L1 => .slO ⟨1, false⟩ TV1 fun A1 => .cons L1 fun TV2 L2 => .slO ⟨1, false⟩ TV2 fun A2 => .nil L2 <| K A0 A1 A2
noncomputable def C50 (B0 : List TV) (B1 : List TV) (K : Bool → Nd) : Nd := .call 50 [sl true ⟨6, true⟩ B0, sl true ⟨6, true⟩ B1] fun R => .cons R.1 fun X0 X1 => .bool X0 fun A0 => .nil X1 <| .nil R.2 <| K A0
theorem C50_S {f : FuncId} {B0 : List TV} {B1 : List TV} {A0 : Bool} {K : Bool → Nd} (h : tw cx 50 [sl true ⟨6, true⟩ B0, sl true ⟨6, true⟩ B1] = some ([tb A0], [])) : S cx f (C50 B0 B1 K) = S cx f (K A0) := call_S h rfl
noncomputable def C52 (B0 : List TV) (B1 : List TV) (B2 : List TV) (K : (List TV) → (List TV) → (List TV) → Nd) : Nd := .call 52 [.st [sl true ⟨1, false⟩ B0, sl true ⟨1, false⟩ B1, sl true ⟨1, false⟩ B2]] fun R => .cons R.1 fun X0 X1 => .st X0 fun X2 => .cons X2 fun X3 X4 => .slO ⟨1, false⟩ X3 fun A0 => .cons X4 fun X5 X6 => .slO ⟨1, false⟩ X5 fun A1 => .cons X6 fun X7 X8 => .slO ⟨1, false⟩ X7 fun A2 => .nil X8 <| .nil X1 <| .nil R.2 <| K A0 A1 A2
theorem C52_S {f : FuncId} {B0 : List TV} {B1 : List TV} {B2 : List TV} {A0 : List TV} {A1 : List TV} {A2 : List TV} {K : (List TV) → (List TV) → (List TV) → Nd} (h : tw cx 52 [.st [sl true ⟨1, false⟩ B0, sl true ⟨1, false⟩ B1, sl true ⟨1, false⟩ B2]] = some ([.st [sl false ⟨1, false⟩ A0, sl false ⟨1, false⟩ A1, sl false ⟨1, false⟩ A2]], [])) : S cx f (C52 B0 B1 B2 K) = S cx f (K A0 A1 A2) := call_S h rfl
noncomputable def V6 (t : TV) (K : (List TV) → (List TV) → Int → Int → (List TV) → (List TV) → Nd) : Nd := .st t fun L => .cons L fun TV0 L0 => .slR ⟨1, false⟩ TV0 fun A0 => .cons L0 fun TV1 L1 => .slR ⟨6, false⟩ TV1 fun A1 => .cons L1 fun TV2 L2 => .int .i64 TV2 fun A2 => .cons L2 fun TV3 L3 => .int .i64 TV3 fun A3 => .cons L3 fun TV4 L4 => .slR ⟨1, false⟩ TV4 fun A4 => .cons L4 fun TV5 L5 => .slR ⟨1, true⟩ TV5 fun A5 => .nil L5 <| K A0 A1 A2 A3 A4 A5
theorem V6_S {f : FuncId} {A0 : List TV} {A1 : List TV} {A2 : Int} {A3 : Int} {A4 : List TV} {A5 : List TV} {q0 : Bool} {q1 : Bool} {q2 : Bool} {q3 : Bool} {K : (List TV) → (List TV) → Int → Int → (List TV) → (List TV) → Nd} : S cx f (V6 (.st [sl q0 ⟨1, false⟩ A0, sl q1 ⟨6, false⟩ A1, i64 A2, i64 A3, sl q2 ⟨1, false⟩ A4, sl q3 ⟨1, true⟩ A5]) K) = S cx f (K A0 A1 A2 A3 A4 A5) := rfl
noncomputable def C79 (B0 : List TV) (B1 : List TV) (B2 : Int) (B3 : Int) (B4 : List TV) (B5 : List TV) (B6 : Int) (K : Int → Nd) : Nd := .call 79 [.st [sl true ⟨1, false⟩ B0, sl true ⟨6, false⟩ B1, i64 B2, i64 B3, sl true ⟨1, false⟩ B4, sl true ⟨1, true⟩ B5], i64 B6] fun R => .cons R.1 fun X0 X1 => .int .i64 X0 fun A0 => .nil X1 <| .nil R.2 <| K A0
theorem C79_S {f : FuncId} {B0 : List TV} {B1 : List TV} {B2 : Int} {B3 : Int} {B4 : List TV} {B5 : List TV} {B6 : Int} {A0 : Int} {K : Int → Nd} (h : tw cx 79 [.st [sl true ⟨1, false⟩ B0, sl true ⟨6, false⟩ B1, i64 B2, i64 B3, sl true ⟨1, false⟩ B4, sl true ⟨1, true⟩ B5], i64 B6] = some ([i64 A0], [])) : S cx f (C79 B0 B1 B2 B3 B4 B5 B6 K) = S cx f (K A0) := call_S h rfl
noncomputable def C80 (B0 : Int) (B1 : Int) (B2 : Int) (K : Bool → Nd) : Nd := .call 80 [i64 B0, i64 B1, i64 B2] fun R => .cons R.1 fun X0 X1 => .bool X0 fun A0 => .nil X1 <| .nil R.2 <| K A0
theorem C80_S {f : FuncId} {B0 : Int} {B1 : Int} {B2 : Int} {A0 : Bool} {K : Bool → Nd} (h : tw cx 80 [i64 B0, i64 B1, i64 B2] = some ([tb A0], [])) : S cx f (C80 B0 B1 B2 K) = S cx f (K A0) := call_S h rfl
noncomputable def C81 (B0 : List TV) (B1 : Int) (B2 : List TV) (B3 : List TV) (B4 : Int) (B5 : Int) (B6 : List TV) (B7 : List TV) (K : Bool → Nd) : Nd := .call 81 [.st [sl true ⟨6, true⟩ B0, i64 B1], .st [sl true ⟨1, false⟩ B2, sl true ⟨6, false⟩ B3, i64 B4, i64 B5, sl true ⟨1, false⟩ B6, sl true ⟨1, true⟩ B7]] fun R => .cons R.1 fun X0 X1 => .bool X0 fun A0 => .nil X1 <| .nil R.2 <| K A0
theorem C81_S {f : FuncId} {B0 : List TV} {B1 : Int} {B2 : List TV} {B3 : List TV} {B4 : Int} {B5 : Int} {B6 : List TV} {B7 : List TV} {A0 : Bool} {K : Bool → Nd} (h : tw cx 81 [.st [sl true ⟨6, true⟩ B0, i64 B1], .st [sl true ⟨1, false⟩ B2, sl true ⟨6, false⟩ B3, i64 B4, i64 B5, sl true ⟨1, false⟩ B6, sl true ⟨1, true⟩ B7]] = some ([tb A0], [])) : S cx f (C81 B0 B1 B2 B3 B4 B5 B6 B7 K) = S cx f (K A0) := call_S h rfl
noncomputable def C82 (B0 : List TV) (B1 : Int) (K : (List TV) → Bool → Nd) : Nd := .call 82 [.st [sl true ⟨6, true⟩ B0, i64 B1]] fun R => .cons R.1 fun X0 X1 => .slO ⟨1, false⟩ X0 fun A0 => .cons X1 fun X2 X3 => .bool X2 fun A1 => .nil X3 <| .nil R.2 <| K A0 A1
theorem C82_S {f : FuncId} {B0 : List TV} {B1 : Int} {A0 : List TV} {A1 : Bool} {K : (List TV) → Bool → Nd} (h : tw cx 82 [.st [sl true ⟨6, true⟩ B0, i64 B1]] = some ([sl false ⟨1, false⟩ A0, tb A1], [])) : S cx f (C82 B0 B1 K) = S cx f (K A0 A1) := call_S h rfl
noncomputable def C83 (B0 : List TV) (B1 : Int) (K : (List TV) → Nd) : Nd := .call 83 [.st [sl true ⟨6, true⟩ B0, i64 B1]] fun R => .cons R.1 fun X0 X1 => .st X0 fun X2 => .cons X2 fun X3 X4 => .slO ⟨1, true⟩ X3 fun A0 => .nil X4 <| .nil X1 <| .nil R.2 <| K A0
theorem C83_S {f : FuncId} {B0 : List TV} {B1 : Int} {A0 : List TV} {K : (List TV) → Nd} (h : tw cx 83 [.st [sl true ⟨6, true⟩ B0, i64 B1]] = some ([.st [sl false ⟨1, true⟩ A0]], [])) : S cx f (C83 B0 B1 K) = S cx f (K A0) := call_S h rfl
noncomputable def C84 (B0 : List TV) (K : (List TV) → Nd) : Nd := .call 84 [.st [sl true ⟨1, true⟩ B0]] fun R => .cons R.1 fun X0 X1 => .slO ⟨1, true⟩ X0 fun A0 => .nil X1 <| .nil R.2 <| K A0
theorem C84_S {f : FuncId} {B0 : List TV} {A0 : List TV} {K : (List TV) → Nd} (h : tw cx 84 [.st [sl true ⟨1, true⟩ B0]] = some ([sl false ⟨1, true⟩ A0], [])) : S cx f (C84 B0 K) = S cx f (K A0) := call_S h rfl
noncomputable def C85 (B0 : List TV) (B1 : List TV) (B2 : List TV) (B3 : List TV) (B4 : Int) (K : Bool → Nd) : Nd := .call 85 [sl true ⟨1, false⟩ B0, sl true ⟨1, false⟩ B1, sl true ⟨1, false⟩ B2, sl true ⟨1, false⟩ B3, i64 B4] fun R => .cons R.1 fun X0 X1 => .bool X0 fun A0 => .nil X1 <| .nil R.2 <| K A0
theorem C85_S {f : FuncId} {B0 : List TV} {B1 : List TV} {B2 : List TV} {B3 : List TV} {B4 : Int} {A0 : Bool} {K : Bool → Nd} (h : tw cx 85 [sl true ⟨1, false⟩ B0, sl true ⟨1, false⟩ B1, sl true ⟨1, false⟩ B2, sl true ⟨1, false⟩ B3, i64 B4] = some ([tb A0], [])) : S cx f (C85 B0 B1 B2 B3 B4 K) = S cx f (K A0) := call_S h rfl
noncomputable def C87 (B0 : Int) (K : Bool → Nd) : Nd := .call 87 [i64 B0] fun R => .cons R.1 fun X0 X1 => .bool X0 fun A0 => .nil X1 <| .nil R.2 <| K A0
theorem C87_S {f : FuncId} {B0 : Int} {A0 : Bool} {K : Bool → Nd} (h : tw cx 87 [i64 B0] = some ([tb A0], [])) : S cx f (C87 B0 K) = S cx f (K A0) := call_S h rfl
noncomputable def V6_1 (t : TV) (K : Int → Int → Int → Int → Int → Int → Nd) : Nd := .st t fun L => .cons L fun TV0 L0 => .int .i64 TV0 fun A0 => .cons L0 fun TV1 L1 => .int .i64 TV1 fun A1 => .cons L1 fun TV2 L2 => .int .i64 TV2 fun A2 => .cons L2 fun TV3 L3 => .int .i64 TV3 fun A3 => .cons L3 fun TV4 L4 => .int .i64 TV4 fun A4 => .cons L4 fun TV5 L5 => .int .i64 TV5 fun A5 => .nil L5 <| K A0 A1 A2 A3 A4 A5
theorem V6_1_S {f : FuncId} {A0 : Int} {A1 : Int} {A2 : Int} {A3 : Int} {A4 : Int} {A5 : Int} {K : Int → Int → Int → Int → Int → Int → Nd} : S cx f (V6_1 (.st [i64 A0, i64 A1, i64 A2, i64 A3, i64 A4, i64 A5]) K) = S cx f (K A0 A1 A2 A3 A4 A5) := rfl
noncomputable def C86 (B0 : Int) (B1 : Int) (B2 : Int) (B3 : Int) (B4 : Int) (B5 : Int) (K : (List TV) → Nd) : Nd := .call 86 [.st [i64 B0, i64 B1, i64 B2, i64 B3, i64 B4, i64 B5]] fun R => .cons R.1 fun X0 X1 => .slO ⟨1, false⟩ X0 fun A0 => .nil X1 <| .nil R.2 <| K A0
theorem C86_S {f : FuncId} {B0 : Int} {B1 : Int} {B2 : Int} {B3 : Int} {B4 : Int} {B5 : Int} {A0 : List TV} {K : (List TV) → Nd} (h : tw cx 86 [.st [i64 B0, i64 B1, i64 B2, i64 B3, i64 B4, i64 B5]] = some ([sl false ⟨1, false⟩ A0], [])) : S cx f (C86 B0 B1 B2 B3 B4 B5 K) = S cx f (K A0) := call_S h rfl
noncomputable def C88 (B0 : List TV) (B1 : List TV) (B2 : Int) (B3 : Int) (B4 : List TV) (B5 : List TV) (K : (List TV) → Nd) : Nd := .call 88 [.st [sl true ⟨1, false⟩ B0, sl true ⟨6, false⟩ B1, i64 B2, i64 B3, sl true ⟨1, false⟩ B4, sl true ⟨1, true⟩ B5]] fun R => .cons R.1 fun X0 X1 => .slO ⟨1, false⟩ X0 fun A0 => .nil X1 <| .nil R.2 <| K A0
theorem C88_S {f : FuncId} {B0 : List TV} {B1 : List TV} {B2 : Int} {B3 : Int} {B4 : List TV} {B5 : List TV} {A0 : List TV} {K : (List TV) → Nd} (h : tw cx 88 [.st [sl true ⟨1, false⟩ B0, sl true ⟨6, false⟩ B1, i64 B2, i64 B3, sl true ⟨1, false⟩ B4, sl true ⟨1, true⟩ B5]] = some ([sl false ⟨1, false⟩ A0], [])) : S cx f (C88 B0 B1 B2 B3 B4 B5 K) = S cx f (K A0) := call_S h rfl
noncomputable def C89 (B0 : List TV) (B1 : Int) (K : Bool → Nd) : Nd := .call 89 [sl true ⟨1, false⟩ B0, i64 B1] fun R => .cons R.1 fun X0 X1 => .bool X0 fun A0 => .nil X1 <| .nil R.2 <| K A0
theorem C89_S {f : FuncId} {B0 : List TV} {B1 : Int} {A0 : Bool} {K : Bool → Nd} (h : tw cx 89 [sl true ⟨1, false⟩ B0, i64 B1] = some ([tb A0], [])) : S cx f (C89 B0 B1 K) = S cx f (K A0) := call_S h rfl
noncomputable def C90 (B0 : List TV) (B1 : Int) (B2 : List TV) (B3 : List TV) (B4 : List TV) (K : (List TV) → (List TV) → (List TV) → Int → Int → (List TV) → Int → Int → Nd) : Nd := .call 90 [.st [sl true ⟨6, true⟩ B0, i64 B1], .st [sl true ⟨1, false⟩ B2, sl true ⟨1, false⟩ B3, sl true ⟨1, false⟩ B4]] fun R => .cons R.1 fun X0 X1 => .st X0 fun X2 => .cons X2 fun X3 X4 => .st X3 fun X5 => .cons X5 fun X6 X7 => .slO ⟨1, false⟩ X6 fun A0 => .cons X7 fun X8 X9 => .slO ⟨1, false⟩ X8 fun A1 => .cons X9 fun X10 X11 => .slO ⟨1, false⟩ X10 fun A2 => .nil X11 <| .cons X4 fun X12 X13 => .int .i64 X12 fun A3 => .cons X13 fun X14 X15 => .int .i64 X14 fun A4 => .cons X15 fun X16 X17 => .slO ⟨1, false⟩ X16 fun A5 => .cons X17 fun X18 X19 => .int .i64 X18 fun A6 => .cons X19 fun X20 X21 => .int .i64 X20 fun A7 => .nil X21 <| .nil X1 <| .nil R.2 <| K A0 A1 A2 A3 A4 A5 A6 A7
theorem C90_S {f : FuncId} {B0 : List TV} {B1 : Int} {B2 : List TV} {B3 : List TV} {B4 : List TV} {A0 : List TV} {A1 : List TV} {A2 : List TV} {A3 : Int} {A4 : Int} {A5 : List TV} {A6 : Int} {A7 : Int} {K : (List TV) → (List TV) → (List TV) → Int → Int → (List TV) → Int → Int → Nd} (h : tw cx 90 [.st [sl true ⟨6, true⟩ B0, i64 B1], .st [sl true ⟨1, false⟩ B2, sl true ⟨1, false⟩ B3, sl true ⟨1, false⟩ B4]] = some ([.st [.st [sl false ⟨1, false⟩ A0, sl false ⟨1, false⟩ A1, sl false ⟨1, false⟩ A2], i64 A3, i64 A4, sl false ⟨1, false⟩ A5, i64 A6, i64 A7]], [])) : S cx f (C90 B0 B1 B2 B3 B4 K) = S cx f (K A0 A1 A2 A3 A4 A5 A6 A7) := call_S h rfl
noncomputable def C92 (B0 : List TV) (B1 : List TV) (B2 : Int) (B3 : Int) (B4 : List TV) (B5 : List TV) (B6 : List TV) (K : Int → Nd) : Nd := .call 92 [.st [sl true ⟨1, false⟩ B0, sl true ⟨6, false⟩ B1, i64 B2, i64 B3, sl true ⟨1, false⟩ B4, sl true ⟨1, true⟩ B5], sl true ⟨1, false⟩ B6] fun R => .cons R.1 fun X0 X1 => .int .i64 X0 fun A0 => .nil X1 <| .nil R.2 <| K A0
theorem C92_S {f : FuncId} {B0 : List TV} {B1 : List TV} {B2 : Int} {B3 : Int} {B4 : List TV} {B5 : List TV} {B6 : List TV} {A0 : Int} {K : Int → Nd} (h : tw cx 92 [.st [sl true ⟨1, false⟩ B0, sl true ⟨6, false⟩ B1, i64 B2, i64 B3, sl true ⟨1, false⟩ B4, sl true ⟨1, true⟩ B5], sl true ⟨1, false⟩ B6] = some ([i64 A0], [])) : S cx f (C92 B0 B1 B2 B3 B4 B5 B6 K) = S cx f (K A0) := call_S h rfl
noncomputable def C132 (B0 : Int) (B1 : Int) (B2 : Int) (K : Int → Bool → Nd) : Nd := .call 132 [i64 B0, i64 B1, i64 B2] fun R => .cons R.1 fun X0 X1 => .int .i64 X0 fun A0 => .cons X1 fun X2 X3 => .bool X2 fun A1 => .nil X3 <| .nil R.2 <| K A0 A1
theorem C132_S {f : FuncId} {B0 : Int} {B1 : Int} {B2 : Int} {A0 : Int} {A1 : Bool} {K : Int → Bool → Nd} (h : tw cx 132 [i64 B0, i64 B1, i64 B2] = some ([i64 A0, tb A1], [])) : S cx f (C132 B0 B1 B2 K) = S cx f (K A0 A1) := call_S h rfl
noncomputable def C93 (B0 : List TV) (B1 : List TV) (B2 : Int) (B3 : Int) (B4 : List TV) (B5 : List TV) (K : (List TV) → (List TV) → Int → Int → (List TV) → (List TV) → Nd) : Nd := .call 93 [.st [sl true ⟨1, false⟩ B0, sl true ⟨6, false⟩ B1, i64 B2, i64 B3, sl true ⟨1, false⟩ B4, sl true ⟨1, true⟩ B5]] fun R => .cons R.1 fun X0 X1 => .st X0 fun X2 => .cons X2 fun X3 X4 => .slO ⟨1, false⟩ X3 fun A0 => .cons X4 fun X5 X6 => .slO ⟨6, false⟩ X5 fun A1 => .cons X6 fun X7 X8 => .int .i64 X7 fun A2 => .cons X8 fun X9 X10 => .int .i64 X9 fun A3 => .cons X10 fun X11 X12 => .slO ⟨1, false⟩ X11 fun A4 => .cons X12 fun X13 X14 => .slO ⟨1, true⟩ X13 fun A5 => .nil X14 <| .nil X1 <| .nil R.2 <| K A0 A1 A2 A3 A4 A5
theorem C93_S {f : FuncId} {B0 : List TV} {B1 : List TV} {B2 : Int} {B3 : Int} {B4 : List TV} {B5 : List TV} {A0 : List TV} {A1 : List TV} {A2 : Int} {A3 : Int} {A4 : List TV} {A5 : List TV} {K : (List TV) → (List TV) → Int → Int → (List TV) → (List TV) → Nd} (h : tw cx 93 [.st [sl true ⟨1, false⟩ B0, sl true ⟨6, false⟩ B1, i64 B2, i64 B3, sl true ⟨1, false⟩ B4, sl true ⟨1, true⟩ B5]] = some ([.st [sl false ⟨1, false⟩ A0, sl false ⟨6, false⟩ A1, i64 A2, i64 A3, sl false ⟨1, false⟩ A4, sl false ⟨1, true⟩ A5]], [])) : S cx f (C93 B0 B1 B2 B3 B4 B5 K) = S cx f (K A0 A1 A2 A3 A4 A5) := call_S h rfl
noncomputable def V2 (t : TV) (K : (List TV) → Int → Nd) : Nd := .st t fun L => .cons L fun TV0 L0 => .slS ⟨6, true⟩ TV0 fun A0 => .cons L0 fun TV1 L1 => .int .i64 TV1 fun A1 => .nil L1 <| K A0 A1
noncomputable def C56 (B0 : List TV) (B1 : List TV) (B2 : List TV) (K : Bool → Nd) : Nd := .call 56 [.st [sl true ⟨1, false⟩ B0, sl true ⟨1, false⟩ B1, sl true ⟨1, false⟩ B2]] fun R => .cons R.1 fun X0 X1 => .bool X0 fun A0 => .nil X1 <| .nil R.2 <| K A0
theorem C56_S {f : FuncId} {B0 : List TV} {B1 : List TV} {B2 : List TV} {A0 : Bool} {K : Bool → Nd} (h : tw cx 56 [.st [sl true ⟨1, false⟩ B0, sl true ⟨1, false⟩ B1, sl true ⟨1, false⟩ B2]] = some ([tb A0], [])) : S cx f (C56 B0 B1 B2 K) = S cx f (K A0) := call_S h rfl
noncomputable def C57 (B0 : Int) (B1 : Int) (B2 : Int) (K : Bool → Nd) : Nd := .call 57 [i64 B0, i64 B1, i64 B2] fun R => .cons R.1 fun X0 X1 => .bool X0 fun A0 => .nil X1 <| .nil R.2 <| K A0
theorem C57_S {f : FuncId} {B0 : Int} {B1 : Int} {B2 : Int} {A0 : Bool} {K : Bool → Nd} (h : tw cx 57 [i64 B0, i64 B1, i64 B2] = some ([tb A0], [])) : S cx f (C57 B0 B1 B2 K) = S cx f (K A0) := call_S h rfl
noncomputable def C96 (B0 : List TV) (B1 : List TV) (B2 : Int) (B3 : Int) (B4 : List TV) (B5 : List TV) (B6 : List TV) (B7 : List TV) (B8 : Int) (B9 : Int) (B10 : List TV) (B11 : List TV) (K : Bool → Nd) : Nd := .call 96 [.st [sl true ⟨1, false⟩ B0, sl true ⟨6, false⟩ B1, i64 B2, i64 B3, sl true ⟨1, false⟩ B4, sl true ⟨1, true⟩ B5], .st [sl true ⟨1, false⟩ B6, sl true ⟨6, false⟩ B7, i64 B8, i64 B9, sl true ⟨1, false⟩ B10, sl true ⟨1, true⟩ B11]] fun R => .cons R.1 fun X0 X1 => .bool X0 fun A0 => .nil X1 <| .nil R.2 <| K A0
theorem C96_S {f : FuncId} {B0 : List TV} {B1 : List TV} {B2 : Int} {B3 : Int} {B4 : List TV} {B5 : List TV} {B6 : List TV} {B7 : List TV} {B8 : Int} {B9 : Int} {B10 : List TV} {B11 : List TV} {A0 : Bool} {K : Bool → Nd} (h : tw cx 96 [.st [sl true ⟨1, false⟩ B0, sl true ⟨6, false⟩ B1, i64 B2, i64 B3, sl true ⟨1, false⟩ B4, sl true ⟨1, true⟩ B5], .st [sl true ⟨1, false⟩ B6, sl true ⟨6, false⟩ B7, i64 B8, i64 B9, sl true ⟨1, false⟩ B10, sl true ⟨1, true⟩ B11]] = some ([tb A0], [])) : S cx f (C96 B0 B1 B2 B3 B4 B5 B6 B7 B8 B9 B10 B11 K) = S cx f (K A0) := call_S h rfl
noncomputable def C105 (B0 : List TV) (K : Bool → Nd) : Nd := .call 105 [sl true ⟨1, false⟩ B0] fun R => .cons R.1 fun X0 X1 => .bool X0 fun A0 => .nil X1 <| .nil R.2 <| K A0
theorem C105_S {f : FuncId} {B0 : List TV} {A0 : Bool} {K : Bool → Nd} (h : tw cx 105 [sl true ⟨1, false⟩ B0] = some ([tb A0], [])) : S cx f (C105 B0 K) = S cx f (K A0) := call_S h rfl
noncomputable def C106 (B0 : List TV) (K : (List TV) → Nd) : Nd := .call 106 [sl true ⟨1, false⟩ B0] fun R => .cons R.1 fun X0 X1 => .slO ⟨1, false⟩ X0 fun A0 => .nil X1 <| .nil R.2 <| K A0
theorem C106_S {f : FuncId} {B0 : List TV} {A0 : List TV} {K : (List TV) → Nd} (h : tw cx 106 [sl true ⟨1, false⟩ B0] = some ([sl false ⟨1, false⟩ A0], [])) : S cx f (C106 B0 K) = S cx f (K A0) := call_S h rfl
noncomputable def C111 (B0 : Bool) (K : Int → Nd) : Nd := .call 111 [tb B0] fun R => .cons R.1 fun X0 X1 => .int .i64 X0 fun A0 => .nil X1 <| .nil R.2 <| K A0
theorem C111_S {f : FuncId} {B0 : Bool} {A0 : Int} {K : Int → Nd} (h : tw cx 111 [tb B0] = some ([i64 A0], [])) : S cx f (C111 B0 K) = S cx f (K A0) := call_S h rfl
noncomputable def C119 (B0 : List TV) (B1 : Int) (K : Bool → Nd) : Nd := .call 119 [sl true ⟨1, false⟩ B0, i64 B1] fun R => .cons R.1 fun X0 X1 => .bool X0 fun A0 => .nil X1 <| .nil R.2 <| K A0
theorem C119_S {f : FuncId} {B0 : List TV} {B1 : Int} {A0 : Bool} {K : Bool → Nd} (h : tw cx 119 [sl true ⟨1, false⟩ B0, i64 B1] = some ([tb A0], [])) : S cx f (C119 B0 B1 K) = S cx f (K A0) := call_S h rfl
noncomputable def C122 (B0 : List TV) (B1 : Int) (K : Bool → Nd) : Nd := .call 122 [sl true ⟨6, false⟩ B0, .cl 123 [.pt true () (i64 B1)]] fun R => .cons R.1 fun X0 X1 => .bool X0 fun A0 => .nil X1 <| .nil R.2 <| K A0
theorem C122_S {f : FuncId} {B0 : List TV} {B1 : Int} {A0 : Bool} {K : Bool → Nd} (h : tw cx 122 [sl true ⟨6, false⟩ B0, .cl 123 [.pt true () (i64 B1)]] = some ([tb A0], [])) : S cx f (C122 B0 B1 K) = S cx f (K A0) := call_S h rfl
noncomputable def C126 (B0 : List TV) (B1 : Int) (K : Bool → Nd) : Nd := .call 126 [sl true ⟨1, false⟩ B0, .cl 127 [.pt true () (i64 B1)]] fun R => .cons R.1 fun X0 X1 => .bool X0 fun A0 => .nil X1 <| .nil R.2 <| K A0
theorem C126_S {f : FuncId} {B0 : List TV} {B1 : Int} {A0 : Bool} {K : Bool → Nd} (h : tw cx 126 [sl true ⟨1, false⟩ B0, .cl 127 [.pt true () (i64 B1)]] = some ([tb A0], [])) : S cx f (C126 B0 B1 K) = S cx f (K A0) := call_S h rfl
noncomputable def C125 (B0 : Int) (K : Bool → Nd) : Nd := .call 125 [i64 B0] fun R => .cons R.1 fun X0 X1 => .bool X0 fun A0 => .nil X1 <| .nil R.2 <| K A0
theorem C125_S {f : FuncId} {B0 : Int} {A0 : Bool} {K : Bool → Nd} (h : tw cx 125 [i64 B0] = some ([tb A0], [])) : S cx f (C125 B0 K) = S cx f (K A0) := call_S h rfl
noncomputable def C128 (B0 : List TV) (B1 : Int) (K : Int → Nd) : Nd := .call 128 [sl true ⟨6, false⟩ B0, i64 B1] fun R => .cons R.1 fun X0 X1 => .int .i64 X0 fun A0 => .nil X1 <| .nil R.2 <| K A0
theorem C128_S {f : FuncId} {B0 : List TV} {B1 : Int} {A0 : Int} {K : Int → Nd} (h : tw cx 128 [sl true ⟨6, false⟩ B0, i64 B1] = some ([i64 A0], [])) : S cx f (C128 B0 B1 K) = S cx f (K A0) := call_S h rfl
noncomputable def C129 (B0 : List TV) (B1 : Int) (K : Int → Nd) : Nd := .call 129 [sl true ⟨1, true⟩ B0, i64 B1] fun R => .cons R.1 fun X0 X1 => .int .i64 X0 fun A0 => .nil X1 <| .nil R.2 <| K A0
theorem C129_S {f : FuncId} {B0 : List TV} {B1 : Int} {A0 : Int} {K : Int → Nd} (h : tw cx 129 [sl true ⟨1, true⟩ B0, i64 B1] = some ([i64 A0], [])) : S cx f (C129 B0 B1 K) = S cx f (K A0) := call_S h rfl
noncomputable def C112 (B0 : List TV) (B1 : Int) (B2 : Int) (B3 : List TV) (B4 : Int) (K : Bool → Nd) : Nd := .call 112 [.st [sl true ⟨6, false⟩ B0, i64 B1, i64 B2, sl true ⟨1, false⟩ B3], i64 B4] fun R => .cons R.1 fun X0 X1 => .bool X0 fun A0 => .nil X1 <| .nil R.2 <| K A0
theorem C112_S {f : FuncId} {B0 : List TV} {B1 : Int} {B2 : Int} {B3 : List TV} {B4 : Int} {A0 : Bool} {K : Bool → Nd} (h : tw cx 112 [.st [sl true ⟨6, false⟩ B0, i64 B1, i64 B2, sl true ⟨1, false⟩ B3], i64 B4] = some ([tb A0], [])) : S cx f (C112 B0 B1 B2 B3 B4 K) = S cx f (K A0) := call_S h rfl
noncomputable def C130 (B0 : Int) (B1 : Int) (B2 : Int) (B3 : Int) (B4 : Int) (B5 : Int) (K : Bool → Nd) : Nd := .call 130 [.st [i64 B0, i64 B1, i64 B2, i64 B3, i64 B4, i64 B5]] fun R => .cons R.1 fun X0 X1 => .bool X0 fun A0 => .nil X1 <| .nil R.2 <| K A0
theorem C130_S {f : FuncId} {B0 : Int} {B1 : Int} {B2 : Int} {B3 : Int} {B4 : Int} {B5 : Int} {A0 : Bool} {K : Bool → Nd} (h : tw cx 130 [.st [i64 B0, i64 B1, i64 B2, i64 B3, i64 B4, i64 B5]] = some ([tb A0], [])) : S cx f (C130 B0 B1 B2 B3 B4 B5 K) = S cx f (K A0) := call_S h rfl
noncomputable def C120 (B0 : List TV) (B1 : Int) (K : (List TV) → Nd) : Nd := .call 120 [sl false ⟨1, false⟩ B0, i64 B1] fun R => .cons R.1 fun X0 X1 => .slO ⟨1, false⟩ X0 fun A0 => .nil X1 <| .nil R.2 <| K A0
theorem C120_S {f : FuncId} {B0 : List TV} {B1 : Int} {A0 : List TV} {K : (List TV) → Nd} (h : tw cx 120 [sl false ⟨1, false⟩ B0, i64 B1] = some ([sl false ⟨1, false⟩ A0], [])) : S cx f (C120 B0 B1 K) = S cx f (K A0) := call_S h rfl
noncomputable def C131 (B0 : List TV) (B1 : Int) (K : (List TV) → Nd) : Nd := .call 131 [.st [sl true ⟨1, true⟩ B0], i64 B1] fun R => .cons R.1 fun X0 X1 => .slO ⟨1, false⟩ X0 fun A0 => .nil X1 <| .nil R.2 <| K A0
theorem C131_S {f : FuncId} {B0 : List TV} {B1 : Int} {A0 : List TV} {K : (List TV) → Nd} (h : tw cx 131 [.st [sl true ⟨1, true⟩ B0], i64 B1] = some ([sl false ⟨1, false⟩ A0], [])) : S cx f (C131 B0 B1 K) = S cx f (K A0) := call_S h rfl
noncomputable def C116 (B0 : List TV) (B1 : Int) (K : Bool → Nd) : Nd := .call 116 [sl true ⟨1, false⟩ B0, i64 B1] fun R => .cons R.1 fun X0 X1 => .bool X0 fun A0 => .nil X1 <| .nil R.2 <| K A0
theorem C116_S {f : FuncId} {B0 : List TV} {B1 : Int} {A0 : Bool} {K : Bool → Nd} (h : tw cx 116 [sl true ⟨1, false⟩ B0, i64 B1] = some ([tb A0], [])) : S cx f (C116 B0 B1 K) = S cx f (K A0) := call_S h rfl
noncomputable def C133 (B0 : Bool) (K : Int → Nd) : Nd := .call 133 [tb B0] fun R => .cons R.1 fun X0 X1 => .int .i64 X0 fun A0 => .nil X1 <| .nil R.2 <| K A0
theorem C133_S {f : FuncId} {B0 : Bool} {A0 : Int} {K : Int → Nd} (h : tw cx 133 [tb B0] = some ([i64 A0], [])) : S cx f (C133 B0 K) = S cx f (K A0) := call_S h rfl
noncomputable def C134 (B0 : List TV) (K : (List TV) → Nd) : Nd := .call 134 [sl true ⟨6, false⟩ B0] fun R => .cons R.1 fun X0 X1 => .slO ⟨6, false⟩ X0 fun A0 => .nil X1 <| .nil R.2 <| K A0
theorem C134_S {f : FuncId} {B0 : List TV} {A0 : List TV} {K : (List TV) → Nd} (h : tw cx 134 [sl true ⟨6, false⟩ B0] = some ([sl false ⟨6, false⟩ A0], [])) : S cx f (C134 B0 K) = S cx f (K A0) := call_S h rfl
noncomputable def C135 (B0 : List TV) (K : (List TV) → Nd) : Nd := .call 135 [sl true ⟨1, true⟩ B0] fun R => .cons R.1 fun X0 X1 => .slO ⟨1, true⟩ X0 fun A0 => .nil X1 <| .nil R.2 <| K A0
theorem C135_S {f : FuncId} {B0 : List TV} {A0 : List TV} {K : (List TV) → Nd} (h : tw cx 135 [sl true ⟨1, true⟩ B0] = some ([sl false ⟨1, true⟩ A0], [])) : S cx f (C135 B0 K) = S cx f (K A0) := call_S h rfl
noncomputable def C136 (B0 : List TV) (B1 : Int) (K : (List TV) → Nd) : Nd := .call 136 [.st [sl true ⟨6, true⟩ B0, i64 B1]] fun R => .cons R.1 fun X0 X1 => .slO ⟨1, true⟩ X0 fun A0 => .nil X1 <| .nil R.2 <| K A0
theorem C136_S {f : FuncId} {B0 : List TV} {B1 : Int} {A0 : List TV} {K : (List TV) → Nd} (h : tw cx 136 [.st [sl true ⟨6, true⟩ B0, i64 B1]] = some ([sl false ⟨1, true⟩ A0], [])) : S cx f (C136 B0 B1 K) = S cx f (K A0) := call_S h rfl
noncomputable def C114 (B0 : List TV) (B1 : Int) (K : (List TV) → Nd) : Nd := .call 114 [sl true ⟨1, false⟩ B0, i64 B1] fun R => .cons R.1 fun X0 X1 => .slO ⟨1, false⟩ X0 fun A0 => .nil X1 <| .nil R.2 <| K A0
theorem C114_S {f : FuncId} {B0 : List TV} {B1 : Int} {A0 : List TV} {K : (List TV) → Nd} (h : tw cx 114 [sl true ⟨1, false⟩ B0, i64 B1] = some ([sl false ⟨1, false⟩ A0], [])) : S cx f (C114 B0 B1 K) = S cx f (K A0) := call_S h rfl
noncomputable def C137 (B0 : List TV) (B1 : Int) (B2 : List TV) (B3 : List TV) (B4 : List TV) (B5 : List TV) (B6 : Int) (K : Bool → (List TV) → Int → (List TV) → (List TV) → (List TV) → (List TV) → Nd) : Nd := .call 137 [.pt false () (.st [.st [sl true ⟨6, true⟩ B0, i64 B1], sl false ⟨1, true⟩ B2, sl false ⟨1, true⟩ B3, sl false ⟨1, false⟩ B4, sl false ⟨1, false⟩ B5]), i64 B6] fun R => .cons R.1 fun X0 X1 => .bool X0 fun A0 => .nil X1 <| .cons R.2 fun X2 X3 => .ptO X2 .non fun X4 => .st X4 fun X5 => .cons X5 fun X6 X7 => .st X6 fun X8 => .cons X8 fun X9 X10 => .slS ⟨6, true⟩ X9 fun A1 => .cons X10 fun X11 X12 => .int .i64 X11 fun A2 => .nil X12 <| .cons X7 fun X13 X14 => .slO ⟨1, true⟩ X13 fun A3 => .cons X14 fun X15 X16 => .slO ⟨1, true⟩ X15 fun A4 => .cons X16 fun X17 X18 => .slO ⟨1, false⟩ X17 fun A5 => .cons X18 fun X19 X20 => .slO ⟨1, false⟩ X19 fun A6 => .nil X20 <| .nil X3 <| K A0 A1 A2 A3 A4 A5 A6
theorem C137_S {f : FuncId} {B0 : List TV} {B1 : Int} {B2 : List TV} {B3 : List TV} {B4 : List TV} {B5 : List TV} {B6 : Int} {A0 : Bool} {A1 : List TV} {A2 : Int} {A3 : List TV} {A4 : List TV} {A5 : List TV} {A6 : List TV} {K : Bool → (List TV) → Int → (List TV) → (List TV) → (List TV) → (List TV) → Nd} (h : tw cx 137 [.pt false () (.st [.st [sl true ⟨6, true⟩ B0, i64 B1], sl false ⟨1, true⟩ B2, sl false ⟨1, true⟩ B3, sl false ⟨1, false⟩ B4, sl false ⟨1, false⟩ B5]), i64 B6] = some ([tb A0], [.pt false () (.st [.st [sl true ⟨6, true⟩ A1, i64 A2], sl false ⟨1, true⟩ A3, sl false ⟨1, true⟩ A4, sl false ⟨1, false⟩ A5, sl false ⟨1, false⟩ A6])])) : S cx f (C137 B0 B1 B2 B3 B4 B5 B6 K) = S cx f (K A0 A1 A2 A3 A4 A5 A6) := call_S h rfl
noncomputable def C138 (B0 : List TV) (K : (List TV) → Nd) : Nd := .call 138 [sl true ⟨1, true⟩ B0] fun R => .cons R.1 fun X0 X1 => .slO ⟨1, true⟩ X0 fun A0 => .nil X1 <| .nil R.2 <| K A0
theorem C138_S {f : FuncId} {B0 : List TV} {A0 : List TV} {K : (List TV) → Nd} (h : tw cx 138 [sl true ⟨1, true⟩ B0] = some ([sl false ⟨1, true⟩ A0], [])) : S cx f (C138 B0 K) = S cx f (K A0) := call_S h rfl
noncomputable def C69 (B0 : List TV) (B1 : Int) (B2 : List TV) (K : (List TV) → Nd) : Nd := .call 69 [sl true ⟨1, true⟩ B0, i64 B1, sl true ⟨1, false⟩ B2] fun R => .cons R.1 fun X0 X1 => .slO ⟨1, false⟩ X0 fun A0 => .nil X1 <| .nil R.2 <| K A0
theorem C69_S {f : FuncId} {B0 : List TV} {B1 : Int} {B2 : List TV} {A0 : List TV} {K : (List TV) → Nd} (h : tw cx 69 [sl true ⟨1, true⟩ B0, i64 B1, sl true ⟨1, false⟩ B2] = some ([sl false ⟨1, false⟩ A0], [])) : S cx f (C69 B0 B1 B2 K) = S cx f (K A0) := call_S h rfl
noncomputable def C139 (B0 : List TV) (B1 : Bool) (K : Bool → Nd) : Nd := .call 139 [sl true ⟨1, false⟩ B0, tb B1] fun R => .cons R.1 fun X0 X1 => .bool X0 fun A0 => .nil X1 <| .nil R.2 <| K A0
theorem C139_S {f : FuncId} {B0 : List TV} {B1 : Bool} {A0 : Bool} {K : Bool → Nd} (h : tw cx 139 [sl true ⟨1, false⟩ B0, tb B1] = some ([tb A0], [])) : S cx f (C139 B0 B1 K) = S cx f (K A0) := call_S h rfl
noncomputable def C140 (B0 : List TV) (B1 : Int) (B2 : List TV) (B3 : List TV) (B4 : List TV) (B5 : List TV) (B6 : Int) (K : Bool → Nd) : Nd := .call 140 [.pt true () (.st [.st [sl true ⟨6, true⟩ B0, i64 B1], sl false ⟨1, true⟩ B2, sl false ⟨1, true⟩ B3, sl false ⟨1, false⟩ B4, sl false ⟨1, false⟩ B5]), i64 B6] fun R => .cons R.1 fun X0 X1 => .bool X0 fun A0 => .nil X1 <| .nil R.2 <| K A0
theorem C140_S {f : FuncId} {B0 : List TV} {B1 : Int} {B2 : List TV} {B3 : List TV} {B4 : List TV} {B5 : List TV} {B6 : Int} {A0 : Bool} {K : Bool → Nd} (h : tw cx 140 [.pt true () (.st [.st [sl true ⟨6, true⟩ B0, i64 B1], sl false ⟨1, true⟩ B2, sl false ⟨1, true⟩ B3, sl false ⟨1, false⟩ B4, sl false ⟨1, false⟩ B5]), i64 B6] = some ([tb A0], [])) : S cx f (C140 B0 B1 B2 B3 B4 B5 B6 K) = S cx f (K A0) := call_S h rfl
noncomputable def C58 (B0 : List TV) (B1 : List TV) (B2 : List TV) (K : (List TV) → (List TV) → (List TV) → Nd) : Nd := .call 58 [.st [sl true ⟨1, false⟩ B0, sl true ⟨1, false⟩ B1, sl true ⟨1, false⟩ B2]] fun R => .cons R.1 fun X0 X1 => .st X0 fun X2 => .cons X2 fun X3 X4 => .slO ⟨1, false⟩ X3 fun A0 => .cons X4 fun X5 X6 => .slO ⟨1, false⟩ X5 fun A1 => .cons X6 fun X7 X8 => .slO ⟨1, false⟩ X7 fun A2 => .nil X8 <| .nil X1 <| .nil R.2 <| K A0 A1 A2
theorem C58_S {f : FuncId} {B0 : List TV} {B1 : List TV} {B2 : List TV} {A0 : List TV} {A1 : List TV} {A2 : List TV} {K : (List TV) → (List TV) → (List TV) → Nd} (h : tw cx 58 [.st [sl true ⟨1, false⟩ B0, sl true ⟨1, false⟩ B1, sl true ⟨1, false⟩ B2]] = some ([.st [sl false ⟨1, false⟩ A0, sl false ⟨1, false⟩ A1, sl false ⟨1, false⟩ A2]], [])) : S cx f (C58 B0 B1 B2 K) = S cx f (K A0 A1 A2) := call_S h rfl
noncomputable def C141 (B0 : List TV) (B1 : List TV) (B2 : List TV) (B3 : List TV) (B4 : Int) (B5 : Int) (B6 : Int) (B7 : Int) (B8 : List TV) (B9 : List TV) (B10 : Int) (B11 : Int) (B12 : List TV) (B13 : List TV) (K : Bool → (List TV) → (List TV) → (List TV) → (List TV) → Int → Int → Int → Int → Nd) : Nd := .call 141 [.pt false () (.st [.st [sl false ⟨1, false⟩ B0, sl false ⟨1, false⟩ B1, sl false ⟨1, false⟩ B2], sl false ⟨1, false⟩ B3, i64 B4, i64 B5, i64 B6, i64 B7]), .pt true () (.st [sl true ⟨1, false⟩ B8, sl true ⟨6, false⟩ B9, i64 B10, i64 B11, sl true ⟨1, false⟩ B12, sl true ⟨1, true⟩ B13])] fun R => .cons R.1 fun X0 X1 => .bool X0 fun A0 => .nil X1 <| .cons R.2 fun X2 X3 => .ptO X2 .non fun X4 => .st X4 fun X5 => .cons X5 fun X6 X7 => .st X6 fun X8 => .cons X8 fun X9 X10 => .slO ⟨1, false⟩ X9 fun A1 => .cons X10 fun X11 X12 => .slO ⟨1, false⟩ X11 fun A2 => .cons X12 fun X13 X14 => .slO ⟨1, false⟩ X13 fun A3 => .nil X14 <| .cons X7 fun X15 X16 => .slO ⟨1, false⟩ X15 fun A4 => .cons X16 fun X17 X18 => .int .i64 X17 fun A5 => .cons X18 fun X19 X20 => .int .i64 X19 fun A6 => .cons X20 fun X21 X22 => .int .i64 X21 fun A7 => .cons X22 fun X23 X24 => .int .i64 X23 fun A8 => .nil X24 <| .nil X3 <| K A0 A1 A2 A3 A4 A5 A6 A7 A8
theorem C141_S {f : FuncId} {B0 : List TV} {B1 : List TV} {B2 : List TV} {B3 : List TV} {B4 : Int} {B5 : Int} {B6 : Int} {B7 : Int} {B8 : List TV} {B9 : List TV} {B10 : Int} {B11 : Int} {B12 : List TV} {B13 : List TV} {A0 : Bool} {A1 : List TV} {A2 : List TV} {A3 : List TV} {A4 : List TV} {A5 : Int} {A6 : Int} {A7 : Int} {A8 : Int} {K : Bool → (List TV) → (List TV) → (List TV) → (List TV) → Int → Int → Int → Int → Nd} (h : tw cx 141 [.pt false () (.st [.st [sl false ⟨1, false⟩ B0, sl false ⟨1, false⟩ B1, sl false ⟨1, false⟩ B2], sl false ⟨1, false⟩ B3, i64 B4, i64 B5, i64 B6, i64 B7]), .pt true () (.st [sl true ⟨1, false⟩ B8, sl true ⟨6, false⟩ B9, i64 B10, i64 B11, sl true ⟨1, false⟩ B12, sl true ⟨1, true⟩ B13])] = some ([tb A0], [.pt false () (.st [.st [sl false ⟨1, false⟩ A1, sl false ⟨1, false⟩ A2, sl false ⟨1, false⟩ A3], sl false ⟨1, false⟩ A4, i64 A5, i64 A6, i64 A7, i64 A8])])) : S cx f (C141 B0 B1 B2 B3 B4 B5 B6 B7 B8 B9 B10 B11 B12 B13 K) = S cx f (K A0 A1 A2 A3 A4 A5 A6 A7 A8) := call_S h rfl
noncomputable def C142 (B0 : List TV) (B1 : List TV) (B2 : List TV) (B3 : List TV) (B4 : Int) (B5 : Int) (B6 : Int) (B7 : Int) (B8 : List TV) (B9 : List TV) (B10 : Int) (B11 : Int) (B12 : List TV) (B13 : List TV) (K : Int → (List TV) → (List TV) → (List TV) → (List TV) → (List TV) → Int → Int → Int → Int → Nd) : Nd := .call 142 [.pt false () (.st [.st [sl false ⟨1, false⟩ B0, sl false ⟨1, false⟩ B1, sl false ⟨1, false⟩ B2], sl false ⟨1, false⟩ B3, i64 B4, i64 B5, i64 B6, i64 B7]), .pt true () (.st [sl true ⟨1, false⟩ B8, sl true ⟨6, false⟩ B9, i64 B10, i64 B11, sl true ⟨1, false⟩ B12, sl true ⟨1, true⟩ B13])] fun R => .cons R.1 fun X0 X1 => .int .i64 X0 fun A0 => .cons X1 fun X2 X3 => .slO ⟨1, false⟩ X2 fun A1 => .nil X3 <| .cons R.2 fun X4 X5 => .ptO X4 .non fun X6 => .st X6 fun X7 => .cons X7 fun X8 X9 => .st X8 fun X10 => .cons X10 fun X11 X12 => .slO ⟨1, false⟩ X11 fun A2 => .cons X12 fun X13 X14 => .slO ⟨1, false⟩ X13 fun A3 => .cons X14 fun X15 X16 => .slO ⟨1, false⟩ X15 fun A4 => .nil X16 <| .cons X9 fun X17 X18 => .slO ⟨1, false⟩ X17 fun A5 => .cons X18 fun X19 X20 => .int .i64 X19 fun A6 => .cons X20 fun X21 X22 => .int .i64 X21 fun A7 => .cons X22 fun X23 X24 => .int .i64 X23 fun A8 => .cons X24 fun X25 X26 => .int .i64 X25 fun A9 => .nil X26 <| .nil X5 <| K A0 A1 A2 A3 A4 A5 A6 A7 A8 A9
theorem C142_S {f : FuncId} {B0 : List TV} {B1 : List TV} {B2 : List TV} {B3 : List TV} {B4 : Int} {B5 : Int} {B6 : Int} {B7 : Int} {B8 : List TV} {B9 : List TV} {B10 : Int} {B11 : Int} {B12 : List TV} {B13 : List TV} {A0 : Int} {A1 : List TV} {A2 : List TV} {A3 : List TV} {A4 : List TV} {A5 : List TV} {A6 : Int} {A7 : Int} {A8 : Int} {A9 : Int} {K : Int → (List TV) → (List TV) → (List TV) → (List TV) → (List TV) → Int → Int → Int → Int → Nd} (h : tw cx 142 [.pt false () (.st [.st [sl false ⟨1, false⟩ B0, sl false ⟨1, false⟩ B1, sl false ⟨1, false⟩ B2], sl false ⟨1, false⟩ B3, i64 B4, i64 B5, i64 B6, i64 B7]), .pt true () (.st [sl true ⟨1, false⟩ B8, sl true ⟨6, false⟩ B9, i64 B10, i64 B11, sl true ⟨1, false⟩ B12, sl true ⟨1, true⟩ B13])] = some ([i64 A0, sl false ⟨1, false⟩ A1], [.pt false () (.st [.st [sl false ⟨1, false⟩ A2, sl false ⟨1, false⟩ A3, sl false ⟨1, false⟩ A4], sl false ⟨1, false⟩ A5, i64 A6, i64 A7, i64 A8, i64 A9])])) : S cx f (C142 B0 B1 B2 B3 B4 B5 B6 B7 B8 B9 B10 B11 B12 B13 K) = S cx f (K A0 A1 A2 A3 A4 A5 A6 A7 A8 A9) := call_S h rfl
noncomputable def C143 (B0 : List TV) (B1 : List TV) (K : Bool → Nd) : Nd := .call 143 [sl true ⟨6, false⟩ B0, sl true ⟨6, false⟩ B1] fun R => .cons R.1 fun X0 X1 => .bool X0 fun A0 => .nil X1 <| .nil R.2 <| K A0
theorem C143_S {f : FuncId} {B0 : List TV} {B1 : List TV} {A0 : Bool} {K : Bool → Nd} (h : tw cx 143 [sl true ⟨6, false⟩ B0, sl true ⟨6, false⟩ B1] = some ([tb A0], [])) : S cx f (C143 B0 B1 K) = S cx f (K A0) := call_S h rfl
noncomputable def C144 (B0 : List TV) (B1 : List TV) (K : Bool → Nd) : Nd := .call 144 [sl true ⟨1, true⟩ B0, sl true ⟨1, true⟩ B1] fun R => .cons R.1 fun X0 X1 => .bool X0 fun A0 => .nil X1 <| .nil R.2 <| K A0
theorem C144_S {f : FuncId} {B0 : List TV} {B1 : List TV} {A0 : Bool} {K : Bool → Nd} (h : tw cx 144 [sl true ⟨1, true⟩ B0, sl true ⟨1, true⟩ B1] = some ([tb A0], [])) : S cx f (C144 B0 B1 K) = S cx f (K A0) := call_S h rfl
noncomputable def C126_1 (B0 : List TV) (K : Bool → Nd) : Nd := .call 126 [sl true ⟨1, false⟩ B0, .cl 152 []] fun R => .cons R.1 fun X0 X1 => .bool X0 fun A0 => .nil X1 <| .nil R.2 <| K A0
theorem C126_1_S {f : FuncId} {B0 : List TV} {A0 : Bool} {K : Bool → Nd} (h : tw cx 126 [sl true ⟨1, false⟩ B0, .cl 152 []] = some ([tb A0], [])) : S cx f (C126_1 B0 K) = S cx f (K A0) := call_S h rfl
noncomputable def C154 (B0 : Int) (K : Bool → Nd) : Nd := .call 154 [i64 B0] fun R => .cons R.1 fun X0 X1 => .bool X0 fun A0 => .nil X1 <| .nil R.2 <| K A0
theorem C154_S {f : FuncId} {B0 : Int} {A0 : Bool} {K : Bool → Nd} (h : tw cx 154 [i64 B0] = some ([tb A0], [])) : S cx f (C154 B0 K) = S cx f (K A0) := call_S h rfl
noncomputable def C155 (B0 : Int) (B1 : Int) (K : Int → Int → Nd) : Nd := .call 155 [.fl (.int .u64 B0), .fl (.int .u64 B1)] fun R => .cons R.1 fun X0 X1 => .int .u64 X0 fun A0 => .cons X1 fun X2 X3 => .int .u64 X2 fun A1 => .nil X3 <| .nil R.2 <| K A0 A1
theorem C155_S {f : FuncId} {B0 : Int} {B1 : Int} {A0 : Int} {A1 : Int} {K : Int → Int → Nd} (h : tw cx 155 [.fl (.int .u64 B0), .fl (.int .u64 B1)] = some ([.fl (.int .u64 A0), .fl (.int .u64 A1)], [])) : S cx f (C155 B0 B1 K) = S cx f (K A0 A1) := call_S h rfl
noncomputable def C157 (B0 : List TV) (B1 : Int) (K : Int → Nd) : Nd := .call 157 [sl true ⟨1, false⟩ B0, i64 B1] fun R => .cons R.1 fun X0 X1 => .int .i64 X0 fun A0 => .nil X1 <| .nil R.2 <| K A0
theorem C157_S {f : FuncId} {B0 : List TV} {B1 : Int} {A0 : Int} {K : Int → Nd} (h : tw cx 157 [sl true ⟨1, false⟩ B0, i64 B1] = some ([i64 A0], [])) : S cx f (C157 B0 B1 K) = S cx f (K A0) := call_S h rfl
noncomputable def C158 (B0 : List TV) (B1 : Int) (K : Int → Nd) : Nd := .call 158 [sl true ⟨6, false⟩ B0, .cl 123 [.pt true () (i64 B1)]] fun R => .cons R.1 fun X0 X1 => .int .i64 X0 fun A0 => .nil X1 <| .nil R.2 <| K A0
theorem C158_S {f : FuncId} {B0 : List TV} {B1 : Int} {A0 : Int} {K : Int → Nd} (h : tw cx 158 [sl true ⟨6, false⟩ B0, .cl 123 [.pt true () (i64 B1)]] = some ([i64 A0], [])) : S cx f (C158 B0 B1 K) = S cx f (K A0) := call_S h rfl
noncomputable def C124 (B0 : Int) (B1 : Int) (B2 : Int) (B3 : Int) (B4 : Int) (B5 : Int) (B6 : Int) (K : Bool → Nd) : Nd := .call 124 [.st [i64 B0, i64 B1, i64 B2, i64 B3, i64 B4, i64 B5], i64 B6] fun R => .cons R.1 fun X0 X1 => .bool X0 fun A0 => .nil X1 <| .nil R.2 <| K A0
theorem C124_S {f : FuncId} {B0 : Int} {B1 : Int} {B2 : Int} {B3 : Int} {B4 : Int} {B5 : Int} {B6 : Int} {A0 : Bool} {K : Bool → Nd} (h : tw cx 124 [.st [i64 B0, i64 B1, i64 B2, i64 B3, i64 B4, i64 B5], i64 B6] = some ([tb A0], [])) : S cx f (C124 B0 B1 B2 B3 B4 B5 B6 K) = S cx f (K A0) := call_S h rfl
noncomputable def C161 (B0 : Int) (K : Bool → Nd) : Nd := .call 161 [i64 B0] fun R => .cons R.1 fun X0 X1 => .bool X0 fun A0 => .nil X1 <| .nil R.2 <| K A0
theorem C161_S {f : FuncId} {B0 : Int} {A0 : Bool} {K : Bool → Nd} (h : tw cx 161 [i64 B0] = some ([tb A0], [])) : S cx f (C161 B0 K) = S cx f (K A0) := call_S h rfl
noncomputable def C159 (B0 : Int) (K : Bool → Bool → Bool → Bool → Bool → Bool → Nd) : Nd := .call 159 [i64 B0] fun R => .cons R.1 fun X0 X1 => .st X0 fun X2 => .cons X2 fun X3 X4 => .bool X3 fun A0 => .cons X4 fun X5 X6 => .bool X5 fun A1 => .cons X6 fun X7 X8 => .bool X7 fun A2 => .cons X8 fun X9 X10 => .bool X9 fun A3 => .cons X10 fun X11 X12 => .bool X11 fun A4 => .nil X12 <| .cons X1 fun X13 X14 => .bool X13 fun A5 => .nil X14 <| .nil R.2 <| K A0 A1 A2 A3 A4 A5
theorem C159_S {f : FuncId} {B0 : Int} {A0 : Bool} {A1 : Bool} {A2 : Bool} {A3 : Bool} {A4 : Bool} {A5 : Bool} {K : Bool → Bool → Bool → Bool → Bool → Bool → Nd} (h : tw cx 159 [i64 B0] = some ([.st [tb A0, tb A1, tb A2, tb A3, tb A4], tb A5], [])) : S cx f (C159 B0 K) = S cx f (K A0 A1 A2 A3 A4 A5) := call_S h rfl
noncomputable def C160 (B0 : Bool) (B1 : Int) (B2 : Int) (K : Bool → Nd) : Nd := .call 160 [tb B0, i64 B1, .pt true () (i64 B2)] fun R => .cons R.1 fun X0 X1 => .bool X0 fun A0 => .nil X1 <| .nil R.2 <| K A0
theorem C160_S {f : FuncId} {B0 : Bool} {B1 : Int} {B2 : Int} {A0 : Bool} {K : Bool → Nd} (h : tw cx 160 [tb B0, i64 B1, .pt true () (i64 B2)] = some ([tb A0], [])) : S cx f (C160 B0 B1 B2 K) = S cx f (K A0) := call_S h rfl
noncomputable def C153 (B0 : Int) (K : Bool → Nd) : Nd := .call 153 [i64 B0] fun R => .cons R.1 fun X0 X1 => .bool X0 fun A0 => .nil X1 <| .nil R.2 <| K A0
theorem C153_S {f : FuncId} {B0 : Int} {A0 : Bool} {K : Bool → Nd} (h : tw cx 153 [i64 B0] = some ([tb A0], [])) : S cx f (C153 B0 K) = S cx f (K A0) := call_S h rfl
noncomputable def C162 (B0 : List TV) (K : Int → Nd) : Nd := .call 162 [sl true ⟨1, false⟩ B0, .cl 152 []] fun R => .cons R.1 fun X0 X1 => .int .i64 X0 fun A0 => .nil X1 <| .nil R.2 <| K A0
theorem C162_S {f : FuncId} {B0 : List TV} {A0 : Int} {K : Int → Nd} (h : tw cx 162 [sl true ⟨1, false⟩ B0, .cl 152 []] = some ([i64 A0], [])) : S cx f (C162 B0 K) = S cx f (K A0) := call_S h rfl
noncomputable def C162_1 (B0 : List TV) (B1 : Int) (K : Int → Nd) : Nd := .call 162 [sl true ⟨1, false⟩ B0, .cl 127 [.pt true () (i64 B1)]] fun R => .cons R.1 fun X0 X1 => .int .i64 X0 fun A0 => .nil X1 <| .nil R.2 <| K A0
theorem C162_1_S {f : FuncId} {B0 : List TV} {B1 : Int} {A0 : Int} {K : Int → Nd} (h : tw cx 162 [sl true ⟨1, false⟩ B0, .cl 127 [.pt true () (i64 B1)]] = some ([i64 A0], [])) : S cx f (C162_1 B0 B1 K) = S cx f (K A0) := call_S h rfl
noncomputable def C163 (B0 : Int) (B1 : Int) (B2 : Int) (B3 : Int) (B4 : Int) (B5 : Int) (K : Int → Int → Int → Int → Int → Int → Nd) : Nd := .call 163 [.st [i64 B0, i64 B1, i64 B2, i64 B3, i64 B4, i64 B5]] fun R => .cons R.1 fun X0 X1 => .st X0 fun X2 => .cons X2 fun X3 X4 => .int .i64 X3 fun A0 => .cons X4 fun X5 X6 => .int .i64 X5 fun A1 => .cons X6 fun X7 X8 => .int .i64 X7 fun A2 => .cons X8 fun X9 X10 => .int .i64 X9 fun A3 => .cons X10 fun X11 X12 => .int .i64 X11 fun A4 => .cons X12 fun X13 X14 => .int .i64 X13 fun A5 => .nil X14 <| .nil X1 <| .nil R.2 <| K A0 A1 A2 A3 A4 A5
theorem C163_S {f : FuncId} {B0 : Int} {B1 : Int} {B2 : Int} {B3 : Int} {B4 : Int} {B5 : Int} {A0 : Int} {A1 : Int} {A2 : Int} {A3 : Int} {A4 : Int} {A5 : Int} {K : Int → Int → Int → Int → Int → Int → Nd} (h : tw cx 163 [.st [i64 B0, i64 B1, i64 B2, i64 B3, i64 B4, i64 B5]] = some ([.st [i64 A0, i64 A1, i64 A2, i64 A3, i64 A4, i64 A5]], [])) : S cx f (C163 B0 B1 B2 B3 B4 B5 K) = S cx f (K A0 A1 A2 A3 A4 A5) := call_S h rfl
noncomputable def C77 (B0 : List TV) (B1 : Int) (K : Bool → Nd) : Nd := .call 77 [sl true ⟨6, false⟩ B0, i64 B1] fun R => .cons R.1 fun X0 X1 => .bool X0 fun A0 => .nil X1 <| .nil R.2 <| K A0
theorem C77_S {f : FuncId} {B0 : List TV} {B1 : Int} {A0 : Bool} {K : Bool → Nd} (h : tw cx 77 [sl true ⟨6, false⟩ B0, i64 B1] = some ([tb A0], [])) : S cx f (C77 B0 B1 K) = S cx f (K A0) := call_S h rfl
noncomputable def C78 (B0 : Int) (B1 : Int) (B2 : List TV) (B3 : Int) (B4 : Int) (K : Bool → Nd) : Nd := .call 78 [i64 B0, i64 B1, sl true ⟨1, false⟩ B2, i64 B3, i64 B4] fun R => .cons R.1 fun X0 X1 => .bool X0 fun A0 => .nil X1 <| .nil R.2 <| K A0
theorem C78_S {f : FuncId} {B0 : Int} {B1 : Int} {B2 : List TV} {B3 : Int} {B4 : Int} {A0 : Bool} {K : Bool → Nd} (h : tw cx 78 [i64 B0, i64 B1, sl true ⟨1, false⟩ B2, i64 B3, i64 B4] = some ([tb A0], [])) : S cx f (C78 B0 B1 B2 B3 B4 K) = S cx f (K A0) := call_S h rfl
noncomputable def C164 (B0 : List TV) (B1 : Int) (B2 : List TV) (B3 : List TV) (B4 : List TV) (B5 : List TV) (B6 : List TV) (B7 : List TV) (B8 : Int) (B9 : Int) (B10 : List TV) (B11 : List TV) (K : Bool → Nd) : Nd := .call 164 [.pt true () (.st [.st [sl true ⟨6, true⟩ B0, i64 B1], sl false ⟨1, true⟩ B2, sl false ⟨1, true⟩ B3, sl false ⟨1, false⟩ B4, sl false ⟨1, false⟩ B5]), .pt true () (.st [sl true ⟨1, false⟩ B6, sl true ⟨6, false⟩ B7, i64 B8, i64 B9, sl true ⟨1, false⟩ B10, sl true ⟨1, true⟩ B11])] fun R => .cons R.1 fun X0 X1 => .bool X0 fun A0 => .nil X1 <| .nil R.2 <| K A0
theorem C164_S {f : FuncId} {B0 : List TV} {B1 : Int} {B2 : List TV} {B3 : List TV} {B4 : List TV} {B5 : List TV} {B6 : List TV} {B7 : List TV} {B8 : Int} {B9 : Int} {B10 : List TV} {B11 : List TV} {A0 : Bool} {K : Bool → Nd} (h : tw cx 164 [.pt true () (.st [.st [sl true ⟨6, true⟩ B0, i64 B1], sl false ⟨1, true⟩ B2, sl false ⟨1, true⟩ B3, sl false ⟨1, false⟩ B4, sl false ⟨1, false⟩ B5]), .pt true () (.st [sl true ⟨1, false⟩ B6, sl true ⟨6, false⟩ B7, i64 B8, i64 B9, sl true ⟨1, false⟩ B10, sl true ⟨1, true⟩ B11])] = some ([tb A0], [])) : S cx f (C164 B0 B1 B2 B3 B4 B5 B6 B7 B8 B9 B10 B11 K) = S cx f (K A0) := call_S h rfl
noncomputable def C165 (B0 : List TV) (B1 : Int) (B2 : List TV) (B3 : List TV) (B4 : List TV) (B5 : List TV) (B6 : Int) (B7 : Int) (B8 : Int) (K : Bool → (List TV) → Int → (List TV) → (List TV) → (List TV) → (List TV) → Nd) : Nd := .call 165 [.pt false () (.st [.st [sl true ⟨6, true⟩ B0, i64 B1], sl false ⟨1, true⟩ B2, sl false ⟨1, true⟩ B3, sl false ⟨1, false⟩ B4, sl false ⟨1, false⟩ B5]), i64 B6, i64 B7, i64 B8] fun R => .cons R.1 fun X0 X1 => .bool X0 fun A0 => .nil X1 <| .cons R.2 fun X2 X3 => .ptO X2 .non fun X4 => .st X4 fun X5 => .cons X5 fun X6 X7 => .st X6 fun X8 => .cons X8 fun X9 X10 => .slS ⟨6, true⟩ X9 fun A1 => .cons X10 fun X11 X12 => .int .i64 X11 fun A2 => .nil X12 <| .cons X7 fun X13 X14 => .slO ⟨1, true⟩ X13 fun A3 => .cons X14 fun X15 X16 => .slO ⟨1, true⟩ X15 fun A4 => .cons X16 fun X17 X18 => .slO ⟨1, false⟩ X17 fun A5 => .cons X18 fun X19 X20 => .slO ⟨1, false⟩ X19 fun A6 => .nil X20 <| .nil X3 <| K A0 A1 A2 A3 A4 A5 A6
theorem C165_S {f : FuncId} {B0 : List TV} {B1 : Int} {B2 : List TV} {B3 : List TV} {B4 : List TV} {B5 : List TV} {B6 : Int} {B7 : Int} {B8 : Int} {A0 : Bool} {A1 : List TV} {A2 : Int} {A3 : List TV} {A4 : List TV} {A5 : List TV} {A6 : List TV} {K : Bool → (List TV) → Int → (List TV) → (List TV) → (List TV) → (List TV) → Nd} (h : tw cx 165 [.pt false () (.st [.st [sl true ⟨6, true⟩ B0, i64 B1], sl false ⟨1, true⟩ B2, sl false ⟨1, true⟩ B3, sl false ⟨1, false⟩ B4, sl false ⟨1, false⟩ B5]), i64 B6, i64 B7, i64 B8] = some ([tb A0], [.pt false () (.st [.st [sl true ⟨6, true⟩ A1, i64 A2], sl false ⟨1, true⟩ A3, sl false ⟨1, true⟩ A4, sl false ⟨1, false⟩ A5, sl false ⟨1, false⟩ A6])])) : S cx f (C165 B0 B1 B2 B3 B4 B5 B6 B7 B8 K) = S cx f (K A0 A1 A2 A3 A4 A5 A6) := call_S h rfl
noncomputable def C166 (B0 : Int) (B1 : Int) (B2 : Int) (B3 : Int) (B4 : Int) (B5 : Int) (K : Bool → Nd) : Nd := .call 166 [.st [i64 B0, i64 B1, i64 B2, i64 B3, i64 B4, i64 B5]] fun R => .cons R.1 fun X0 X1 => .bool X0 fun A0 => .nil X1 <| .nil R.2 <| K A0
theorem C166_S {f : FuncId} {B0 : Int} {B1 : Int} {B2 : Int} {B3 : Int} {B4 : Int} {B5 : Int} {A0 : Bool} {K : Bool → Nd} (h : tw cx 166 [.st [i64 B0, i64 B1, i64 B2, i64 B3, i64 B4, i64 B5]] = some ([tb A0], [])) : S cx f (C166 B0 B1 B2 B3 B4 B5 K) = S cx f (K A0) := call_S h rfl
noncomputable def C167 (B0 : List TV) (B1 : Bool) (K : Int → Nd) : Nd := .call 167 [sl true ⟨1, false⟩ B0, tb B1] fun R => .cons R.1 fun X0 X1 => .int .i64 X0 fun A0 => .nil X1 <| .nil R.2 <| K A0
theorem C167_S {f : FuncId} {B0 : List TV} {B1 : Bool} {A0 : Int} {K : Int → Nd} (h : tw cx 167 [sl true ⟨1, false⟩ B0, tb B1] = some ([i64 A0], [])) : S cx f (C167 B0 B1 K) = S cx f (K A0) := call_S h rfl
noncomputable def C168 (B0 : Int) (B1 : Int) (B2 : Int) (B3 : Int) (B4 : Int) (B5 : Int) (K : (List TV) → Nd) : Nd := .call 168 [.st [i64 B0, i64 B1, i64 B2, i64 B3, i64 B4, i64 B5]] fun R => .cons R.1 fun X0 X1 => .slO ⟨1, false⟩ X0 fun A0 => .nil X1 <| .nil R.2 <| K A0
theorem C168_S {f : FuncId} {B0 : Int} {B1 : Int} {B2 : Int} {B3 : Int} {B4 : Int} {B5 : Int} {A0 : List TV} {K : (List TV) → Nd} (h : tw cx 168 [.st [i64 B0, i64 B1, i64 B2, i64 B3, i64 B4, i64 B5]] = some ([sl false ⟨1, false⟩ A0], [])) : S cx f (C168 B0 B1 B2 B3 B4 B5 K) = S cx f (K A0) := call_S h rfl
noncomputable def C169 (B0 : List TV) (B1 : Int) (B2 : List TV) (B3 : List TV) (B4 : List TV) (B5 : List TV) (B6 : Int) (B7 : Int) (B8 : Int) (K : Bool → Nd) : Nd := .call 169 [.pt true () (.st [.st [sl true ⟨6, true⟩ B0, i64 B1], sl false ⟨1, true⟩ B2, sl false ⟨1, true⟩ B3, sl false ⟨1, false⟩ B4, sl false ⟨1, false⟩ B5]), i64 B6, i64 B7, i64 B8] fun R => .cons R.1 fun X0 X1 => .bool X0 fun A0 => .nil X1 <| .nil R.2 <| K A0
theorem C169_S {f : FuncId} {B0 : List TV} {B1 : Int} {B2 : List TV} {B3 : List TV} {B4 : List TV} {B5 : List TV} {B6 : Int} {B7 : Int} {B8 : Int} {A0 : Bool} {K : Bool → Nd} (h : tw cx 169 [.pt true () (.st [.st [sl true ⟨6, true⟩ B0, i64 B1], sl false ⟨1, true⟩ B2, sl false ⟨1, true⟩ B3, sl false ⟨1, false⟩ B4, sl false ⟨1, false⟩ B5]), i64 B6, i64 B7, i64 B8] = some ([tb A0], [])) : S cx f (C169 B0 B1 B2 B3 B4 B5 B6 B7 B8 K) = S cx f (K A0) := call_S h rfl
noncomputable def C170 (B0 : List TV) (K : (List TV) → Nd) : Nd := .call 170 [sl true ⟨1, true⟩ B0] fun R => .cons R.1 fun X0 X1 => .slO ⟨1, false⟩ X0 fun A0 => .nil X1 <| .nil R.2 <| K A0
theorem C170_S {f : FuncId} {B0 : List TV} {A0 : List TV} {K : (List TV) → Nd} (h : tw cx 170 [sl true ⟨1, true⟩ B0] = some ([sl false ⟨1, false⟩ A0], [])) : S cx f (C170 B0 K) = S cx f (K A0) := call_S h rfl
noncomputable def C107 (B0 : Int) (B1 : Int) (B2 : Int) (K : Int → Bool → Nd) : Nd := .call 107 [i64 B0, i64 B1, i64 B2] fun R => .cons R.1 fun X0 X1 => .int .i64 X0 fun A0 => .cons X1 fun X2 X3 => .bool X2 fun A1 => .nil X3 <| .nil R.2 <| K A0 A1
theorem C107_S {f : FuncId} {B0 : Int} {B1 : Int} {B2 : Int} {A0 : Int} {A1 : Bool} {K : Int → Bool → Nd} (h : tw cx 107 [i64 B0, i64 B1, i64 B2] = some ([i64 A0, tb A1], [])) : S cx f (C107 B0 B1 B2 K) = S cx f (K A0 A1) := call_S h rfl
noncomputable def C108 (B0 : List TV) (B1 : List TV) (B2 : List TV) (B3 : Int) (K : Int → Bool → Nd) : Nd := .call 108 [.pt true () (.st [sl false ⟨1, false⟩ B0, sl false ⟨1, false⟩ B1, sl false ⟨1, false⟩ B2]), i64 B3] fun R => .cons R.1 fun X0 X1 => .int .i64 X0 fun A0 => .cons X1 fun X2 X3 => .bool X2 fun A1 => .nil X3 <| .nil R.2 <| K A0 A1
theorem C108_S {f : FuncId} {B0 : List TV} {B1 : List TV} {B2 : List TV} {B3 : Int} {A0 : Int} {A1 : Bool} {K : Int → Bool → Nd} (h : tw cx 108 [.pt true () (.st [sl false ⟨1, false⟩ B0, sl false ⟨1, false⟩ B1, sl false ⟨1, false⟩ B2]), i64 B3] = some ([i64 A0, tb A1], [])) : S cx f (C108 B0 B1 B2 B3 K) = S cx f (K A0 A1) := call_S h rfl
noncomputable def C171 (B0 : List TV) (B1 : List TV) (B2 : List TV) (B3 : List TV) (B4 : Int) (B5 : Int) (B6 : Int) (B7 : Int) (B8 : List TV) (K : (List TV) → Nd) : Nd := .call 171 [.pt true () (.st [.st [sl false ⟨1, false⟩ B0, sl false ⟨1, false⟩ B1, sl false ⟨1, false⟩ B2], sl false ⟨1, false⟩ B3, i64 B4, i64 B5, i64 B6, i64 B7]), sl true ⟨1, false⟩ B8] fun R => .cons R.1 fun X0 X1 => .slO ⟨1, false⟩ X0 fun A0 => .nil X1 <| .nil R.2 <| K A0
theorem C171_S {f : FuncId} {B0 : List TV} {B1 : List TV} {B2 : List TV} {B3 : List TV} {B4 : Int} {B5 : Int} {B6 : Int} {B7 : Int} {B8 : List TV} {A0 : List TV} {K : (List TV) → Nd} (h : tw cx 171 [.pt true () (.st [.st [sl false ⟨1, false⟩ B0, sl false ⟨1, false⟩ B1, sl false ⟨1, false⟩ B2], sl false ⟨1, false⟩ B3, i64 B4, i64 B5, i64 B6, i64 B7]), sl true ⟨1, false⟩ B8] = some ([sl false ⟨1, false⟩ A0], [])) : S cx f (C171 B0 B1 B2 B3 B4 B5 B6 B7 B8 K) = S cx f (K A0) := call_S h rfl
noncomputable def C60 (B0 : Int) (B1 : Int) (B2 : Int) (K : Int → Nd) : Nd := .call 60 [i64 B0, i64 B1, i64 B2] fun R => .cons R.1 fun X0 X1 => .int .i64 X0 fun A0 => .nil X1 <| .nil R.2 <| K A0
theorem C60_S {f : FuncId} {B0 : Int} {B1 : Int} {B2 : Int} {A0 : Int} {K : Int → Nd} (h : tw cx 60 [i64 B0, i64 B1, i64 B2] = some ([i64 A0], [])) : S cx f (C60 B0 B1 B2 K) = S cx f (K A0) := call_S h rfl
noncomputable def C172 (B0 : Int) (B1 : Int) (B2 : Int) (B3 : Int) (B4 : Int) (B5 : Int) (B6 : Int) (B7 : Int) (B8 : Int) (B9 : Int) (B10 : Int) (B11 : Int) (K : Bool → Nd) : Nd := .call 172 [.st [i64 B0, i64 B1, i64 B2, i64 B3, i64 B4, i64 B5], .st [i64 B6, i64 B7, i64 B8, i64 B9, i64 B10, i64 B11]] fun R => .cons R.1 fun X0 X1 => .bool X0 fun A0 => .nil X1 <| .nil R.2 <| K A0
theorem C172_S {f : FuncId} {B0 : Int} {B1 : Int} {B2 : Int} {B3 : Int} {B4 : Int} {B5 : Int} {B6 : Int} {B7 : Int} {B8 : Int} {B9 : Int} {B10 : Int} {B11 : Int} {A0 : Bool} {K : Bool → Nd} (h : tw cx 172 [.st [i64 B0, i64 B1, i64 B2, i64 B3, i64 B4, i64 B5], .st [i64 B6, i64 B7, i64 B8, i64 B9, i64 B10, i64 B11]] = some ([tb A0], [])) : S cx f (C172 B0 B1 B2 B3 B4 B5 B6 B7 B8 B9 B10 B11 K) = S cx f (K A0) := call_S h rfl
noncomputable def C184 (B0 : Int) (B1 : Int) (K : Int → Int → Nd) : Nd := .call 184 [.fl (.int .u64 B0), .fl (.int .u64 B1)] fun R => .cons R.1 fun X0 X1 => .int .u64 X0 fun A0 => .cons X1 fun X2 X3 => .int .u64 X2 fun A1 => .nil X3 <| .nil R.2 <| K A0 A1
theorem C184_S {f : FuncId} {B0 : Int} {B1 : Int} {A0 : Int} {A1 : Int} {K : Int → Int → Nd} (h : tw cx 184 [.fl (.int .u64 B0), .fl (.int .u64 B1)] = some ([.fl (.int .u64 A0), .fl (.int .u64 A1)], [])) : S cx f (C184 B0 B1 K) = S cx f (K A0 A1) := call_S h rfl
noncomputable def C123 (B0 : Int) (B1 : Int) (B2 : Int) (B3 : Int) (B4 : Int) (B5 : Int) (B6 : Int) (K : Bool → Nd) : Nd := .call 123 [.st [i64 B0, i64 B1, i64 B2, i64 B3, i64 B4, i64 B5], .pt true () (i64 B6)] fun R => .cons R.1 fun X0 X1 => .bool X0 fun A0 => .nil X1 <| .nil R.2 <| K A0
theorem C123_S {f : FuncId} {B0 : Int} {B1 : Int} {B2 : Int} {B3 : Int} {B4 : Int} {B5 : Int} {B6 : Int} {A0 : Bool} {K : Bool → Nd} (h : tw cx 123 [.st [i64 B0, i64 B1, i64 B2, i64 B3, i64 B4, i64 B5], .pt true () (i64 B6)] = some ([tb A0], [])) : S cx f (C123 B0 B1 B2 B3 B4 B5 B6 K) = S cx f (K A0) := call_S h rfl
noncomputable def C152 (B0 : Int) (K : Bool → Nd) : Nd := .call 152 [i64 B0] fun R => .cons R.1 fun X0 X1 => .bool X0 fun A0 => .nil X1 <| .nil R.2 <| K A0
theorem C152_S {f : FuncId} {B0 : Int} {A0 : Bool} {K : Bool → Nd} (h : tw cx 152 [i64 B0] = some ([tb A0], [])) : S cx f (C152 B0 K) = S cx f (K A0) := call_S h rfl
noncomputable def C127 (B0 : Int) (B1 : Int) (K : Bool → Nd) : Nd := .call 127 [i64 B0, .pt true () (i64 B1)] fun R => .cons R.1 fun X0 X1 => .bool X0 fun A0 => .nil X1 <| .nil R.2 <| K A0
theorem C127_S {f : FuncId} {B0 : Int} {B1 : Int} {A0 : Bool} {K : Bool → Nd} (h : tw cx 127 [i64 B0, .pt true () (i64 B1)] = some ([tb A0], [])) : S cx f (C127 B0 B1 K) = S cx f (K A0) := call_S h rfl
noncomputable def C185 (B0 : Int) (K : (List TV) → Nd) : Nd := .call 185 [.fl (.slice none 0 0), i64 B0] fun R => .cons R.1 fun X0 X1 => .slO ⟨1, false⟩ X0 fun A0 => .nil X1 <| .nil R.2 <| K A0
theorem C185_S {f : FuncId} {B0 : Int} {A0 : List TV} {K : (List TV) → Nd} (h : tw cx 185 [.fl (.slice none 0 0), i64 B0] = some ([sl false ⟨1, false⟩ A0], [])) : S cx f (C185 B0 K) = S cx f (K A0) := call_S h rfl
end Go.Tree.Q

/- Trees of values: program points of functions. -/
namespace Go.Tree.Q
open Go.Proofs
set_option linter.unusedVariables false
set_option maxRecDepth 20000
noncomputable def EG3_0 (aFuel_0 : Int) (aS_1 : List TV) (aS_2 : Int) (aState_3 : List TV) (aState_4 : List TV) (aState_5 : List TV) (w0_6 : Int) (w1_7 : Bool) : Env := [.un, .un, w6 aFuel_0, w0 aS_1 aS_2, w1 aState_3 aState_4 aState_5, .un, .un, .un, w6 w0_6, .val [] (tb w1_7)] ++ uns 55
noncomputable abbrev G3_0 (aFuel_0 : Int) (aS_1 : List TV) (aS_2 : Int) (aState_3 : List TV) (aState_4 : List TV) (aState_5 : List TV) (w0_6 : Int) (w1_7 : Bool) : Nd := .go [1, 1, 1, 1, 1, 1, 1] (EG3_0 aFuel_0 aS_1 aS_2 aState_3 aState_4 aState_5 w0_6 w1_7)
noncomputable def N3_s0 (aS_0 : List TV) (aS_1 : Int) (aState_2 : List TV) (aState_3 : List TV) (aState_4 : List TV) (aFuel_5 : Int) : Nd :=
  C10 aS_0 aS_1 fun partss_7252 values_4bda =>
  C11 aState_2 aState_3 aState_4 fun localss_1ae4 mems_932a tolds_c134 =>
  C9 partss_7252 values_4bda localss_1ae4 mems_932a tolds_c134 aFuel_5 fun v_b593 v_ac57 =>
  G3_0 aFuel_5 aS_0 aS_1 aState_2 aState_3 aState_4 v_b593 v_ac57
noncomputable def N3 (aS_0 : List TV) (aS_1 : Int) (aState_2 : List TV) (aState_3 : List TV) (aState_4 : List TV) (aFuel_5 : Int) : Nd :=
  C7 aS_0 aS_1 1048576 fun v_22d8 =>
  .bif (decide (v_22d8 < 0))
  (.ret [tb true] [])
  (C8 aState_2 aState_3 aState_4 v_22d8 fun v_2ba8 =>
    .bif (decide (v_2ba8 < 0))
    (.ret [tb true] [])
    (.amb2 
      (N3_s0 aS_0 aS_1 aState_2 aState_3 aState_4 aFuel_5) 
      (N3_s0 aS_0 aS_1 aState_2 aState_3 aState_4 aFuel_5)))
theorem e3 {aS_0 : List TV} {aS_1 : Int} {aState_2 : List TV} {aState_3 : List TV} {aState_4 : List TV} {aFuel_5 : Int} {r : Res} (h : S cx 3 (N3 aS_0 aS_1 aState_2 aState_3 aState_4 aFuel_5) = some r) : tw cx 3 [.st [sl true ⟨6, true⟩ aS_0, i64 aS_1], .st [sl true ⟨1, false⟩ aState_2, sl true ⟨1, false⟩ aState_3, sl true ⟨1, false⟩ aState_4], i64 aFuel_5] = some r :=
  tw_of (fun call hd hb pt rg => by kernel_rfl) h
noncomputable def NG3_0_s0 (aState_3 : List TV) (aState_4 : List TV) (aState_5 : List TV) (localss_6fb3 : List TV) (mems_910b : List TV) (tolds_0bb5 : List TV) : Nd :=
  C11 aState_3 aState_4 aState_5 fun localss_1169 mems_d64a tolds_7363 =>
  C14 localss_6fb3 mems_910b tolds_0bb5 localss_1169 mems_d64a tolds_7363 fun v_4b52 =>
  .bif ((!v_4b52))
  (.ret [tb false] [])
  (.ret [tb true] [])
noncomputable def NG3_0_s1 (aS_1 : List TV) (aS_2 : Int) (aState_3 : List TV) (aState_4 : List TV) (aState_5 : List TV) (partss_a5cb : List TV) (values_8321 : Int) (localss_6fb3 : List TV) (mems_910b : List TV) (tolds_0bb5 : List TV) : Nd :=
  C10 aS_1 aS_2 fun partss_8047 values_93f1 =>
  C13 partss_a5cb values_8321 partss_8047 values_93f1 fun v_ae0a =>
  .bif ((!v_ae0a))
  (.ret [tb false] [])
  (.amb2 
    (NG3_0_s0 aState_3 aState_4 aState_5 localss_6fb3 mems_910b tolds_0bb5) 
    (NG3_0_s0 aState_3 aState_4 aState_5 localss_6fb3 mems_910b tolds_0bb5))
noncomputable def NG3_0 (aFuel_0 : Int) (aS_1 : List TV) (aS_2 : Int) (aState_3 : List TV) (aState_4 : List TV) (aState_5 : List TV) (w0_6 : Int) (w1_7 : Bool) : Nd :=
  C10 aS_1 aS_2 fun partss_a5cb values_8321 =>
  C11 aState_3 aState_4 aState_5 fun localss_6fb3 mems_910b tolds_0bb5 =>
  C12 partss_a5cb values_8321 localss_6fb3 mems_910b tolds_0bb5 aFuel_0 fun v_340b v_14ee =>
  .bif ((v_340b != w0_6))
  (.ret [tb false] [])
  (.bif ((!(v_14ee == w1_7)))
    (.ret [tb false] [])
    (.amb2 
      (NG3_0_s1 aS_1 aS_2 aState_3 aState_4 aState_5 partss_a5cb values_8321 localss_6fb3 mems_910b tolds_0bb5) 
      (NG3_0_s1 aS_1 aS_2 aState_3 aState_4 aState_5 partss_a5cb values_8321 localss_6fb3 mems_910b tolds_0bb5)))
theorem eG3_0 {aFuel_0 : Int} {aS_1 : List TV} {aS_2 : Int} {aState_3 : List TV} {aState_4 : List TV} {aState_5 : List TV} {w0_6 : Int} {w1_7 : Bool} {r : Res} (h : S cx 3 (NG3_0 aFuel_0 aS_1 aS_2 aState_3 aState_4 aState_5 w0_6 w1_7) = some r) : S cx 3 (G3_0 aFuel_0 aS_1 aS_2 aState_3 aState_4 aState_5 w0_6 w1_7) = some r :=
  pw_of (fun call hd hb pt rg => by kernel_rfl) h
noncomputable def EG4_0 (aFuel_0 : Int) (aS_1 : List TV) (aS_2 : Int) (aState_3 : List TV) (aState_4 : List TV) (aState_5 : List TV) (w0_6 : List TV) (w1_7 : Int) (w2_8 : Bool) : Env := [.un, .un, w6 aFuel_0, w0 aS_1 aS_2, w1 aState_3 aState_4 aState_5, .un, .un, .un, w10 w0_6, w6 w1_7, .val [] (tb w2_8)] ++ uns 137
noncomputable abbrev G4_0 (aFuel_0 : Int) (aS_1 : List TV) (aS_2 : Int) (aState_3 : List TV) (aState_4 : List TV) (aState_5 : List TV) (w0_6 : List TV) (w1_7 : Int) (w2_8 : Bool) : Nd := .go [1, 1, 1, 1, 1, 1, 1] (EG4_0 aFuel_0 aS_1 aS_2 aState_3 aState_4 aState_5 w0_6 w1_7 w2_8)
noncomputable def N4_s0 (aS_0 : List TV) (aS_1 : Int) (aState_2 : List TV) (aState_3 : List TV) (aState_4 : List TV) (aFuel_5 : Int) : Nd :=
  C10 aS_0 aS_1 fun partss_7252 values_4bda =>
  C11 aState_2 aState_3 aState_4 fun localss_1ae4 mems_932a tolds_c134 =>
  C15 partss_7252 values_4bda localss_1ae4 mems_932a tolds_c134 aFuel_5 fun vs_8dc5 v_5f9b v_de10 =>
  G4_0 aFuel_5 aS_0 aS_1 aState_2 aState_3 aState_4 vs_8dc5 v_5f9b v_de10
noncomputable def N4 (aS_0 : List TV) (aS_1 : Int) (aState_2 : List TV) (aState_3 : List TV) (aState_4 : List TV) (aFuel_5 : Int) : Nd :=
  C7 aS_0 aS_1 1048576 fun v_22d8 =>
  .bif (decide (v_22d8 < 0))
  (.ret [tb true] [])
  (C8 aState_2 aState_3 aState_4 v_22d8 fun v_2ba8 =>
    .bif (decide (v_2ba8 < 0))
    (.ret [tb true] [])
    (.amb2 
      (N4_s0 aS_0 aS_1 aState_2 aState_3 aState_4 aFuel_5) 
      (N4_s0 aS_0 aS_1 aState_2 aState_3 aState_4 aFuel_5)))
theorem e4 {aS_0 : List TV} {aS_1 : Int} {aState_2 : List TV} {aState_3 : List TV} {aState_4 : List TV} {aFuel_5 : Int} {r : Res} (h : S cx 4 (N4 aS_0 aS_1 aState_2 aState_3 aState_4 aFuel_5) = some r) : tw cx 4 [.st [sl true ⟨6, true⟩ aS_0, i64 aS_1], .st [sl true ⟨1, false⟩ aState_2, sl true ⟨1, false⟩ aState_3, sl true ⟨1, false⟩ aState_4], i64 aFuel_5] = some r :=
  tw_of (fun call hd hb pt rg => by kernel_rfl) h
noncomputable def EG5_0 (aFuel_0 : Int) (aS_1 : List TV) (aS_2 : Int) (aState_3 : List TV) (aState_4 : List TV) (aState_5 : List TV) (w0_6 : List TV) (w0_7 : List TV) (w0_8 : List TV) (w1_9 : Int) (w2_10 : Int) (w3_11 : Bool) : Env := [.un, .un, w6 aFuel_0, w0 aS_1 aS_2, w1 aState_3 aState_4 aState_5, .un, .un, .un, w27 w0_6 w0_7 w0_8, w6 w1_9, w6 w2_10, .val [] (tb w3_11)] ++ uns 157
noncomputable abbrev G5_0 (aFuel_0 : Int) (aS_1 : List TV) (aS_2 : Int) (aState_3 : List TV) (aState_4 : List TV) (aState_5 : List TV) (w0_6 : List TV) (w0_7 : List TV) (w0_8 : List TV) (w1_9 : Int) (w2_10 : Int) (w3_11 : Bool) : Nd := .go [1, 1, 1, 1, 1, 1, 1] (EG5_0 aFuel_0 aS_1 aS_2 aState_3 aState_4 aState_5 w0_6 w0_7 w0_8 w1_9 w2_10 w3_11)
noncomputable def N5_s0 (aS_0 : List TV) (aS_1 : Int) (aState_2 : List TV) (aState_3 : List TV) (aState_4 : List TV) (aFuel_5 : Int) (partss_7252 : List TV) (values_4bda : Int) (localss_1ae4 : List TV) (mems_932a : List TV) (tolds_c134 : List TV) : Nd :=
  C22 partss_7252 values_4bda localss_1ae4 mems_932a tolds_c134 aFuel_5 fun localss_5517 mems_3520 tolds_8a40 v_f85d v_dd2f v_4743 =>
  G5_0 aFuel_5 aS_0 aS_1 aState_2 aState_3 aState_4 localss_5517 mems_3520 tolds_8a40 v_f85d v_dd2f v_4743
noncomputable def N5_s1 (aS_0 : List TV) (aS_1 : Int) (aState_2 : List TV) (aState_3 : List TV) (aState_4 : List TV) (aFuel_5 : Int) (partss_7252 : List TV) (values_4bda : Int) : Nd :=
  C11 aState_2 aState_3 aState_4 fun localss_1ae4 mems_932a tolds_c134 =>
  N5_s0 aS_0 aS_1 aState_2 aState_3 aState_4 aFuel_5 partss_7252 values_4bda localss_1ae4 mems_932a tolds_c134
noncomputable def N5_s2 (aS_0 : List TV) (aS_1 : Int) (aState_2 : List TV) (aState_3 : List TV) (aState_4 : List TV) (aFuel_5 : Int) : Nd :=
  C10 aS_0 aS_1 fun partss_7252 values_4bda =>
  .amb2 
  (C11 aState_2 aState_3 aState_4 fun localss_1ae4 mems_932a tolds_c134 =>
    .amb2 
    (N5_s0 aS_0 aS_1 aState_2 aState_3 aState_4 aFuel_5 partss_7252 values_4bda localss_1ae4 mems_932a tolds_c134) 
    (N5_s0 aS_0 aS_1 aState_2 aState_3 aState_4 aFuel_5 partss_7252 values_4bda localss_1ae4 mems_932a tolds_c134)) 
  (N5_s1 aS_0 aS_1 aState_2 aState_3 aState_4 aFuel_5 partss_7252 values_4bda)
noncomputable def N5_s3 (aS_0 : List TV) (aS_1 : Int) (aState_2 : List TV) (aState_3 : List TV) (aState_4 : List TV) (aFuel_5 : Int) : Nd :=
  C10 aS_0 aS_1 fun partss_7252 values_4bda =>
  N5_s1 aS_0 aS_1 aState_2 aState_3 aState_4 aFuel_5 partss_7252 values_4bda
noncomputable def N5 (aS_0 : List TV) (aS_1 : Int) (aState_2 : List TV) (aState_3 : List TV) (aState_4 : List TV) (aFuel_5 : Int) : Nd :=
  C7 aS_0 aS_1 1048576 fun v_22d8 =>
  .bif (decide (v_22d8 < 0))
  (.ret [tb true] [])
  (C8 aState_2 aState_3 aState_4 v_22d8 fun v_2ba8 =>
    .bif (decide (v_2ba8 < 0))
    (.ret [tb true] [])
    (.amb3 
      (N5_s2 aS_0 aS_1 aState_2 aState_3 aState_4 aFuel_5) 
      (.amb2 
        (N5_s2 aS_0 aS_1 aState_2 aState_3 aState_4 aFuel_5) 
        (N5_s3 aS_0 aS_1 aState_2 aState_3 aState_4 aFuel_5)) 
      (.amb2 
        (N5_s3 aS_0 aS_1 aState_2 aState_3 aState_4 aFuel_5) 
        (N5_s3 aS_0 aS_1 aState_2 aState_3 aState_4 aFuel_5))))
theorem e5 {aS_0 : List TV} {aS_1 : Int} {aState_2 : List TV} {aState_3 : List TV} {aState_4 : List TV} {aFuel_5 : Int} {r : Res} (h : S cx 5 (N5 aS_0 aS_1 aState_2 aState_3 aState_4 aFuel_5) = some r) : tw cx 5 [.st [sl true ⟨6, true⟩ aS_0, i64 aS_1], .st [sl true ⟨1, false⟩ aState_2, sl true ⟨1, false⟩ aState_3, sl true ⟨1, false⟩ aState_4], i64 aFuel_5] = some r :=
  tw_of (fun call hd hb pt rg => by kernel_rfl) h
noncomputable def N7 (a_0 : List TV) (a_1 : Int) (left_2 : Int) : Nd :=
  C41 a_0 left_2 fun v_37d9 =>
  .bif (decide (v_37d9 < 0))
  (.ret [i64 (-1)] [])
  (.ret [i64 v_37d9] [])
theorem e7 {a_0 : List TV} {a_1 : Int} {left_2 : Int} {r : Res} (h : S cx 7 (N7 a_0 a_1 left_2) = some r) : tw cx 7 [.st [sl true ⟨6, true⟩ a_0, i64 a_1], i64 left_2] = some r :=
  tw_of (fun call hd hb pt rg => by kernel_rfl) h
noncomputable def N8 (a_0 : List TV) (a_1 : List TV) (a_2 : List TV) (left_3 : Int) : Nd :=
  C42 a_0 left_3 fun v_8601 =>
  .bif (decide (v_8601 < 0))
  (.ret [i64 (-1)] [])
  (C42 a_1 v_8601 fun v_5c66 =>
    .bif (decide (v_5c66 < 0))
    (.ret [i64 (-1)] [])
    (C42 a_2 v_5c66 fun v_cfe6 =>
      .bif (decide (v_cfe6 < 0))
      (.ret [i64 (-1)] [])
      (.ret [i64 v_cfe6] [])))
theorem e8 {a_0 : List TV} {a_1 : List TV} {a_2 : List TV} {left_3 : Int} {r : Res} (h : S cx 8 (N8 a_0 a_1 a_2 left_3) = some r) : tw cx 8 [.st [sl true ⟨1, false⟩ a_0, sl true ⟨1, false⟩ a_1, sl true ⟨1, false⟩ a_2], i64 left_3] = some r :=
  tw_of (fun call hd hb pt rg => by kernel_rfl) h
noncomputable def N9 (s_0 : List TV) (s_1 : Int) (state_2 : List TV) (state_3 : List TV) (state_4 : List TV) (fuel_5 : Int) : Nd :=
  C43 s_0 s_1 fun v_12a7 =>
  .bif ((!v_12a7))
  (.ret [i64 0, tb false] [])
  (C44 state_2 state_3 state_4 fun v_6eee =>
    .bif ((!v_6eee))
    (.ret [i64 0, tb false] [])
    (C45 fuel_5 fun v_1f5d =>
      .bif ((!v_1f5d))
      (.ret [i64 0, tb false] [])
      (C46 s_0 s_1 state_2 state_3 state_4 fuel_5 fun localss_cd32 mems_02f7 tolds_ec07 end_aaf9 parts_f025 wordss_1968 last_cccc work_642c =>
        .bif ((end_aaf9 == 3))
        (.ret [i64 0, tb false] [])
        (.ret [i64 work_642c, tb true] []))))
theorem e9 {s_0 : List TV} {s_1 : Int} {state_2 : List TV} {state_3 : List TV} {state_4 : List TV} {fuel_5 : Int} {r : Res} (h : S cx 9 (N9 s_0 s_1 state_2 state_3 state_4 fuel_5) = some r) : tw cx 9 [.st [sl true ⟨6, true⟩ s_0, i64 s_1], .st [sl true ⟨1, false⟩ state_2, sl true ⟨1, false⟩ state_3, sl true ⟨1, false⟩ state_4], i64 fuel_5] = some r :=
  tw_of (fun call hd hb pt rg => by kernel_rfl) h
noncomputable def N10 (a_0 : List TV) (a_1 : Int) : Nd :=
  C47 a_0 fun vs_7f33 =>
  .ret [.st [sl false ⟨6, true⟩ vs_7f33, i64 a_1]] []
theorem e10 {a_0 : List TV} {a_1 : Int} {r : Res} (h : S cx 10 (N10 a_0 a_1) = some r) : tw cx 10 [.st [sl true ⟨6, true⟩ a_0, i64 a_1]] = some r :=
  tw_of (fun call hd hb pt rg => by kernel_rfl) h
noncomputable def N11 (a_0 : List TV) (a_1 : List TV) (a_2 : List TV) : Nd :=
  C48 a_0 fun vs_2f12 =>
  C48 a_1 fun vs_7570 =>
  C48 a_2 fun vs_d411 =>
  .ret [.st [sl false ⟨1, false⟩ vs_2f12, sl false ⟨1, false⟩ vs_7570, sl false ⟨1, false⟩ vs_d411]] []
theorem e11 {a_0 : List TV} {a_1 : List TV} {a_2 : List TV} {r : Res} (h : S cx 11 (N11 a_0 a_1 a_2) = some r) : tw cx 11 [.st [sl true ⟨1, false⟩ a_0, sl true ⟨1, false⟩ a_1, sl true ⟨1, false⟩ a_2]] = some r :=
  tw_of (fun call hd hb pt rg => by kernel_rfl) h
noncomputable def N12 (s_0 : List TV) (s_1 : Int) (state_2 : List TV) (state_3 : List TV) (state_4 : List TV) (fuel_5 : Int) : Nd :=
  .call 49 [.st [sl true ⟨6, true⟩ s_0, i64 s_1], .st [sl true ⟨1, false⟩ state_2, sl true ⟨1, false⟩ state_3, sl true ⟨1, false⟩ state_4], i64 fuel_5] fun r_0f94 =>
  .cons r_0f94.1 fun t_f1ee ts_a255 =>
  .ptO t_f1ee (.nil ts_a255 <|
    .nil r_0f94.2 <|
    .ret [i64 0, tb false] []) fun p_5d68 =>
  .st p_5d68 fun ts_d889 =>
  .cons ts_d889 fun t_879d ts_4c27 =>
  V3 t_879d fun localss_effc mems_b4d7 tolds_0c9c =>
  .cons ts_4c27 fun t_10f3 ts_f20a =>
  .slO ⟨1, false⟩ t_10f3 fun wordss_121b =>
  .cons ts_f20a fun t_4ce5 ts_1e57 =>
  .int .i64 t_4ce5 fun end_36c2 =>
  .cons ts_1e57 fun t_68f3 ts_5360 =>
  .int .i64 t_68f3 fun begun_3881 =>
  .cons ts_5360 fun t_a27a ts_e07e =>
  .int .i64 t_a27a fun last_1e62 =>
  .cons ts_e07e fun t_5ed2 ts_bce6 =>
  .int .i64 t_5ed2 fun twos_cb44 =>
  .nil ts_bce6 <|
  .nil ts_a255 <|
  .nil r_0f94.2 <|
  .bif ((end_36c2 == 3))
  (.ret [i64 0, tb false] [])
  (.ret [i64 twos_cb44, tb true] [])
theorem e12 {s_0 : List TV} {s_1 : Int} {state_2 : List TV} {state_3 : List TV} {state_4 : List TV} {fuel_5 : Int} {r : Res} (h : S cx 12 (N12 s_0 s_1 state_2 state_3 state_4 fuel_5) = some r) : tw cx 12 [.st [sl true ⟨6, true⟩ s_0, i64 s_1], .st [sl true ⟨1, false⟩ state_2, sl true ⟨1, false⟩ state_3, sl true ⟨1, false⟩ state_4], i64 fuel_5] = some r :=
  tw_of (fun call hd hb pt rg => by kernel_rfl) h
noncomputable def N13 (a_0 : List TV) (a_1 : Int) (b_2 : List TV) (b_3 : Int) : Nd :=
  C50 a_0 b_2 fun v_503a =>
  .bif ((!v_503a))
  (.ret [tb false] [])
  (.bif ((a_1 != b_3))
    (.ret [tb false] [])
    (.ret [tb true] []))
theorem e13 {a_0 : List TV} {a_1 : Int} {b_2 : List TV} {b_3 : Int} {r : Res} (h : S cx 13 (N13 a_0 a_1 b_2 b_3) = some r) : tw cx 13 [.st [sl true ⟨6, true⟩ a_0, i64 a_1], .st [sl true ⟨6, true⟩ b_2, i64 b_3]] = some r :=
  tw_of (fun call hd hb pt rg => by kernel_rfl) h
noncomputable def N14 (a_0 : List TV) (a_1 : List TV) (a_2 : List TV) (b_3 : List TV) (b_4 : List TV) (b_5 : List TV) : Nd :=
  C17 a_0 b_3 fun v_f4e6 =>
  .bif ((!v_f4e6))
  (.ret [tb false] [])
  (C17 a_1 b_4 fun v_f12f =>
    .bif ((!v_f12f))
    (.ret [tb false] [])
    (C17 a_2 b_5 fun v_5459 =>
      .bif ((!v_5459))
      (.ret [tb false] [])
      (.ret [tb true] [])))
theorem e14 {a_0 : List TV} {a_1 : List TV} {a_2 : List TV} {b_3 : List TV} {b_4 : List TV} {b_5 : List TV} {r : Res} (h : S cx 14 (N14 a_0 a_1 a_2 b_3 b_4 b_5) = some r) : tw cx 14 [.st [sl true ⟨1, false⟩ a_0, sl true ⟨1, false⟩ a_1, sl true ⟨1, false⟩ a_2], .st [sl true ⟨1, false⟩ b_3, sl true ⟨1, false⟩ b_4, sl true ⟨1, false⟩ b_5]] = some r :=
  tw_of (fun call hd hb pt rg => by kernel_rfl) h
noncomputable def EH17_0 (a_0 : List TV) (b_1 : List TV) (i_2 : Int) : Env := [w3 a_0, w3 b_1, .un, .un, .un, w6 i_2] ++ uns 22
noncomputable abbrev H17_0 (a_0 : List TV) (b_1 : List TV) (i_2 : Int) : Nd := .head [1, 1, 0, 1, 2] (EH17_0 a_0 b_1 i_2)
noncomputable abbrev B17_0 (a_0 : List TV) (b_1 : List TV) (i_2 : Int) : Nd := .back [1, 1, 0, 1, 2] (EH17_0 a_0 b_1 i_2)
noncomputable def N17 (a_0 : List TV) (b_1 : List TV) : Nd :=
  .bif ((((a_0.length : Nat) : Int) != ((b_1.length : Nat) : Int)))
  (.ret [tb false] [])
  (H17_0 a_0 b_1 0)
theorem e17 {a_0 : List TV} {b_1 : List TV} {r : Res} (h : S cx 17 (N17 a_0 b_1) = some r) : tw cx 17 [sl true ⟨1, false⟩ a_0, sl true ⟨1, false⟩ b_1] = some r :=
  tw_of (fun call hd hb pt rg => by kernel_rfl) h
noncomputable def NH17_0 (a_0 : List TV) (b_1 : List TV) (i_2 : Int) : Nd :=
  .bif (decide (i_2 < ((a_0.length : Nat) : Int)))
  (.ck (decide ((0 : Int) ≤ i_2) && decide (i_2 < ((a_0.length : Nat) : Int))) <|
    .int .i64 (a_0.getD (0 + i_2.toNat) (.dead ())) fun x_3db5 =>
    .ck (decide ((0 : Int) ≤ i_2) && decide (i_2 < ((b_1.length : Nat) : Int))) <|
    .int .i64 (b_1.getD (0 + i_2.toNat) (.dead ())) fun x_a7d6 =>
    .bif ((x_3db5 != x_a7d6))
    (.ret [tb false] [])
    (B17_0 a_0 b_1 (w64 (i_2 + 1))))
  (.ret [tb true] [])
theorem eH17_0 {a_0 : List TV} {b_1 : List TV} {i_2 : Int} {r : Res} (h : S cx 17 (NH17_0 a_0 b_1 i_2) = some r) : S cx 17 (H17_0 a_0 b_1 i_2) = some r :=
  hw_of (fun call hd hb pt rg => by kernel_rfl) h
noncomputable def EH20_0 (k_0 : Int) (i_2 : Int) (a_1 : List TV) : Env := [.ref 19 [] none 25 false, w6 k_0, .un, .un, .un, w6 i_2] ++ uns 13 ++ [w10 a_1, .un]
noncomputable abbrev H20_0 (k_0 : Int) (i_2 : Int) (a_1 : List TV) : Nd := .head [1, 0, 1, 2] (EH20_0 k_0 i_2 a_1)
noncomputable abbrev B20_0 (k_0 : Int) (i_2 : Int) (a_1 : List TV) : Nd := .back [1, 0, 1, 2] (EH20_0 k_0 i_2 a_1)
noncomputable def N20 (a_0 : List TV) (k_1 : Int) : Nd :=
  H20_0 k_1 0 a_0
theorem e20 {a_0 : List TV} {k_1 : Int} {r : Res} (h : S cx 20 (N20 a_0 k_1) = some r) : tw cx 20 [sl false ⟨1, false⟩ a_0, i64 k_1] = some r :=
  tw_of (fun call hd hb pt rg => by kernel_rfl) h
noncomputable def NH20_0 (k_0 : Int) (i_2 : Int) (a_1 : List TV) : Nd :=
  .bif (decide (i_2 < ((a_1.length : Nat) : Int)))
  (.ck (decide ((0 : Int) ≤ i_2) && decide (i_2 < ((a_1.length : Nat) : Int))) <|
    B20_0 (w64 (k_0 + 1)) (w64 (i_2 + 1)) (a_1.set (0 + i_2.toNat) (i64 k_0)))
  (.ret [i64 k_0] [sl false ⟨1, false⟩ a_1])
theorem eH20_0 {k_0 : Int} {i_2 : Int} {a_1 : List TV} {r : Res} (h : S cx 20 (NH20_0 k_0 i_2 a_1) = some r) : S cx 20 (H20_0 k_0 i_2 a_1) = some r :=
  hw_of (fun call hd hb pt rg => by kernel_rfl) h
noncomputable def EH41_0 (a_0 : List TV) (left_1 : Int) (i_2 : Int) : Env := [w24 a_0, w6 left_1, .un, .un, .un, w6 i_2] ++ uns 23
noncomputable abbrev H41_0 (a_0 : List TV) (left_1 : Int) (i_2 : Int) : Nd := .head [1, 1, 1, 0, 1, 2] (EH41_0 a_0 left_1 i_2)
noncomputable abbrev B41_0 (a_0 : List TV) (left_1 : Int) (i_2 : Int) : Nd := .back [1, 1, 1, 0, 1, 2] (EH41_0 a_0 left_1 i_2)
noncomputable def N41 (a_0 : List TV) (left_1 : Int) : Nd :=
  .bif (decide (w64 (left_1 - ((a_0.length : Nat) : Int)) < 0))
  (.ret [i64 (-1)] [])
  (H41_0 a_0 (w64 (left_1 - ((a_0.length : Nat) : Int))) 0)
theorem e41 {a_0 : List TV} {left_1 : Int} {r : Res} (h : S cx 41 (N41 a_0 left_1) = some r) : tw cx 41 [sl true ⟨6, true⟩ a_0, i64 left_1] = some r :=
  tw_of (fun call hd hb pt rg => by kernel_rfl) h
noncomputable def NH41_0 (a_0 : List TV) (left_1 : Int) (i_2 : Int) : Nd :=
  .bif (decide (i_2 < ((a_0.length : Nat) : Int)))
  (.ck (decide ((0 : Int) ≤ i_2) && decide (i_2 < ((a_0.length : Nat) : Int))) <|
    V6 (a_0.getD (0 + i_2.toNat) (.dead ())) fun paramss_1585 codes_071a go_a685 test_1b25 nexts_aaa5 argss_f750 =>
    C79 paramss_1585 codes_071a go_a685 test_1b25 nexts_aaa5 argss_f750 left_1 fun v_3120 =>
    .bif (decide (v_3120 < 0))
    (.ret [i64 (-1)] [])
    (B41_0 a_0 v_3120 (w64 (i_2 + 1))))
  (.ret [i64 left_1] [])
theorem eH41_0 {a_0 : List TV} {left_1 : Int} {i_2 : Int} {r : Res} (h : S cx 41 (NH41_0 a_0 left_1 i_2) = some r) : S cx 41 (H41_0 a_0 left_1 i_2) = some r :=
  hw_of (fun call hd hb pt rg => by kernel_rfl) h
noncomputable def N42 (a_0 : List TV) (left_1 : Int) : Nd :=
  .bif (decide (w64 (left_1 - ((a_0.length : Nat) : Int)) < 0))
  (.ret [i64 (-1)] [])
  (.ret [i64 (w64 (left_1 - ((a_0.length : Nat) : Int)))] [])
theorem e42 {a_0 : List TV} {left_1 : Int} {r : Res} (h : S cx 42 (N42 a_0 left_1) = some r) : tw cx 42 [sl true ⟨1, false⟩ a_0, i64 left_1] = some r :=
  tw_of (fun call hd hb pt rg => by kernel_rfl) h
noncomputable def EH43_0 (s_0 : List TV) (s_1 : Int) (v_2 : Int) : Env := [.un, w0 s_0 s_1] ++ uns 28 ++ [w24 s_0, w8 s_0, w6 v_2] ++ uns 111
noncomputable abbrev H43_0 (s_0 : List TV) (s_1 : Int) (v_2 : Int) : Nd := .head [1, 1, 0, 1, 2] (EH43_0 s_0 s_1 v_2)
noncomputable abbrev B43_0 (s_0 : List TV) (s_1 : Int) (v_2 : Int) : Nd := .back [1, 1, 0, 1, 2] (EH43_0 s_0 s_1 v_2)
noncomputable def EH43_1 (s_0 : List TV) (s_1 : Int) (v_4 : Int) (v_2 : List TV) (v_3 : Int) : Env := [.un, w0 s_0 s_1] ++ uns 28 ++ [w24 s_0, w8 s_0, w6 v_4, .un, .un, .un, .un, w3 v_2, w8 v_2, w6 v_3] ++ uns 104
noncomputable abbrev H43_1 (s_0 : List TV) (s_1 : Int) (v_4 : Int) (v_2 : List TV) (v_3 : Int) : Nd := .head [1, 1, 0, 1, 2, 5, 1, 1, 0, 2, 1, 1, 2] (EH43_1 s_0 s_1 v_4 v_2 v_3)
noncomputable abbrev B43_1 (s_0 : List TV) (s_1 : Int) (v_4 : Int) (v_2 : List TV) (v_3 : Int) : Nd := .back [1, 1, 0, 1, 2, 5, 1, 1, 0, 2, 1, 1, 2] (EH43_1 s_0 s_1 v_4 v_2 v_3)
noncomputable def EH43_2 (s_0 : List TV) (s_1 : Int) (v_2 : Int) : Env := [.un, w0 s_0 s_1] ++ uns 53 ++ [w24 s_0, w8 s_0, w6 v_2] ++ uns 86
noncomputable abbrev H43_2 (s_0 : List TV) (s_1 : Int) (v_2 : Int) : Nd := .head [1, 1, 1, 0, 1, 2] (EH43_2 s_0 s_1 v_2)
noncomputable abbrev B43_2 (s_0 : List TV) (s_1 : Int) (v_2 : Int) : Nd := .back [1, 1, 1, 0, 1, 2] (EH43_2 s_0 s_1 v_2)
noncomputable def EH43_3 (defs_0 : List TV) (g_1 : List TV) (dom_2 : List TV) (v_3 : List TV) (v_4 : Int) : Env := uns 9 ++ [w10 defs_0, .un, w31 g_1, .val [11] (sl false ⟨1, true⟩ dom_2)] ++ uns 74 ++ [w24 v_3, w8 v_3, w6 v_4] ++ uns 54
noncomputable abbrev H43_3 (defs_0 : List TV) (g_1 : List TV) (dom_2 : List TV) (v_3 : List TV) (v_4 : Int) : Nd := .head [1, 1, 1, 1, 1, 1, 1, 1, 0, 1, 2] (EH43_3 defs_0 g_1 dom_2 v_3 v_4)
noncomputable abbrev B43_3 (defs_0 : List TV) (g_1 : List TV) (dom_2 : List TV) (v_3 : List TV) (v_4 : Int) : Nd := .back [1, 1, 1, 1, 1, 1, 1, 1, 0, 1, 2] (EH43_3 defs_0 g_1 dom_2 v_3 v_4)
noncomputable def EH43_4 (defs_0 : List TV) (g_1 : List TV) (dom_2 : List TV) (k_12 : Int) (p_3 : List TV) (p_4 : List TV) (p_5 : Int) (p_6 : Int) (p_7 : List TV) (p_8 : List TV) (far_10 : List TV) (v_9 : List TV) (v_13 : Int) (v_11 : Int) : Env := uns 9 ++ [w10 defs_0, .un, w31 g_1, .val [11] (sl false ⟨1, true⟩ dom_2), w6 k_12, w20 p_3 p_4 p_5 p_6 p_7 p_8, w10 far_10] ++ uns 71 ++ [w24 v_9, w8 v_9, w6 v_13] ++ uns 15 ++ [w25 p_4, w8 p_4, w6 v_11] ++ uns 36
noncomputable abbrev H43_4 (defs_0 : List TV) (g_1 : List TV) (dom_2 : List TV) (k_12 : Int) (p_3 : List TV) (p_4 : List TV) (p_5 : Int) (p_6 : Int) (p_7 : List TV) (p_8 : List TV) (far_10 : List TV) (v_9 : List TV) (v_13 : Int) (v_11 : Int) : Nd := .head [1, 1, 1, 1, 1, 1, 1, 1, 0, 1, 2, 5, 1, 1, 0, 2, 1, 1, 1, 0, 1, 2] (EH43_4 defs_0 g_1 dom_2 k_12 p_3 p_4 p_5 p_6 p_7 p_8 far_10 v_9 v_13 v_11)
noncomputable abbrev B43_4 (defs_0 : List TV) (g_1 : List TV) (dom_2 : List TV) (k_12 : Int) (p_3 : List TV) (p_4 : List TV) (p_5 : Int) (p_6 : Int) (p_7 : List TV) (p_8 : List TV) (far_10 : List TV) (v_9 : List TV) (v_13 : Int) (v_11 : Int) : Nd := .back [1, 1, 1, 1, 1, 1, 1, 1, 0, 1, 2, 5, 1, 1, 0, 2, 1, 1, 1, 0, 1, 2] (EH43_4 defs_0 g_1 dom_2 k_12 p_3 p_4 p_5 p_6 p_7 p_8 far_10 v_9 v_13 v_11)
noncomputable def N43 (s_0 : List TV) (s_1 : Int) : Nd :=
  C80 ((s_0.length : Nat) : Int) 1 11 fun v_4c70 =>
  .bif ((!v_4c70))
  (.ret [tb false] [])
  (C80 s_1 12 250 fun v_897f =>
    .bif ((!v_897f))
    (.ret [tb false] [])
    (H43_0 s_0 s_1 0))
theorem e43 {s_0 : List TV} {s_1 : Int} {r : Res} (h : S cx 43 (N43 s_0 s_1) = some r) : tw cx 43 [.st [sl true ⟨6, true⟩ s_0, i64 s_1]] = some r :=
  tw_of (fun call hd hb pt rg => by kernel_rfl) h
noncomputable def NH43_0 (s_0 : List TV) (s_1 : Int) (v_2 : Int) : Nd :=
  .bif (decide (v_2 < ((s_0.length : Nat) : Int)))
  (.ck (decide ((0 : Int) ≤ v_2) && decide (v_2 < ((s_0.length : Nat) : Int))) <|
    V6 (s_0.getD (0 + v_2.toNat) (.dead ())) fun paramss_8b58 codes_4c93 go_cb23 test_3564 nexts_69c3 argss_0e25 =>
    H43_1 s_0 s_1 v_2 nexts_69c3 0)
  (H43_2 s_0 s_1 0)
theorem eH43_0 {s_0 : List TV} {s_1 : Int} {v_2 : Int} {r : Res} (h : S cx 43 (NH43_0 s_0 s_1 v_2) = some r) : S cx 43 (H43_0 s_0 s_1 v_2) = some r :=
  hw_of (fun call hd hb pt rg => by kernel_rfl) h
noncomputable def NH43_1 (s_0 : List TV) (s_1 : Int) (v_4 : Int) (v_2 : List TV) (v_3 : Int) : Nd :=
  .bif (decide (v_3 < ((v_2.length : Nat) : Int)))
  (.ck (decide ((0 : Int) ≤ v_3) && decide (v_3 < ((v_2.length : Nat) : Int))) <|
    .int .i64 (v_2.getD (0 + v_3.toNat) (.dead ())) fun x_f036 =>
    .bif (decide (x_f036 ≤ 0))
    (.ret [tb false] [])
    (.bif (decide (x_f036 ≥ ((s_0.length : Nat) : Int)))
      (.ret [tb false] [])
      (B43_1 s_0 s_1 v_4 v_2 (w64 (v_3 + 1)))))
  (B43_0 s_0 s_1 (w64 (v_4 + 1)))
theorem eH43_1 {s_0 : List TV} {s_1 : Int} {v_4 : Int} {v_2 : List TV} {v_3 : Int} {r : Res} (h : S cx 43 (NH43_1 s_0 s_1 v_4 v_2 v_3) = some r) : S cx 43 (H43_1 s_0 s_1 v_4 v_2 v_3) = some r :=
  hw_of (fun call hd hb pt rg => by kernel_rfl) h
noncomputable def NH43_2 (s_0 : List TV) (s_1 : Int) (v_2 : Int) : Nd :=
  .bif (decide (v_2 < ((s_0.length : Nat) : Int)))
  (.ck (decide ((0 : Int) ≤ v_2) && decide (v_2 < ((s_0.length : Nat) : Int))) <|
    V6 (s_0.getD (0 + v_2.toNat) (.dead ())) fun paramss_8b58 codes_4c93 go_cb23 test_3564 nexts_69c3 argss_0e25 =>
    C81 s_0 s_1 paramss_8b58 codes_4c93 go_cb23 test_3564 nexts_69c3 argss_0e25 fun v_a5e8 =>
    .bif ((!v_a5e8))
    (.ret [tb false] [])
    (B43_2 s_0 s_1 (w64 (v_2 + 1))))
  (C82 s_0 s_1 fun vs_2431 v_a419 =>
    .bif ((!v_a419))
    (.ret [tb false] [])
    (.ck (decide ((0 : Int) < ((s_0.length : Nat) : Int))) <|
      V6 (s_0.getD 0 (.dead ())) fun paramss_61fe codes_63db go_36f4 test_2e17 nexts_2f2c argss_4314 =>
      .bif (decide (((paramss_61fe.length : Nat) : Int) > 0))
      (.ret [tb false] [])
      (C83 s_0 s_1 fun nexts_bd1a =>
        C84 nexts_bd1a fun vs_df27 =>
        H43_3 vs_2431 nexts_bd1a vs_df27 s_0 0)))
theorem eH43_2 {s_0 : List TV} {s_1 : Int} {v_2 : Int} {r : Res} (h : S cx 43 (NH43_2 s_0 s_1 v_2) = some r) : S cx 43 (H43_2 s_0 s_1 v_2) = some r :=
  hw_of (fun call hd hb pt rg => by kernel_rfl) h
noncomputable def NH43_3_s0 (defs_0 : List TV) (g_1 : List TV) (dom_2 : List TV) (v_3 : List TV) (v_4 : Int) (paramss_d95b : List TV) (codes_94f7 : List TV) (go_6cd3 : Int) (test_0ea3 : Int) (nexts_205e : List TV) (argss_15f8 : List TV) (xs_88a9 : List TV) : Nd :=
  .bif ((((xs_88a9.length : Nat) : Int) == 0))
  (.ret [tb false] [])
  (.ck (decide ((0 + paramss_d95b.length) * 8 < lim)) <|
    H43_4 defs_0 g_1 dom_2 v_4 paramss_d95b codes_94f7 go_6cd3 test_0ea3 nexts_205e argss_15f8 (([]) ++ paramss_d95b) v_3 v_4 0)
noncomputable def NH43_3 (defs_0 : List TV) (g_1 : List TV) (dom_2 : List TV) (v_3 : List TV) (v_4 : Int) : Nd :=
  .bif (decide (v_4 < ((v_3.length : Nat) : Int)))
  (.ck (decide ((0 : Int) ≤ v_4) && decide (v_4 < ((v_3.length : Nat) : Int))) <|
    V6 (v_3.getD (0 + v_4.toNat) (.dead ())) fun paramss_d95b codes_94f7 go_6cd3 test_0ea3 nexts_205e argss_15f8 =>
    .ck (decide ((0 : Int) ≤ v_4) && decide (v_4 < ((dom_2.length : Nat) : Int))) <|
    .slO ⟨1, false⟩ (dom_2.getD (0 + v_4.toNat) (.dead ())) fun vs_a25c =>
    .slB ⟨1, false⟩ (dom_2.getD (0 + v_4.toNat) (.dead ())) fun r xs_88a9 => bif r then 
    (NH43_3_s0 defs_0 g_1 dom_2 v_3 v_4 paramss_d95b codes_94f7 go_6cd3 test_0ea3 nexts_205e argss_15f8 xs_88a9)
    else (NH43_3_s0 defs_0 g_1 dom_2 v_3 v_4 paramss_d95b codes_94f7 go_6cd3 test_0ea3 nexts_205e argss_15f8 xs_88a9))
  (.ret [tb true] [])
theorem eH43_3 {defs_0 : List TV} {g_1 : List TV} {dom_2 : List TV} {v_3 : List TV} {v_4 : Int} {r : Res} (h : S cx 43 (NH43_3 defs_0 g_1 dom_2 v_3 v_4) = some r) : S cx 43 (H43_3 defs_0 g_1 dom_2 v_3 v_4) = some r :=
  hw_of (fun call hd hb pt rg => by kernel_rfl) h
noncomputable def NH43_4_s0 (defs_0 : List TV) (g_1 : List TV) (dom_2 : List TV) (k_12 : Int) (p_3 : List TV) (p_4 : List TV) (p_5 : Int) (p_6 : Int) (p_7 : List TV) (p_8 : List TV) (far_10 : List TV) (v_9 : List TV) (v_13 : Int) (v_11 : Int) (op_b952 : Int) (dst_ff5e : Int) (vs_3e5c : List TV) : Nd :=
  .slO ⟨1, false⟩ (dom_2.getD (0 + k_12.toNat) (.dead ())) fun vs_90f9_2 =>
  C85 vs_3e5c defs_0 vs_90f9_2 far_10 k_12 fun v_7eec =>
  .bif ((!v_7eec))
  (.ret [tb false] [])
  (C87 op_b952 fun v_07c3 =>
    .bif (v_07c3)
    (.ck (decide ((far_10.length + ([i64 dst_ff5e] : List TV).length) * 8 < lim)) <|
      B43_4 defs_0 g_1 dom_2 k_12 p_3 p_4 p_5 p_6 p_7 p_8 (far_10 ++ ([i64 dst_ff5e])) v_9 v_13 (w64 (v_11 + 1)))
    (B43_4 defs_0 g_1 dom_2 k_12 p_3 p_4 p_5 p_6 p_7 p_8 far_10 v_9 v_13 (w64 (v_11 + 1))))
noncomputable def NH43_4_s1 (defs_0 : List TV) (g_1 : List TV) (dom_2 : List TV) (k_12 : Int) (far_10 : List TV) (v_9 : List TV) (v_13 : Int) (vs_9b82 : List TV) : Nd :=
  .slO ⟨1, false⟩ (dom_2.getD (0 + k_12.toNat) (.dead ())) fun vs_90f9_2 =>
  C85 vs_9b82 defs_0 vs_90f9_2 far_10 k_12 fun v_a9a3 =>
  .bif ((!v_a9a3))
  (.ret [tb false] [])
  (B43_3 defs_0 g_1 dom_2 v_9 (w64 (v_13 + 1)))
noncomputable def NH43_4 (defs_0 : List TV) (g_1 : List TV) (dom_2 : List TV) (k_12 : Int) (p_3 : List TV) (p_4 : List TV) (p_5 : Int) (p_6 : Int) (p_7 : List TV) (p_8 : List TV) (far_10 : List TV) (v_9 : List TV) (v_13 : Int) (v_11 : Int) : Nd :=
  .bif (decide (v_11 < ((p_4.length : Nat) : Int)))
  (.ck (decide ((0 : Int) ≤ v_11) && decide (v_11 < ((p_4.length : Nat) : Int))) <|
    V6_1 (p_4.getD (0 + v_11.toNat) (.dead ())) fun op_b952 do_867e dst_ff5e a_77e3 b_ca94 n_1587 =>
    .ck (decide ((0 : Int) ≤ k_12) && decide (k_12 < ((dom_2.length : Nat) : Int))) <|
    .amb2 
    (C86 op_b952 do_867e dst_ff5e a_77e3 b_ca94 n_1587 fun vs_3e5c =>
      .slO ⟨1, false⟩ (dom_2.getD (0 + k_12.toNat) (.dead ())) fun vs_90f9 =>
      NH43_4_s0 defs_0 g_1 dom_2 k_12 p_3 p_4 p_5 p_6 p_7 p_8 far_10 v_9 v_13 v_11 op_b952 dst_ff5e vs_3e5c) 
    (.slO ⟨1, false⟩ (dom_2.getD (0 + k_12.toNat) (.dead ())) fun vs_90f9 =>
      C86 op_b952 do_867e dst_ff5e a_77e3 b_ca94 n_1587 fun vs_3e5c =>
      NH43_4_s0 defs_0 g_1 dom_2 k_12 p_3 p_4 p_5 p_6 p_7 p_8 far_10 v_9 v_13 v_11 op_b952 dst_ff5e vs_3e5c))
  (.ck (decide ((0 : Int) ≤ k_12) && decide (k_12 < ((dom_2.length : Nat) : Int))) <|
    .amb2 
    (C88 p_3 p_4 p_5 p_6 p_7 p_8 fun vs_9b82 =>
      .slO ⟨1, false⟩ (dom_2.getD (0 + k_12.toNat) (.dead ())) fun vs_90f9 =>
      NH43_4_s1 defs_0 g_1 dom_2 k_12 far_10 v_9 v_13 vs_9b82) 
    (.slO ⟨1, false⟩ (dom_2.getD (0 + k_12.toNat) (.dead ())) fun vs_90f9 =>
      C88 p_3 p_4 p_5 p_6 p_7 p_8 fun vs_9b82 =>
      NH43_4_s1 defs_0 g_1 dom_2 k_12 far_10 v_9 v_13 vs_9b82))
theorem eH43_4 {defs_0 : List TV} {g_1 : List TV} {dom_2 : List TV} {k_12 : Int} {p_3 : List TV} {p_4 : List TV} {p_5 : Int} {p_6 : Int} {p_7 : List TV} {p_8 : List TV} {far_10 : List TV} {v_9 : List TV} {v_13 : Int} {v_11 : Int} {r : Res} (h : S cx 43 (NH43_4 defs_0 g_1 dom_2 k_12 p_3 p_4 p_5 p_6 p_7 p_8 far_10 v_9 v_13 v_11) = some r) : S cx 43 (H43_4 defs_0 g_1 dom_2 k_12 p_3 p_4 p_5 p_6 p_7 p_8 far_10 v_9 v_13 v_11) = some r :=
  hw_of (fun call hd hb pt rg => by kernel_rfl) h
noncomputable def N44 (s_0 : List TV) (s_1 : List TV) (s_2 : List TV) : Nd :=
  C89 s_0 8 fun v_767a =>
  .bif (v_767a)
  (C89 s_1 16 fun v_97c2 =>
    .bif (v_97c2)
    (.bif (decide (((s_2.length : Nat) : Int) ≤ 100))
      (C89 s_2 ((s_2.length : Nat) : Int) fun v_bf5d =>
        .ret [tb v_bf5d] [])
      (.ret [tb false] []))
    (.ret [tb false] []))
  (.ret [tb false] [])
theorem e44 {s_0 : List TV} {s_1 : List TV} {s_2 : List TV} {r : Res} (h : S cx 44 (N44 s_0 s_1 s_2) = some r) : tw cx 44 [.st [sl true ⟨1, false⟩ s_0, sl true ⟨1, false⟩ s_1, sl true ⟨1, false⟩ s_2]] = some r :=
  tw_of (fun call hd hb pt rg => by kernel_rfl) h
noncomputable def N45 (n_0 : Int) : Nd :=
  C80 n_0 0 2000 fun v_3b87 =>
  .ret [tb v_3b87] []
theorem e45 {n_0 : Int} {r : Res} (h : S cx 45 (N45 n_0) = some r) : tw cx 45 [i64 n_0] = some r :=
  tw_of (fun call hd hb pt rg => by kernel_rfl) h
end Go.Tree.Q

/- Trees of values: program points of functions. -/
namespace Go.Tree.Q
open Go.Proofs
set_option linter.unusedVariables false
set_option maxRecDepth 20000
noncomputable def EH46_0 (fuel_0 : Int) (s_1 : List TV) (s_2 : Int) (r_3 : List TV) (r_4 : List TV) (r_5 : List TV) (r_6 : Int) (r_7 : Int) (r_8 : List TV) (r_9 : Int) (r_10 : Int) (handed_12 : List TV) (at_11 : Int) : Env := [.un, .un, w6 fuel_0, w0 s_1 s_2, .un, .un, w14, w19 r_3 r_4 r_5 r_6 r_7 r_8 r_9 r_10, w10 handed_12, w6 at_11] ++ uns 132
noncomputable abbrev H46_0 (fuel_0 : Int) (s_1 : List TV) (s_2 : Int) (r_3 : List TV) (r_4 : List TV) (r_5 : List TV) (r_6 : Int) (r_7 : Int) (r_8 : List TV) (r_9 : Int) (r_10 : Int) (handed_12 : List TV) (at_11 : Int) : Nd := .head [1, 1, 1, 1, 2] (EH46_0 fuel_0 s_1 s_2 r_3 r_4 r_5 r_6 r_7 r_8 r_9 r_10 handed_12 at_11)
noncomputable abbrev B46_0 (fuel_0 : Int) (s_1 : List TV) (s_2 : Int) (r_3 : List TV) (r_4 : List TV) (r_5 : List TV) (r_6 : Int) (r_7 : Int) (r_8 : List TV) (r_9 : Int) (r_10 : Int) (handed_12 : List TV) (at_11 : Int) : Nd := .back [1, 1, 1, 1, 2] (EH46_0 fuel_0 s_1 s_2 r_3 r_4 r_5 r_6 r_7 r_8 r_9 r_10 handed_12 at_11)
noncomputable def EH46_1 (fuel_0 : Int) (s_1 : List TV) (s_2 : Int) (r_3 : List TV) (r_4 : List TV) (r_5 : List TV) (r_6 : Int) (r_15 : Int) (r_7 : List TV) (r_16 : Int) (r_8 : Int) (handed_17 : List TV) (p_9 : List TV) (p_10 : List TV) (p_11 : Int) (p_12 : Int) (p_13 : List TV) (p_14 : List TV) (v_18 : Int) : Env := [.un, .un, w6 fuel_0, w0 s_1 s_2, .un, .un, w14, w19 r_3 r_4 r_5 r_6 r_15 r_7 r_16 r_8, w10 handed_17, .un, w20 p_9 p_10 p_11 p_12 p_13 p_14] ++ uns 30 ++ [w3 p_9, w8 p_9, w6 v_18] ++ uns 98
noncomputable abbrev H46_1 (fuel_0 : Int) (s_1 : List TV) (s_2 : Int) (r_3 : List TV) (r_4 : List TV) (r_5 : List TV) (r_6 : Int) (r_15 : Int) (r_7 : List TV) (r_16 : Int) (r_8 : Int) (handed_17 : List TV) (p_9 : List TV) (p_10 : List TV) (p_11 : Int) (p_12 : Int) (p_13 : List TV) (p_14 : List TV) (v_18 : Int) : Nd := .head [1, 1, 1, 1, 2, 5, 2, 1, 1, 1, 1, 0, 1, 2] (EH46_1 fuel_0 s_1 s_2 r_3 r_4 r_5 r_6 r_15 r_7 r_16 r_8 handed_17 p_9 p_10 p_11 p_12 p_13 p_14 v_18)
noncomputable abbrev B46_1 (fuel_0 : Int) (s_1 : List TV) (s_2 : Int) (r_3 : List TV) (r_4 : List TV) (r_5 : List TV) (r_6 : Int) (r_15 : Int) (r_7 : List TV) (r_16 : Int) (r_8 : Int) (handed_17 : List TV) (p_9 : List TV) (p_10 : List TV) (p_11 : Int) (p_12 : Int) (p_13 : List TV) (p_14 : List TV) (v_18 : Int) : Nd := .back [1, 1, 1, 1, 2, 5, 2, 1, 1, 1, 1, 0, 1, 2] (EH46_1 fuel_0 s_1 s_2 r_3 r_4 r_5 r_6 r_15 r_7 r_16 r_8 handed_17 p_9 p_10 p_11 p_12 p_13 p_14 v_18)
noncomputable def EH46_2 (fuel_0 : Int) (s_1 : List TV) (s_2 : Int) (r_3 : List TV) (r_4 : List TV) (r_5 : List TV) (r_6 : Int) (r_7 : Int) (r_8 : List TV) (r_17 : Int) (r_9 : Int) (p_10 : List TV) (p_11 : List TV) (p_12 : Int) (p_13 : Int) (p_14 : List TV) (p_15 : List TV) (v_16 : Int) : Env := [.un, .un, w6 fuel_0, w0 s_1 s_2, .un, .un, w14, w19 r_3 r_4 r_5 r_6 r_7 r_8 r_17 r_9, .un, .un, w20 p_10 p_11 p_12 p_13 p_14 p_15] ++ uns 47 ++ [w25 p_11, w8 p_11, w6 v_16] ++ uns 81
noncomputable abbrev H46_2 (fuel_0 : Int) (s_1 : List TV) (s_2 : Int) (r_3 : List TV) (r_4 : List TV) (r_5 : List TV) (r_6 : Int) (r_7 : Int) (r_8 : List TV) (r_17 : Int) (r_9 : Int) (p_10 : List TV) (p_11 : List TV) (p_12 : Int) (p_13 : Int) (p_14 : List TV) (p_15 : List TV) (v_16 : Int) : Nd := .head [1, 1, 1, 1, 2, 5, 2, 1, 1, 1, 1, 1, 0, 1, 2] (EH46_2 fuel_0 s_1 s_2 r_3 r_4 r_5 r_6 r_7 r_8 r_17 r_9 p_10 p_11 p_12 p_13 p_14 p_15 v_16)
noncomputable abbrev B46_2 (fuel_0 : Int) (s_1 : List TV) (s_2 : Int) (r_3 : List TV) (r_4 : List TV) (r_5 : List TV) (r_6 : Int) (r_7 : Int) (r_8 : List TV) (r_17 : Int) (r_9 : Int) (p_10 : List TV) (p_11 : List TV) (p_12 : Int) (p_13 : Int) (p_14 : List TV) (p_15 : List TV) (v_16 : Int) : Nd := .back [1, 1, 1, 1, 2, 5, 2, 1, 1, 1, 1, 1, 0, 1, 2] (EH46_2 fuel_0 s_1 s_2 r_3 r_4 r_5 r_6 r_7 r_8 r_17 r_9 p_10 p_11 p_12 p_13 p_14 p_15 v_16)
noncomputable def EG46_3 (fuel_0 : Int) (s_1 : List TV) (s_2 : Int) (r_3 : List TV) (r_4 : List TV) (r_5 : List TV) (r_6 : Int) (r_7 : Int) (r_8 : List TV) (r_22 : Int) (r_21 : Int) (p_9 : List TV) (p_10 : List TV) (p_11 : Int) (p_12 : Int) (p_13 : List TV) (p_14 : List TV) (x_15 : Int) (x_16 : Int) (x_17 : Int) (x_18 : Int) (x_19 : Int) (x_20 : Int) (v_23 : Int) : Env := [.un, .un, w6 fuel_0, w0 s_1 s_2, .un, .un, w14, w19 r_3 r_4 r_5 r_6 r_7 r_8 r_22 r_21, .un, .un, w20 p_9 p_10 p_11 p_12 p_13 p_14, .un, .un, .un, w28 x_15 x_16 x_17 x_18 x_19 x_20] ++ uns 43 ++ [w25 p_10, w8 p_10, w6 v_23] ++ uns 81
noncomputable abbrev G46_3 (fuel_0 : Int) (s_1 : List TV) (s_2 : Int) (r_3 : List TV) (r_4 : List TV) (r_5 : List TV) (r_6 : Int) (r_7 : Int) (r_8 : List TV) (r_22 : Int) (r_21 : Int) (p_9 : List TV) (p_10 : List TV) (p_11 : Int) (p_12 : Int) (p_13 : List TV) (p_14 : List TV) (x_15 : Int) (x_16 : Int) (x_17 : Int) (x_18 : Int) (x_19 : Int) (x_20 : Int) (v_23 : Int) : Nd := .go [1, 1, 1, 1, 2, 5, 2, 1, 1, 1, 1, 1, 0, 1, 2, 5, 1, 1, 0, 2, 1, 1] (EG46_3 fuel_0 s_1 s_2 r_3 r_4 r_5 r_6 r_7 r_8 r_22 r_21 p_9 p_10 p_11 p_12 p_13 p_14 x_15 x_16 x_17 x_18 x_19 x_20 v_23)
noncomputable def EH46_4 (r_0 : List TV) (r_1 : List TV) (r_2 : List TV) (r_3 : Int) (r_4 : Int) (r_5 : List TV) (r_9 : Int) (r_6 : Int) (v_7 : List TV) (v_8 : Int) : Env := [.un, .un, .un, .un, .un, .un, w14, w19 r_0 r_1 r_2 r_3 r_4 r_5 r_9 r_6] ++ uns 78 ++ [w3 v_7, w8 v_7, w6 v_8] ++ uns 53
noncomputable abbrev H46_4 (r_0 : List TV) (r_1 : List TV) (r_2 : List TV) (r_3 : Int) (r_4 : Int) (r_5 : List TV) (r_9 : Int) (r_6 : Int) (v_7 : List TV) (v_8 : Int) : Nd := .head [1, 1, 1, 1, 2, 5, 2, 1, 1, 1, 1, 1, 1, 0, 1, 3, 0, 1, 2] (EH46_4 r_0 r_1 r_2 r_3 r_4 r_5 r_9 r_6 v_7 v_8)
noncomputable abbrev B46_4 (r_0 : List TV) (r_1 : List TV) (r_2 : List TV) (r_3 : Int) (r_4 : Int) (r_5 : List TV) (r_9 : Int) (r_6 : Int) (v_7 : List TV) (v_8 : Int) : Nd := .back [1, 1, 1, 1, 2, 5, 2, 1, 1, 1, 1, 1, 1, 0, 1, 3, 0, 1, 2] (EH46_4 r_0 r_1 r_2 r_3 r_4 r_5 r_9 r_6 v_7 v_8)
noncomputable def EH46_5 (fuel_0 : Int) (s_1 : List TV) (s_2 : Int) (r_3 : List TV) (r_4 : List TV) (r_5 : List TV) (r_6 : Int) (r_7 : Int) (r_8 : List TV) (r_14 : Int) (r_9 : Int) (handed_12 : List TV) (at_10 : Int) (v_11 : List TV) (v_13 : Int) : Env := [.un, .un, w6 fuel_0, w0 s_1 s_2, .un, .un, w14, w19 r_3 r_4 r_5 r_6 r_7 r_8 r_14 r_9, w10 handed_12, w6 at_10] ++ uns 114 ++ [w3 v_11, w8 v_11, w6 v_13] ++ uns 15
noncomputable abbrev H46_5 (fuel_0 : Int) (s_1 : List TV) (s_2 : Int) (r_3 : List TV) (r_4 : List TV) (r_5 : List TV) (r_6 : Int) (r_7 : Int) (r_8 : List TV) (r_14 : Int) (r_9 : Int) (handed_12 : List TV) (at_10 : Int) (v_11 : List TV) (v_13 : Int) : Nd := .head [1, 1, 1, 1, 2, 5, 2, 1, 1, 1, 1, 1, 1, 1, 1, 1, 1, 1, 1, 2] (EH46_5 fuel_0 s_1 s_2 r_3 r_4 r_5 r_6 r_7 r_8 r_14 r_9 handed_12 at_10 v_11 v_13)
noncomputable abbrev B46_5 (fuel_0 : Int) (s_1 : List TV) (s_2 : Int) (r_3 : List TV) (r_4 : List TV) (r_5 : List TV) (r_6 : Int) (r_7 : Int) (r_8 : List TV) (r_14 : Int) (r_9 : Int) (handed_12 : List TV) (at_10 : Int) (v_11 : List TV) (v_13 : Int) : Nd := .back [1, 1, 1, 1, 2, 5, 2, 1, 1, 1, 1, 1, 1, 1, 1, 1, 1, 1, 1, 2] (EH46_5 fuel_0 s_1 s_2 r_3 r_4 r_5 r_6 r_7 r_8 r_14 r_9 handed_12 at_10 v_11 v_13)
noncomputable def N46 (s_0 : List TV) (s_1 : Int) (state_2 : List TV) (state_3 : List TV) (state_4 : List TV) (fuel_5 : Int) : Nd :=
  C90 s_0 s_1 state_2 state_3 state_4 fun localss_8ecd mems_69c3 tolds_81db end_2671 parts_9fa3 wordss_f4cc last_7e32 work_c6f4 =>
  H46_0 fuel_5 s_0 s_1 localss_8ecd mems_69c3 tolds_81db end_2671 parts_9fa3 wordss_f4cc last_7e32 work_c6f4 ([]) 0
theorem e46 {s_0 : List TV} {s_1 : Int} {state_2 : List TV} {state_3 : List TV} {state_4 : List TV} {fuel_5 : Int} {r : Res} (h : S cx 46 (N46 s_0 s_1 state_2 state_3 state_4 fuel_5) = some r) : tw cx 46 [.st [sl true ⟨6, true⟩ s_0, i64 s_1], .st [sl true ⟨1, false⟩ state_2, sl true ⟨1, false⟩ state_3, sl true ⟨1, false⟩ state_4], i64 fuel_5] = some r :=
  tw_of (fun call hd hb pt rg => by kernel_rfl) h
noncomputable def NH46_0 (fuel_0 : Int) (s_1 : List TV) (s_2 : Int) (r_3 : List TV) (r_4 : List TV) (r_5 : List TV) (r_6 : Int) (r_7 : Int) (r_8 : List TV) (r_9 : Int) (r_10 : Int) (handed_12 : List TV) (at_11 : Int) : Nd :=
  .bif ((r_7 == fuel_0))
  (.ret [.st [.st [sl false ⟨1, false⟩ r_3, sl false ⟨1, false⟩ r_4, sl false ⟨1, false⟩ r_5], i64 3, i64 r_7, sl false ⟨1, false⟩ r_8, i64 r_9, i64 r_10]] [])
  (.ck (decide ((0 : Int) ≤ at_11) && decide (at_11 < ((s_1.length : Nat) : Int))) <|
    V6 (s_1.getD (0 + at_11.toNat) (.dead ())) fun paramss_37b6 codes_571c go_c1ec test_2091 nexts_5eec argss_8529 =>
    H46_1 fuel_0 s_1 s_2 r_3 r_4 r_5 r_6 (w64 (r_7 + 1)) r_8 at_11 r_10 handed_12 paramss_37b6 codes_571c go_c1ec test_2091 nexts_5eec argss_8529 0)
theorem eH46_0 {fuel_0 : Int} {s_1 : List TV} {s_2 : Int} {r_3 : List TV} {r_4 : List TV} {r_5 : List TV} {r_6 : Int} {r_7 : Int} {r_8 : List TV} {r_9 : Int} {r_10 : Int} {handed_12 : List TV} {at_11 : Int} {r : Res} (h : S cx 46 (NH46_0 fuel_0 s_1 s_2 r_3 r_4 r_5 r_6 r_7 r_8 r_9 r_10 handed_12 at_11) = some r) : S cx 46 (H46_0 fuel_0 s_1 s_2 r_3 r_4 r_5 r_6 r_7 r_8 r_9 r_10 handed_12 at_11) = some r :=
  hw_of (fun call hd hb pt rg => by kernel_rfl) h
noncomputable def NH46_1 (fuel_0 : Int) (s_1 : List TV) (s_2 : Int) (r_3 : List TV) (r_4 : List TV) (r_5 : List TV) (r_6 : Int) (r_15 : Int) (r_7 : List TV) (r_16 : Int) (r_8 : Int) (handed_17 : List TV) (p_9 : List TV) (p_10 : List TV) (p_11 : Int) (p_12 : Int) (p_13 : List TV) (p_14 : List TV) (v_18 : Int) : Nd :=
  .bif (decide (v_18 < ((p_9.length : Nat) : Int)))
  (.ck (decide ((0 : Int) ≤ v_18) && decide (v_18 < ((p_9.length : Nat) : Int))) <|
    .int .i64 (p_9.getD (0 + v_18.toNat) (.dead ())) fun x_1fa9 =>
    .ck (decide ((0 : Int) ≤ v_18) && decide (v_18 < ((handed_17.length : Nat) : Int))) <|
    .int .i64 (handed_17.getD (0 + v_18.toNat) (.dead ())) fun x_ff80 =>
    .ck (decide ((0 : Int) ≤ x_1fa9) && decide (x_1fa9 < ((r_7.length : Nat) : Int))) <|
    B46_1 fuel_0 s_1 s_2 r_3 r_4 r_5 r_6 r_15 (r_7.set (0 + x_1fa9.toNat) (i64 x_ff80)) r_16 r_8 handed_17 p_9 p_10 p_11 p_12 p_13 p_14 (w64 (v_18 + 1)))
  (H46_2 fuel_0 s_1 s_2 r_3 r_4 r_5 r_6 r_15 r_7 r_16 r_8 p_9 p_10 p_11 p_12 p_13 p_14 0)
theorem eH46_1 {fuel_0 : Int} {s_1 : List TV} {s_2 : Int} {r_3 : List TV} {r_4 : List TV} {r_5 : List TV} {r_6 : Int} {r_15 : Int} {r_7 : List TV} {r_16 : Int} {r_8 : Int} {handed_17 : List TV} {p_9 : List TV} {p_10 : List TV} {p_11 : Int} {p_12 : Int} {p_13 : List TV} {p_14 : List TV} {v_18 : Int} {r : Res} (h : S cx 46 (NH46_1 fuel_0 s_1 s_2 r_3 r_4 r_5 r_6 r_15 r_7 r_16 r_8 handed_17 p_9 p_10 p_11 p_12 p_13 p_14 v_18) = some r) : S cx 46 (H46_1 fuel_0 s_1 s_2 r_3 r_4 r_5 r_6 r_15 r_7 r_16 r_8 handed_17 p_9 p_10 p_11 p_12 p_13 p_14 v_18) = some r :=
  hw_of (fun call hd hb pt rg => by kernel_rfl) h
noncomputable def NH46_2 (fuel_0 : Int) (s_1 : List TV) (s_2 : Int) (r_3 : List TV) (r_4 : List TV) (r_5 : List TV) (r_6 : Int) (r_7 : Int) (r_8 : List TV) (r_17 : Int) (r_9 : Int) (p_10 : List TV) (p_11 : List TV) (p_12 : Int) (p_13 : Int) (p_14 : List TV) (p_15 : List TV) (v_16 : Int) : Nd :=
  .bif (decide (v_16 < ((p_11.length : Nat) : Int)))
  (.ck (decide ((0 : Int) ≤ v_16) && decide (v_16 < ((p_11.length : Nat) : Int))) <|
    V6_1 (p_11.getD (0 + v_16.toNat) (.dead ())) fun op_f9ee do_8060 dst_85dc a_a8f9 b_dc5d n_b023 =>
    .bif ((op_f9ee == 3))
    (G46_3 fuel_0 s_1 s_2 r_3 r_4 r_5 r_6 r_7 r_8 r_17 (w64 (r_9 + 1)) p_10 p_11 p_12 p_13 p_14 p_15 op_f9ee do_8060 dst_85dc a_a8f9 b_dc5d n_b023 v_16)
    (G46_3 fuel_0 s_1 s_2 r_3 r_4 r_5 r_6 r_7 r_8 r_17 r_9 p_10 p_11 p_12 p_13 p_14 p_15 op_f9ee do_8060 dst_85dc a_a8f9 b_dc5d n_b023 v_16))
  (.bif ((p_12 == 3))
    (.ck (decide ((0 : Int) < ((p_15.length : Nat) : Int))) <|
      .slR ⟨1, false⟩ (p_15.getD 0 (.dead ())) fun xs_5f08 =>
      H46_4 r_3 r_4 r_5 r_6 r_7 r_8 r_17 r_9 xs_5f08 0)
    (.bif ((p_12 == 4))
      (.ret [.st [.st [sl false ⟨1, false⟩ r_3, sl false ⟨1, false⟩ r_4, sl false ⟨1, false⟩ r_5], i64 2, i64 r_7, sl false ⟨1, false⟩ r_8, i64 r_17, i64 r_9]] [])
      (C92 p_10 p_11 p_12 p_13 p_14 p_15 r_8 fun v_5816 =>
        .ck (decide ((0 : Int) ≤ v_5816) && decide (v_5816 < ((p_14.length : Nat) : Int))) <|
        .int .i64 (p_14.getD (0 + v_5816.toNat) (.dead ())) fun x_e1c5 =>
        .ck (decide ((0 : Int) ≤ v_5816) && decide (v_5816 < ((p_15.length : Nat) : Int))) <|
        .slR ⟨1, false⟩ (p_15.getD (0 + v_5816.toNat) (.dead ())) fun xs_2587 =>
        H46_5 fuel_0 s_1 s_2 r_3 r_4 r_5 r_6 r_7 r_8 r_17 r_9 ([]) x_e1c5 xs_2587 0)))
theorem eH46_2 {fuel_0 : Int} {s_1 : List TV} {s_2 : Int} {r_3 : List TV} {r_4 : List TV} {r_5 : List TV} {r_6 : Int} {r_7 : Int} {r_8 : List TV} {r_17 : Int} {r_9 : Int} {p_10 : List TV} {p_11 : List TV} {p_12 : Int} {p_13 : Int} {p_14 : List TV} {p_15 : List TV} {v_16 : Int} {r : Res} (h : S cx 46 (NH46_2 fuel_0 s_1 s_2 r_3 r_4 r_5 r_6 r_7 r_8 r_17 r_9 p_10 p_11 p_12 p_13 p_14 p_15 v_16) = some r) : S cx 46 (H46_2 fuel_0 s_1 s_2 r_3 r_4 r_5 r_6 r_7 r_8 r_17 r_9 p_10 p_11 p_12 p_13 p_14 p_15 v_16) = some r :=
  hw_of (fun call hd hb pt rg => by kernel_rfl) h
noncomputable def NG46_3 (fuel_0 : Int) (s_1 : List TV) (s_2 : Int) (r_3 : List TV) (r_4 : List TV) (r_5 : List TV) (r_6 : Int) (r_7 : Int) (r_8 : List TV) (r_22 : Int) (r_21 : Int) (p_9 : List TV) (p_10 : List TV) (p_11 : Int) (p_12 : Int) (p_13 : List TV) (p_14 : List TV) (x_15 : Int) (x_16 : Int) (x_17 : Int) (x_18 : Int) (x_19 : Int) (x_20 : Int) (v_23 : Int) : Nd :=
  .bif ((x_15 == 1))
  (.ck (decide ((0 : Int) ≤ x_17) && decide (x_17 < ((r_8.length : Nat) : Int))) <|
    B46_2 fuel_0 s_1 s_2 r_3 r_4 r_5 r_6 r_7 (r_8.set (0 + x_17.toNat) (i64 x_20)) r_22 r_21 p_9 p_10 p_11 p_12 p_13 p_14 (w64 (v_23 + 1)))
  (.bif ((x_15 == 2))
    (.ck (decide ((0 : Int) ≤ x_18) && decide (x_18 < ((r_8.length : Nat) : Int))) <|
      .int .i64 (r_8.getD (0 + x_18.toNat) (.dead ())) fun x_7699 =>
      .ck (decide ((0 : Int) ≤ x_17) && decide (x_17 < ((r_8.length : Nat) : Int))) <|
      B46_2 fuel_0 s_1 s_2 r_3 r_4 r_5 r_6 r_7 (r_8.set (0 + x_17.toNat) (i64 x_7699)) r_22 r_21 p_9 p_10 p_11 p_12 p_13 p_14 (w64 (v_23 + 1)))
    (.bif ((x_15 == 3))
      (.ck (decide ((0 : Int) ≤ x_18) && decide (x_18 < ((r_8.length : Nat) : Int))) <|
        .int .i64 (r_8.getD (0 + x_18.toNat) (.dead ())) fun x_7699 =>
        .ck (decide ((0 : Int) ≤ x_19) && decide (x_19 < ((r_8.length : Nat) : Int))) <|
        .int .i64 (r_8.getD (0 + x_19.toNat) (.dead ())) fun x_d0f5 =>
        C132 x_16 x_7699 x_d0f5 fun v_2510 v_9103 =>
        .bif ((!v_9103))
        (.ret [.st [.st [sl false ⟨1, false⟩ r_3, sl false ⟨1, false⟩ r_4, sl false ⟨1, false⟩ r_5], i64 2, i64 r_7, sl false ⟨1, false⟩ r_8, i64 r_22, i64 r_21]] [])
        (.ck (decide ((0 : Int) ≤ x_17) && decide (x_17 < ((r_8.length : Nat) : Int))) <|
          B46_2 fuel_0 s_1 s_2 r_3 r_4 r_5 r_6 r_7 (r_8.set (0 + x_17.toNat) (i64 v_2510)) r_22 r_21 p_9 p_10 p_11 p_12 p_13 p_14 (w64 (v_23 + 1))))
      (.bif ((x_15 == 4))
        (.ck (decide ((0 : Int) ≤ x_18) && decide (x_18 < ((r_8.length : Nat) : Int))) <|
          .int .i64 (r_8.getD (0 + x_18.toNat) (.dead ())) fun x_7699 =>
          .bif (decide (x_7699 ≥ 16))
          (.ret [.st [.st [sl false ⟨1, false⟩ r_3, sl false ⟨1, false⟩ r_4, sl false ⟨1, false⟩ r_5], i64 2, i64 r_7, sl false ⟨1, false⟩ r_8, i64 r_22, i64 r_21]] [])
          (.ck (decide ((0 : Int) ≤ x_18) && decide (x_18 < ((r_8.length : Nat) : Int))) <|
            .int .i64 (r_8.getD (0 + x_18.toNat) (.dead ())) fun x_7699_2 =>
            .ck (decide ((0 : Int) ≤ x_7699_2) && decide (x_7699_2 < ((r_4.length : Nat) : Int))) <|
            .int .i64 (r_4.getD (0 + x_7699_2.toNat) (.dead ())) fun x_7b95 =>
            .ck (decide ((0 : Int) ≤ x_17) && decide (x_17 < ((r_8.length : Nat) : Int))) <|
            B46_2 fuel_0 s_1 s_2 r_3 r_4 r_5 r_6 r_7 (r_8.set (0 + x_17.toNat) (i64 x_7b95)) r_22 r_21 p_9 p_10 p_11 p_12 p_13 p_14 (w64 (v_23 + 1))))
        (.bif ((x_15 == 5))
          (.ck (decide ((0 : Int) ≤ x_18) && decide (x_18 < ((r_8.length : Nat) : Int))) <|
            .int .i64 (r_8.getD (0 + x_18.toNat) (.dead ())) fun x_7699 =>
            .bif (decide (x_7699 ≥ 16))
            (.ret [.st [.st [sl false ⟨1, false⟩ r_3, sl false ⟨1, false⟩ r_4, sl false ⟨1, false⟩ r_5], i64 2, i64 r_7, sl false ⟨1, false⟩ r_8, i64 r_22, i64 r_21]] [])
            (.ck (decide ((0 : Int) ≤ x_18) && decide (x_18 < ((r_8.length : Nat) : Int))) <|
              .int .i64 (r_8.getD (0 + x_18.toNat) (.dead ())) fun x_7699_2 =>
              .ck (decide ((0 : Int) ≤ x_19) && decide (x_19 < ((r_8.length : Nat) : Int))) <|
              .int .i64 (r_8.getD (0 + x_19.toNat) (.dead ())) fun x_d0f5 =>
              .ck (decide ((0 : Int) ≤ x_7699_2) && decide (x_7699_2 < ((r_4.length : Nat) : Int))) <|
              B46_2 fuel_0 s_1 s_2 r_3 (r_4.set (0 + x_7699_2.toNat) (i64 x_d0f5)) r_5 r_6 r_7 r_8 r_22 r_21 p_9 p_10 p_11 p_12 p_13 p_14 (w64 (v_23 + 1))))
          (.bif ((((r_5.length : Nat) : Int) == 100))
            (.ret [.st [.st [sl false ⟨1, false⟩ r_3, sl false ⟨1, false⟩ r_4, sl false ⟨1, false⟩ r_5], i64 2, i64 r_7, sl false ⟨1, false⟩ r_8, i64 r_22, i64 r_21]] [])
            (.ck (decide ((0 : Int) ≤ x_18) && decide (x_18 < ((r_8.length : Nat) : Int))) <|
              .int .i64 (r_8.getD (0 + x_18.toNat) (.dead ())) fun x_7699 =>
              .ck (decide ((r_5.length + ([i64 x_7699] : List TV).length) * 8 < lim)) <|
              B46_2 fuel_0 s_1 s_2 r_3 r_4 (r_5 ++ ([i64 x_7699])) r_6 r_7 r_8 r_22 r_21 p_9 p_10 p_11 p_12 p_13 p_14 (w64 (v_23 + 1))))))))
theorem eG46_3 {fuel_0 : Int} {s_1 : List TV} {s_2 : Int} {r_3 : List TV} {r_4 : List TV} {r_5 : List TV} {r_6 : Int} {r_7 : Int} {r_8 : List TV} {r_22 : Int} {r_21 : Int} {p_9 : List TV} {p_10 : List TV} {p_11 : Int} {p_12 : Int} {p_13 : List TV} {p_14 : List TV} {x_15 : Int} {x_16 : Int} {x_17 : Int} {x_18 : Int} {x_19 : Int} {x_20 : Int} {v_23 : Int} {r : Res} (h : S cx 46 (NG46_3 fuel_0 s_1 s_2 r_3 r_4 r_5 r_6 r_7 r_8 r_22 r_21 p_9 p_10 p_11 p_12 p_13 p_14 x_15 x_16 x_17 x_18 x_19 x_20 v_23) = some r) : S cx 46 (G46_3 fuel_0 s_1 s_2 r_3 r_4 r_5 r_6 r_7 r_8 r_22 r_21 p_9 p_10 p_11 p_12 p_13 p_14 x_15 x_16 x_17 x_18 x_19 x_20 v_23) = some r :=
  pw_of (fun call hd hb pt rg => by kernel_rfl) h
noncomputable def NH46_4 (r_0 : List TV) (r_1 : List TV) (r_2 : List TV) (r_3 : Int) (r_4 : Int) (r_5 : List TV) (r_9 : Int) (r_6 : Int) (v_7 : List TV) (v_8 : Int) : Nd :=
  .bif (decide (v_8 < ((v_7.length : Nat) : Int)))
  (.ck (decide ((0 : Int) ≤ v_8) && decide (v_8 < ((v_7.length : Nat) : Int))) <|
    .int .i64 (v_7.getD (0 + v_8.toNat) (.dead ())) fun x_1fed =>
    .ck (decide ((0 : Int) ≤ x_1fed) && decide (x_1fed < ((r_5.length : Nat) : Int))) <|
    .int .i64 (r_5.getD (0 + x_1fed.toNat) (.dead ())) fun x_1cb1 =>
    .ck (decide ((0 : Int) ≤ v_8) && decide (v_8 < ((r_0.length : Nat) : Int))) <|
    B46_4 (r_0.set (0 + v_8.toNat) (i64 x_1cb1)) r_1 r_2 r_3 r_4 r_5 r_9 r_6 v_7 (w64 (v_8 + 1)))
  (.ret [.st [.st [sl false ⟨1, false⟩ r_0, sl false ⟨1, false⟩ r_1, sl false ⟨1, false⟩ r_2], i64 1, i64 r_4, sl false ⟨1, false⟩ r_5, i64 r_9, i64 r_6]] [])
theorem eH46_4 {r_0 : List TV} {r_1 : List TV} {r_2 : List TV} {r_3 : Int} {r_4 : Int} {r_5 : List TV} {r_9 : Int} {r_6 : Int} {v_7 : List TV} {v_8 : Int} {r : Res} (h : S cx 46 (NH46_4 r_0 r_1 r_2 r_3 r_4 r_5 r_9 r_6 v_7 v_8) = some r) : S cx 46 (H46_4 r_0 r_1 r_2 r_3 r_4 r_5 r_9 r_6 v_7 v_8) = some r :=
  hw_of (fun call hd hb pt rg => by kernel_rfl) h
noncomputable def NH46_5 (fuel_0 : Int) (s_1 : List TV) (s_2 : Int) (r_3 : List TV) (r_4 : List TV) (r_5 : List TV) (r_6 : Int) (r_7 : Int) (r_8 : List TV) (r_14 : Int) (r_9 : Int) (handed_12 : List TV) (at_10 : Int) (v_11 : List TV) (v_13 : Int) : Nd :=
  .bif (decide (v_13 < ((v_11.length : Nat) : Int)))
  (.ck (decide ((0 : Int) ≤ v_13) && decide (v_13 < ((v_11.length : Nat) : Int))) <|
    .int .i64 (v_11.getD (0 + v_13.toNat) (.dead ())) fun x_42f3 =>
    .ck (decide ((0 : Int) ≤ x_42f3) && decide (x_42f3 < ((r_8.length : Nat) : Int))) <|
    .int .i64 (r_8.getD (0 + x_42f3.toNat) (.dead ())) fun x_bb75 =>
    .ck (decide ((handed_12.length + ([i64 x_bb75] : List TV).length) * 8 < lim)) <|
    B46_5 fuel_0 s_1 s_2 r_3 r_4 r_5 r_6 r_7 r_8 r_14 r_9 (handed_12 ++ ([i64 x_bb75])) at_10 v_11 (w64 (v_13 + 1)))
  (B46_0 fuel_0 s_1 s_2 r_3 r_4 r_5 r_6 r_7 r_8 r_14 r_9 handed_12 at_10)
theorem eH46_5 {fuel_0 : Int} {s_1 : List TV} {s_2 : Int} {r_3 : List TV} {r_4 : List TV} {r_5 : List TV} {r_6 : Int} {r_7 : Int} {r_8 : List TV} {r_14 : Int} {r_9 : Int} {handed_12 : List TV} {at_10 : Int} {v_11 : List TV} {v_13 : Int} {r : Res} (h : S cx 46 (NH46_5 fuel_0 s_1 s_2 r_3 r_4 r_5 r_6 r_7 r_8 r_14 r_9 handed_12 at_10 v_11 v_13) = some r) : S cx 46 (H46_5 fuel_0 s_1 s_2 r_3 r_4 r_5 r_6 r_7 r_8 r_14 r_9 handed_12 at_10 v_11 v_13) = some r :=
  hw_of (fun call hd hb pt rg => by kernel_rfl) h
noncomputable def EH47_0 (a_0 : List TV) (out_1 : List TV) (i_2 : Int) : Env := [w24 a_0, .un, .un, .val [] (sl false ⟨6, true⟩ out_1), w6 i_2] ++ uns 19
noncomputable abbrev H47_0 (a_0 : List TV) (out_1 : List TV) (i_2 : Int) : Nd := .head [1, 1, 0, 1, 2] (EH47_0 a_0 out_1 i_2)
noncomputable abbrev B47_0 (a_0 : List TV) (out_1 : List TV) (i_2 : Int) : Nd := .back [1, 1, 0, 1, 2] (EH47_0 a_0 out_1 i_2)
noncomputable def N47 (a_0 : List TV) : Nd :=
  .ck (decide ((0 : Int) ≤ ((a_0.length : Nat) : Int)) && decide (((a_0.length : Nat) : Int) ≤ ((a_0.length : Nat) : Int)) && decide (((a_0.length : Nat) : Int) * 112 < (lim : Int)) && decide (((a_0.length : Nat) : Int) < 9223372036854775807) && true && true) <|
  H47_0 a_0 (List.replicate (((a_0.length : Nat) : Int).toNat) (.st [sl false ⟨1, false⟩ ([]), sl false ⟨6, false⟩ ([]), i64 0, i64 0, sl false ⟨1, false⟩ ([]), sl false ⟨1, true⟩ ([])])) 0
theorem e47 {a_0 : List TV} {r : Res} (h : S cx 47 (N47 a_0) = some r) : tw cx 47 [sl true ⟨6, true⟩ a_0] = some r :=
  tw_of (fun call hd hb pt rg => by kernel_rfl) h
noncomputable def NH47_0 (a_0 : List TV) (out_1 : List TV) (i_2 : Int) : Nd :=
  .bif (decide (i_2 < ((a_0.length : Nat) : Int)))
  (.ck (decide ((0 : Int) ≤ i_2) && decide (i_2 < ((a_0.length : Nat) : Int))) <|
    V6 (a_0.getD (0 + i_2.toNat) (.dead ())) fun paramss_1585 codes_071a go_a685 test_1b25 nexts_aaa5 argss_f750 =>
    C93 paramss_1585 codes_071a go_a685 test_1b25 nexts_aaa5 argss_f750 fun paramss_c021 codes_7bdb go_2686 test_5964 nexts_bf9c argss_2237 =>
    .ck (decide ((0 : Int) ≤ i_2) && decide (i_2 < ((out_1.length : Nat) : Int))) <|
    B47_0 a_0 (out_1.set (0 + i_2.toNat) (.st [sl false ⟨1, false⟩ paramss_c021, sl false ⟨6, false⟩ codes_7bdb, i64 go_2686, i64 test_5964, sl false ⟨1, false⟩ nexts_bf9c, sl false ⟨1, true⟩ argss_2237])) (w64 (i_2 + 1)))
  (.ret [sl false ⟨6, true⟩ out_1] [])
theorem eH47_0 {a_0 : List TV} {out_1 : List TV} {i_2 : Int} {r : Res} (h : S cx 47 (NH47_0 a_0 out_1 i_2) = some r) : S cx 47 (H47_0 a_0 out_1 i_2) = some r :=
  hw_of (fun call hd hb pt rg => by kernel_rfl) h
noncomputable def EH48_0 (a_0 : List TV) (out_1 : List TV) (i_2 : Int) : Env := [w3 a_0, .un, .un, w10 out_1, w6 i_2] ++ uns 18
noncomputable abbrev H48_0 (a_0 : List TV) (out_1 : List TV) (i_2 : Int) : Nd := .head [1, 1, 0, 1, 2] (EH48_0 a_0 out_1 i_2)
noncomputable abbrev B48_0 (a_0 : List TV) (out_1 : List TV) (i_2 : Int) : Nd := .back [1, 1, 0, 1, 2] (EH48_0 a_0 out_1 i_2)
noncomputable def N48 (a_0 : List TV) : Nd :=
  .ck (decide ((0 : Int) ≤ ((a_0.length : Nat) : Int)) && decide (((a_0.length : Nat) : Int) ≤ ((a_0.length : Nat) : Int)) && decide (((a_0.length : Nat) : Int) * 8 < (lim : Int)) && decide (((a_0.length : Nat) : Int) < 9223372036854775807) && true && true) <|
  H48_0 a_0 (List.replicate (((a_0.length : Nat) : Int).toNat) (i64 0)) 0
theorem e48 {a_0 : List TV} {r : Res} (h : S cx 48 (N48 a_0) = some r) : tw cx 48 [sl true ⟨1, false⟩ a_0] = some r :=
  tw_of (fun call hd hb pt rg => by kernel_rfl) h
noncomputable def NH48_0 (a_0 : List TV) (out_1 : List TV) (i_2 : Int) : Nd :=
  .bif (decide (i_2 < ((a_0.length : Nat) : Int)))
  (.ck (decide ((0 : Int) ≤ i_2) && decide (i_2 < ((a_0.length : Nat) : Int))) <|
    .int .i64 (a_0.getD (0 + i_2.toNat) (.dead ())) fun x_3db5 =>
    .ck (decide ((0 : Int) ≤ i_2) && decide (i_2 < ((out_1.length : Nat) : Int))) <|
    B48_0 a_0 (out_1.set (0 + i_2.toNat) (i64 x_3db5)) (w64 (i_2 + 1)))
  (.ret [sl false ⟨1, false⟩ out_1] [])
theorem eH48_0 {a_0 : List TV} {out_1 : List TV} {i_2 : Int} {r : Res} (h : S cx 48 (NH48_0 a_0 out_1 i_2) = some r) : S cx 48 (H48_0 a_0 out_1 i_2) = some r :=
  hw_of (fun call hd hb pt rg => by kernel_rfl) h
noncomputable def N49 (s_0 : List TV) (s_1 : Int) (state_2 : List TV) (state_3 : List TV) (state_4 : List TV) (fuel_5 : Int) : Nd :=
  .call 94 [.st [sl true ⟨6, true⟩ s_0, i64 s_1]] fun r_5bac =>
  .cons r_5bac.1 fun t_d663 ts_cd6c =>
  .ptO t_d663 (.nil ts_cd6c <|
    .nil r_5bac.2 <|
    .ret [tnil] []) fun p_2e74 =>
  .st p_2e74 fun ts_c0c0 =>
  .cons ts_c0c0 fun t_781a ts_4bf9 =>
  V2 t_781a fun partss_6249 values_db4b =>
  .cons ts_4bf9 fun t_8f98 ts_7d0f =>
  .slO ⟨1, true⟩ t_8f98 fun nexts_10e7 =>
  .cons ts_7d0f fun t_1894 ts_f46a =>
  .slO ⟨1, true⟩ t_1894 fun doms_3f0f =>
  .cons ts_f46a fun t_2268 ts_c3c4 =>
  .slO ⟨1, false⟩ t_2268 fun defs_159d =>
  .cons ts_c3c4 fun t_f1cb ts_755a =>
  .slO ⟨1, false⟩ t_f1cb fun ats_b07a =>
  .nil ts_755a <|
  .nil ts_cd6c <|
  .nil r_5bac.2 <|
  C56 state_2 state_3 state_4 fun v_7332 =>
  .bif ((!v_7332))
  (.ret [tnil] [])
  (C57 fuel_5 0 2000 fun v_366a =>
    .bif ((!v_366a))
    (.ret [tnil] [])
    (.call 95 [.pt true () (.st [.st [sl true ⟨6, true⟩ partss_6249, i64 values_db4b], sl false ⟨1, true⟩ nexts_10e7, sl false ⟨1, true⟩ doms_3f0f, sl false ⟨1, false⟩ defs_159d, sl false ⟨1, false⟩ ats_b07a]), .st [sl true ⟨1, false⟩ state_2, sl true ⟨1, false⟩ state_3, sl true ⟨1, false⟩ state_4], i64 fuel_5] fun r_6d1d =>
      .cons r_6d1d.1 fun t_35c3 ts_4e63 =>
      .ptO t_35c3 (.nil ts_4e63 <|
        .nil r_6d1d.2 <|
        .ret [tnil] []) fun p_2af4 =>
      .st p_2af4 fun ts_ccdc =>
      .cons ts_ccdc fun t_f6a2 ts_5492 =>
      V3 t_f6a2 fun localss_e1a0 mems_ac70 tolds_5478 =>
      .cons ts_5492 fun t_4d55 ts_1d46 =>
      .slO ⟨1, false⟩ t_4d55 fun wordss_176c =>
      .cons ts_1d46 fun t_3975 ts_cfd2 =>
      .int .i64 t_3975 fun end_1ad9 =>
      .cons ts_cfd2 fun t_a152 ts_a3bb =>
      .int .i64 t_a152 fun begun_996f =>
      .cons ts_a3bb fun t_590e ts_d419 =>
      .int .i64 t_590e fun last_98e5 =>
      .cons ts_d419 fun t_6f7b ts_db1b =>
      .int .i64 t_6f7b fun twos_8600 =>
      .nil ts_db1b <|
      .nil ts_4e63 <|
      .nil r_6d1d.2 <|
      .ret [.pt false () (.st [.st [sl false ⟨1, false⟩ localss_e1a0, sl false ⟨1, false⟩ mems_ac70, sl false ⟨1, false⟩ tolds_5478], sl false ⟨1, false⟩ wordss_176c, i64 end_1ad9, i64 begun_996f, i64 last_98e5, i64 twos_8600])] []))
theorem e49 {s_0 : List TV} {s_1 : Int} {state_2 : List TV} {state_3 : List TV} {state_4 : List TV} {fuel_5 : Int} {r : Res} (h : S cx 49 (N49 s_0 s_1 state_2 state_3 state_4 fuel_5) = some r) : tw cx 49 [.st [sl true ⟨6, true⟩ s_0, i64 s_1], .st [sl true ⟨1, false⟩ state_2, sl true ⟨1, false⟩ state_3, sl true ⟨1, false⟩ state_4], i64 fuel_5] = some r :=
  tw_of (fun call hd hb pt rg => by kernel_rfl) h
noncomputable def EH50_0 (a_0 : List TV) (b_1 : List TV) (i_2 : Int) : Env := [w24 a_0, w24 b_1, .un, .un, .un, w6 i_2] ++ uns 23
noncomputable abbrev H50_0 (a_0 : List TV) (b_1 : List TV) (i_2 : Int) : Nd := .head [1, 1, 0, 1, 2] (EH50_0 a_0 b_1 i_2)
noncomputable abbrev B50_0 (a_0 : List TV) (b_1 : List TV) (i_2 : Int) : Nd := .back [1, 1, 0, 1, 2] (EH50_0 a_0 b_1 i_2)
noncomputable def N50 (a_0 : List TV) (b_1 : List TV) : Nd :=
  .bif ((((a_0.length : Nat) : Int) != ((b_1.length : Nat) : Int)))
  (.ret [tb false] [])
  (H50_0 a_0 b_1 0)
theorem e50 {a_0 : List TV} {b_1 : List TV} {r : Res} (h : S cx 50 (N50 a_0 b_1) = some r) : tw cx 50 [sl true ⟨6, true⟩ a_0, sl true ⟨6, true⟩ b_1] = some r :=
  tw_of (fun call hd hb pt rg => by kernel_rfl) h
noncomputable def NH50_0 (a_0 : List TV) (b_1 : List TV) (i_2 : Int) : Nd :=
  .bif (decide (i_2 < ((a_0.length : Nat) : Int)))
  (.ck (decide ((0 : Int) ≤ i_2) && decide (i_2 < ((a_0.length : Nat) : Int))) <|
    V6 (a_0.getD (0 + i_2.toNat) (.dead ())) fun paramss_1585 codes_071a go_a685 test_1b25 nexts_aaa5 argss_f750 =>
    .ck (decide ((0 : Int) ≤ i_2) && decide (i_2 < ((b_1.length : Nat) : Int))) <|
    V6 (b_1.getD (0 + i_2.toNat) (.dead ())) fun paramss_4b7b codes_b506 go_7e12 test_0b83 nexts_480c argss_1978 =>
    C96 paramss_1585 codes_071a go_a685 test_1b25 nexts_aaa5 argss_f750 paramss_4b7b codes_b506 go_7e12 test_0b83 nexts_480c argss_1978 fun v_90c9 =>
    .bif ((!v_90c9))
    (.ret [tb false] [])
    (B50_0 a_0 b_1 (w64 (i_2 + 1))))
  (.ret [tb true] [])
theorem eH50_0 {a_0 : List TV} {b_1 : List TV} {i_2 : Int} {r : Res} (h : S cx 50 (NH50_0 a_0 b_1 i_2) = some r) : S cx 50 (H50_0 a_0 b_1 i_2) = some r :=
  hw_of (fun call hd hb pt rg => by kernel_rfl) h
noncomputable def ER52_0 (s_0 : List TV) (s_1 : List TV) (s_2 : List TV) : Env := [w4 s_0 s_1 s_2, w1 s_0 s_1 s_2, w2, w9, w15, w3 s_0, .un, .un, w16, .un, .un, .un, w17, .un, .un, .un, .un]
noncomputable abbrev R52_0 (s_0 : List TV) (s_1 : List TV) (s_2 : List TV) : Nd := .rg [1, 0] [true, true, true, false, false, true, false, false, false, true, false, false, false, false] (ER52_0 s_0 s_1 s_2)
noncomputable def ER52_1 (s_0 : List TV) (s_1 : List TV) (s_2 : List TV) : Env := [w4 s_0 s_1 s_2, w1 s_0 s_1 s_2, w2, .un, w15, w3 s_0, .un, w9, w16, .un, .un, .un, w17, .un, .un, .un, .un]
noncomputable abbrev R52_1 (s_0 : List TV) (s_1 : List TV) (s_2 : List TV) : Nd := .rg [1, 0] [false, true, true, false, true, true, false, false, false, true, false, false, false, false] (ER52_1 s_0 s_1 s_2)
noncomputable def ER52_2 (s_0 : List TV) (s_1 : List TV) (s_2 : List TV) : Env := [w4 s_0 s_1 s_2, w1 s_0 s_1 s_2, w2, .un, w15, w3 s_0, .un, .un, w16, w3 s_1, .un, .un, w17, .un, .un, .un, .un]
noncomputable abbrev R52_2 (s_0 : List TV) (s_1 : List TV) (s_2 : List TV) : Nd := .rg [1, 0] [false, true, true, false, false, true, true, false, false, true, false, false, false, false] (ER52_2 s_0 s_1 s_2)
noncomputable def ER52_3 (s_0 : List TV) (s_1 : List TV) (s_2 : List TV) : Env := [w4 s_0 s_1 s_2, w1 s_0 s_1 s_2, w2, .un, w15, w3 s_0, .un, .un, w16, .un, .un, w9, w17, .un, .un, .un, .un]
noncomputable abbrev R52_3 (s_0 : List TV) (s_1 : List TV) (s_2 : List TV) : Nd := .rg [1, 0] [false, true, true, false, false, true, false, false, true, true, false, false, false, false] (ER52_3 s_0 s_1 s_2)
noncomputable def ER52_4 (s_0 : List TV) (s_1 : List TV) (s_2 : List TV) : Env := [w4 s_0 s_1 s_2, w1 s_0 s_1 s_2, w2, .un, w15, w3 s_0, .un, .un, w16, .un, .un, .un, w17, w3 s_2, .un, .un, .un]
noncomputable abbrev R52_4 (s_0 : List TV) (s_1 : List TV) (s_2 : List TV) : Nd := .rg [1, 0] [false, true, true, false, false, true, false, false, false, true, true, false, false, false] (ER52_4 s_0 s_1 s_2)
noncomputable def ER52_5 (s_0 : List TV) (s_1 : List TV) (s_2 : List TV) : Env := [w4 s_0 s_1 s_2, w1 s_0 s_1 s_2, w2, .un, w15, w3 s_0, w21 s_0, .un, w16, .un, .un, .un, w17, .un, .un, .un, .un]
noncomputable abbrev R52_5 (s_0 : List TV) (s_1 : List TV) (s_2 : List TV) : Nd := .rg [1, 0] [true, true, true, true, false, true, false, false, false, true, false, false, false, false] (ER52_5 s_0 s_1 s_2)
noncomputable def ER52_6 (s_0 : List TV) (s_1 : List TV) (s_2 : List TV) : Env := [w4 s_0 s_1 s_2, w1 s_0 s_1 s_2, w2, w9, w15, w3 s_0, .un, w9, w16, .un, .un, .un, w17, .un, .un, .un, .un]
noncomputable abbrev R52_6 (s_0 : List TV) (s_1 : List TV) (s_2 : List TV) : Nd := .rg [1, 0] [true, true, true, false, true, true, false, false, false, true, false, false, false, false] (ER52_6 s_0 s_1 s_2)
noncomputable def ER52_7 (s_0 : List TV) (s_1 : List TV) (s_2 : List TV) : Env := [w4 s_0 s_1 s_2, w1 s_0 s_1 s_2, w2, w9, w15, w3 s_0, .un, .un, w16, w3 s_1, .un, .un, w17, .un, .un, .un, .un]
noncomputable abbrev R52_7 (s_0 : List TV) (s_1 : List TV) (s_2 : List TV) : Nd := .rg [1, 0] [true, true, true, false, false, true, true, false, false, true, false, false, false, false] (ER52_7 s_0 s_1 s_2)
noncomputable def ER52_8 (s_0 : List TV) (s_1 : List TV) (s_2 : List TV) : Env := [w4 s_0 s_1 s_2, w1 s_0 s_1 s_2, w2, w9, w15, w3 s_0, .un, .un, w16, .un, .un, w9, w17, .un, .un, .un, .un]
noncomputable abbrev R52_8 (s_0 : List TV) (s_1 : List TV) (s_2 : List TV) : Nd := .rg [1, 0] [true, true, true, false, false, true, false, false, true, true, false, false, false, false] (ER52_8 s_0 s_1 s_2)
noncomputable def ER52_9 (s_0 : List TV) (s_1 : List TV) (s_2 : List TV) : Env := [w4 s_0 s_1 s_2, w1 s_0 s_1 s_2, w2, w9, w15, w3 s_0, .un, .un, w16, .un, .un, .un, w17, w3 s_2, .un, .un, .un]
noncomputable abbrev R52_9 (s_0 : List TV) (s_1 : List TV) (s_2 : List TV) : Nd := .rg [1, 0] [true, true, true, false, false, true, false, false, false, true, true, false, false, false] (ER52_9 s_0 s_1 s_2)
noncomputable def ER52_10 (s_0 : List TV) (s_1 : List TV) (s_2 : List TV) : Env := [w4 s_0 s_1 s_2, w1 s_0 s_1 s_2, w2, .un, w15, w3 s_0, .un, w9, w16, w3 s_1, .un, .un, w17, .un, .un, .un, .un]
noncomputable abbrev R52_10 (s_0 : List TV) (s_1 : List TV) (s_2 : List TV) : Nd := .rg [1, 0] [false, true, true, false, true, true, true, false, false, true, false, false, false, false] (ER52_10 s_0 s_1 s_2)
noncomputable def ER52_11 (s_0 : List TV) (s_1 : List TV) (s_2 : List TV) : Env := [w4 s_0 s_1 s_2, w1 s_0 s_1 s_2, w2, .un, w15, w3 s_0, .un, w9, w16, .un, .un, w9, w17, .un, .un, .un, .un]
noncomputable abbrev R52_11 (s_0 : List TV) (s_1 : List TV) (s_2 : List TV) : Nd := .rg [1, 0] [false, true, true, false, true, true, false, false, true, true, false, false, false, false] (ER52_11 s_0 s_1 s_2)
noncomputable def ER52_12 (s_0 : List TV) (s_1 : List TV) (s_2 : List TV) : Env := [w4 s_0 s_1 s_2, w1 s_0 s_1 s_2, w2, .un, w15, w3 s_0, .un, w9, w16, .un, .un, .un, w17, w3 s_2, .un, .un, .un]
noncomputable abbrev R52_12 (s_0 : List TV) (s_1 : List TV) (s_2 : List TV) : Nd := .rg [1, 0] [false, true, true, false, true, true, false, false, false, true, true, false, false, false] (ER52_12 s_0 s_1 s_2)
noncomputable def ER52_13 (s_0 : List TV) (s_1 : List TV) (s_2 : List TV) : Env := [w4 s_0 s_1 s_2, w1 s_0 s_1 s_2, w2, .un, w15, w3 s_0, .un, .un, w16, w3 s_1, .un, w9, w17, .un, .un, .un, .un]
noncomputable abbrev R52_13 (s_0 : List TV) (s_1 : List TV) (s_2 : List TV) : Nd := .rg [1, 0] [false, true, true, false, false, true, true, false, true, true, false, false, false, false] (ER52_13 s_0 s_1 s_2)
noncomputable def ER52_14 (s_0 : List TV) (s_1 : List TV) (s_2 : List TV) : Env := [w4 s_0 s_1 s_2, w1 s_0 s_1 s_2, w2, .un, w15, w3 s_0, .un, .un, w16, w3 s_1, .un, .un, w17, w3 s_2, .un, .un, .un]
noncomputable abbrev R52_14 (s_0 : List TV) (s_1 : List TV) (s_2 : List TV) : Nd := .rg [1, 0] [false, true, true, false, false, true, true, false, false, true, true, false, false, false] (ER52_14 s_0 s_1 s_2)
noncomputable def ER52_15 (s_0 : List TV) (s_1 : List TV) (s_2 : List TV) : Env := [w4 s_0 s_1 s_2, w1 s_0 s_1 s_2, w2, .un, w15, w3 s_0, .un, .un, w16, .un, .un, w9, w17, w3 s_2, .un, .un, .un]
noncomputable abbrev R52_15 (s_0 : List TV) (s_1 : List TV) (s_2 : List TV) : Nd := .rg [1, 0] [false, true, true, false, false, true, false, false, true, true, true, false, false, false] (ER52_15 s_0 s_1 s_2)
noncomputable def ER52_16 (s_0 : List TV) (s_1 : List TV) (s_2 : List TV) : Env := [w4 s_0 s_1 s_2, w1 s_0 s_1 s_2, w2, .un, w15, w3 s_0, w21 s_0, w9, w16, w3 s_1, .un, .un, w17, .un, .un, .un, .un]
noncomputable abbrev R52_16 (s_0 : List TV) (s_1 : List TV) (s_2 : List TV) : Nd := .rg [1, 0] [true, true, true, true, true, true, true, false, false, true, false, false, false, false] (ER52_16 s_0 s_1 s_2)
noncomputable def ER52_17 (s_0 : List TV) (s_1 : List TV) (s_2 : List TV) : Env := [w4 s_0 s_1 s_2, w1 s_0 s_1 s_2, w2, .un, w15, w3 s_0, w21 s_0, .un, w16, w3 s_1, .un, w9, w17, .un, .un, .un, .un]
noncomputable abbrev R52_17 (s_0 : List TV) (s_1 : List TV) (s_2 : List TV) : Nd := .rg [1, 0] [true, true, true, true, false, true, true, false, true, true, false, false, false, false] (ER52_17 s_0 s_1 s_2)
noncomputable def ER52_18 (s_0 : List TV) (s_1 : List TV) (s_2 : List TV) : Env := [w4 s_0 s_1 s_2, w1 s_0 s_1 s_2, w2, .un, w15, w3 s_0, w21 s_0, .un, w16, w3 s_1, .un, .un, w17, w3 s_2, .un, .un, .un]
noncomputable abbrev R52_18 (s_0 : List TV) (s_1 : List TV) (s_2 : List TV) : Nd := .rg [1, 0] [true, true, true, true, false, true, true, false, false, true, true, false, false, false] (ER52_18 s_0 s_1 s_2)
noncomputable def ER52_19 (s_0 : List TV) (s_1 : List TV) (s_2 : List TV) : Env := [w4 s_0 s_1 s_2, w1 s_0 s_1 s_2, w2, .un, w15, w3 s_0, w21 s_0, w9, w16, .un, .un, .un, w17, .un, .un, .un, .un]
noncomputable abbrev R52_19 (s_0 : List TV) (s_1 : List TV) (s_2 : List TV) : Nd := .rg [1, 0] [true, true, true, true, true, true, false, false, false, true, false, false, false, false] (ER52_19 s_0 s_1 s_2)
noncomputable def ER52_20 (s_0 : List TV) (s_1 : List TV) (s_2 : List TV) : Env := [w4 s_0 s_1 s_2, w1 s_0 s_1 s_2, w2, w9, w15, w3 s_0, .un, w9, w16, w3 s_1, .un, .un, w17, .un, .un, .un, .un]
noncomputable abbrev R52_20 (s_0 : List TV) (s_1 : List TV) (s_2 : List TV) : Nd := .rg [1, 0] [true, true, true, false, true, true, true, false, false, true, false, false, false, false] (ER52_20 s_0 s_1 s_2)
noncomputable def ER52_21 (s_0 : List TV) (s_1 : List TV) (s_2 : List TV) : Env := [w4 s_0 s_1 s_2, w1 s_0 s_1 s_2, w2, w9, w15, w3 s_0, .un, w9, w16, .un, .un, w9, w17, .un, .un, .un, .un]
noncomputable abbrev R52_21 (s_0 : List TV) (s_1 : List TV) (s_2 : List TV) : Nd := .rg [1, 0] [true, true, true, false, true, true, false, false, true, true, false, false, false, false] (ER52_21 s_0 s_1 s_2)
noncomputable def ER52_22 (s_0 : List TV) (s_1 : List TV) (s_2 : List TV) : Env := [w4 s_0 s_1 s_2, w1 s_0 s_1 s_2, w2, w9, w15, w3 s_0, .un, w9, w16, .un, .un, .un, w17, w3 s_2, .un, .un, .un]
noncomputable abbrev R52_22 (s_0 : List TV) (s_1 : List TV) (s_2 : List TV) : Nd := .rg [1, 0] [true, true, true, false, true, true, false, false, false, true, true, false, false, false] (ER52_22 s_0 s_1 s_2)
noncomputable def ER52_23 (s_0 : List TV) (s_1 : List TV) (s_2 : List TV) : Env := [w4 s_0 s_1 s_2, w1 s_0 s_1 s_2, w2, .un, w15, w3 s_0, w21 s_0, .un, w16, w3 s_1, .un, .un, w17, .un, .un, .un, .un]
noncomputable abbrev R52_23 (s_0 : List TV) (s_1 : List TV) (s_2 : List TV) : Nd := .rg [1, 0] [true, true, true, true, false, true, true, false, false, true, false, false, false, false] (ER52_23 s_0 s_1 s_2)
noncomputable def ER52_24 (s_0 : List TV) (s_1 : List TV) (s_2 : List TV) : Env := [w4 s_0 s_1 s_2, w1 s_0 s_1 s_2, w2, w9, w15, w3 s_0, .un, .un, w16, w3 s_1, .un, w9, w17, .un, .un, .un, .un]
noncomputable abbrev R52_24 (s_0 : List TV) (s_1 : List TV) (s_2 : List TV) : Nd := .rg [1, 0] [true, true, true, false, false, true, true, false, true, true, false, false, false, false] (ER52_24 s_0 s_1 s_2)
noncomputable def ER52_25 (s_0 : List TV) (s_1 : List TV) (s_2 : List TV) : Env := [w4 s_0 s_1 s_2, w1 s_0 s_1 s_2, w2, w9, w15, w3 s_0, .un, .un, w16, w3 s_1, .un, .un, w17, w3 s_2, .un, .un, .un]
noncomputable abbrev R52_25 (s_0 : List TV) (s_1 : List TV) (s_2 : List TV) : Nd := .rg [1, 0] [true, true, true, false, false, true, true, false, false, true, true, false, false, false] (ER52_25 s_0 s_1 s_2)
noncomputable def ER52_26 (s_0 : List TV) (s_1 : List TV) (s_2 : List TV) : Env := [w4 s_0 s_1 s_2, w1 s_0 s_1 s_2, w2, .un, w15, w3 s_0, w21 s_0, .un, w16, .un, .un, w9, w17, .un, .un, .un, .un]
noncomputable abbrev R52_26 (s_0 : List TV) (s_1 : List TV) (s_2 : List TV) : Nd := .rg [1, 0] [true, true, true, true, false, true, false, false, true, true, false, false, false, false] (ER52_26 s_0 s_1 s_2)
noncomputable def ER52_27 (s_0 : List TV) (s_1 : List TV) (s_2 : List TV) : Env := [w4 s_0 s_1 s_2, w1 s_0 s_1 s_2, w2, w9, w15, w3 s_0, .un, .un, w16, .un, .un, w9, w17, w3 s_2, .un, .un, .un]
noncomputable abbrev R52_27 (s_0 : List TV) (s_1 : List TV) (s_2 : List TV) : Nd := .rg [1, 0] [true, true, true, false, false, true, false, false, true, true, true, false, false, false] (ER52_27 s_0 s_1 s_2)
noncomputable def ER52_28 (s_0 : List TV) (s_1 : List TV) (s_2 : List TV) : Env := [w4 s_0 s_1 s_2, w1 s_0 s_1 s_2, w2, .un, w15, w3 s_0, w21 s_0, .un, w16, .un, .un, .un, w17, w3 s_2, .un, .un, .un]
noncomputable abbrev R52_28 (s_0 : List TV) (s_1 : List TV) (s_2 : List TV) : Nd := .rg [1, 0] [true, true, true, true, false, true, false, false, false, true, true, false, false, false] (ER52_28 s_0 s_1 s_2)
noncomputable def ER52_29 (s_0 : List TV) (s_1 : List TV) (s_2 : List TV) : Env := [w4 s_0 s_1 s_2, w1 s_0 s_1 s_2, w2, .un, w15, w3 s_0, .un, w9, w16, w3 s_1, .un, w9, w17, .un, .un, .un, .un]
noncomputable abbrev R52_29 (s_0 : List TV) (s_1 : List TV) (s_2 : List TV) : Nd := .rg [1, 0] [false, true, true, false, true, true, true, false, true, true, false, false, false, false] (ER52_29 s_0 s_1 s_2)
noncomputable def ER52_30 (s_0 : List TV) (s_1 : List TV) (s_2 : List TV) : Env := [w4 s_0 s_1 s_2, w1 s_0 s_1 s_2, w2, .un, w15, w3 s_0, .un, w9, w16, w3 s_1, .un, .un, w17, w3 s_2, .un, .un, .un]
noncomputable abbrev R52_30 (s_0 : List TV) (s_1 : List TV) (s_2 : List TV) : Nd := .rg [1, 0] [false, true, true, false, true, true, true, false, false, true, true, false, false, false] (ER52_30 s_0 s_1 s_2)
noncomputable def ER52_31 (s_0 : List TV) (s_1 : List TV) (s_2 : List TV) : Env := [w4 s_0 s_1 s_2, w1 s_0 s_1 s_2, w2, .un, w15, w3 s_0, .un, w9, w16, .un, .un, w9, w17, w3 s_2, .un, .un, .un]
noncomputable abbrev R52_31 (s_0 : List TV) (s_1 : List TV) (s_2 : List TV) : Nd := .rg [1, 0] [false, true, true, false, true, true, false, false, true, true, true, false, false, false] (ER52_31 s_0 s_1 s_2)
noncomputable def ER52_32 (s_0 : List TV) (s_1 : List TV) (s_2 : List TV) : Env := [w4 s_0 s_1 s_2, w1 s_0 s_1 s_2, w2, .un, w15, w3 s_0, .un, .un, w16, w3 s_1, .un, w9, w17, w3 s_2, .un, .un, .un]
noncomputable abbrev R52_32 (s_0 : List TV) (s_1 : List TV) (s_2 : List TV) : Nd := .rg [1, 0] [false, true, true, false, false, true, true, false, true, true, true, false, false, false] (ER52_32 s_0 s_1 s_2)
noncomputable def ER52_33 (s_0 : List TV) (s_1 : List TV) (s_2 : List TV) : Env := [w4 s_0 s_1 s_2, w1 s_0 s_1 s_2, w2, .un, w15, w3 s_0, w21 s_0, .un, w16, w3 s_1, w21 s_1, .un, w17, .un, .un, .un, .un]
noncomputable abbrev R52_33 (s_0 : List TV) (s_1 : List TV) (s_2 : List TV) : Nd := .rg [1, 0] [true, true, true, true, true, true, true, true, false, true, false, false, false, false] (ER52_33 s_0 s_1 s_2)
noncomputable def ER52_34 (s_0 : List TV) (s_1 : List TV) (s_2 : List TV) : Env := [w4 s_0 s_1 s_2, w1 s_0 s_1 s_2, w2, .un, w15, w3 s_0, w21 s_0, w9, w16, w3 s_1, .un, w9, w17, .un, .un, .un, .un]
noncomputable abbrev R52_34 (s_0 : List TV) (s_1 : List TV) (s_2 : List TV) : Nd := .rg [1, 0] [true, true, true, true, true, true, true, false, true, true, false, false, false, false] (ER52_34 s_0 s_1 s_2)
noncomputable def ER52_35 (s_0 : List TV) (s_1 : List TV) (s_2 : List TV) : Env := [w4 s_0 s_1 s_2, w1 s_0 s_1 s_2, w2, .un, w15, w3 s_0, w21 s_0, w9, w16, w3 s_1, .un, .un, w17, w3 s_2, .un, .un, .un]
noncomputable abbrev R52_35 (s_0 : List TV) (s_1 : List TV) (s_2 : List TV) : Nd := .rg [1, 0] [true, true, true, true, true, true, true, false, false, true, true, false, false, false] (ER52_35 s_0 s_1 s_2)
noncomputable def ER52_36 (s_0 : List TV) (s_1 : List TV) (s_2 : List TV) : Env := [w4 s_0 s_1 s_2, w1 s_0 s_1 s_2, w2, .un, w15, w3 s_0, w21 s_0, .un, w16, w3 s_1, .un, w9, w17, w3 s_2, .un, .un, .un]
noncomputable abbrev R52_36 (s_0 : List TV) (s_1 : List TV) (s_2 : List TV) : Nd := .rg [1, 0] [true, true, true, true, false, true, true, false, true, true, true, false, false, false] (ER52_36 s_0 s_1 s_2)
noncomputable def ER52_37 (s_0 : List TV) (s_1 : List TV) (s_2 : List TV) : Env := [w4 s_0 s_1 s_2, w1 s_0 s_1 s_2, w2, w9, w15, w3 s_0, .un, w9, w16, w3 s_1, .un, w9, w17, .un, .un, .un, .un]
noncomputable abbrev R52_37 (s_0 : List TV) (s_1 : List TV) (s_2 : List TV) : Nd := .rg [1, 0] [true, true, true, false, true, true, true, false, true, true, false, false, false, false] (ER52_37 s_0 s_1 s_2)
noncomputable def ER52_38 (s_0 : List TV) (s_1 : List TV) (s_2 : List TV) : Env := [w4 s_0 s_1 s_2, w1 s_0 s_1 s_2, w2, w9, w15, w3 s_0, .un, w9, w16, w3 s_1, .un, .un, w17, w3 s_2, .un, .un, .un]
noncomputable abbrev R52_38 (s_0 : List TV) (s_1 : List TV) (s_2 : List TV) : Nd := .rg [1, 0] [true, true, true, false, true, true, true, false, false, true, true, false, false, false] (ER52_38 s_0 s_1 s_2)
noncomputable def ER52_39 (s_0 : List TV) (s_1 : List TV) (s_2 : List TV) : Env := [w4 s_0 s_1 s_2, w1 s_0 s_1 s_2, w2, .un, w15, w3 s_0, w21 s_0, w9, w16, .un, .un, w9, w17, .un, .un, .un, .un]
noncomputable abbrev R52_39 (s_0 : List TV) (s_1 : List TV) (s_2 : List TV) : Nd := .rg [1, 0] [true, true, true, true, true, true, false, false, true, true, false, false, false, false] (ER52_39 s_0 s_1 s_2)
noncomputable def ER52_40 (s_0 : List TV) (s_1 : List TV) (s_2 : List TV) : Env := [w4 s_0 s_1 s_2, w1 s_0 s_1 s_2, w2, w9, w15, w3 s_0, .un, w9, w16, .un, .un, w9, w17, w3 s_2, .un, .un, .un]
noncomputable abbrev R52_40 (s_0 : List TV) (s_1 : List TV) (s_2 : List TV) : Nd := .rg [1, 0] [true, true, true, false, true, true, false, false, true, true, true, false, false, false] (ER52_40 s_0 s_1 s_2)
noncomputable def ER52_41 (s_0 : List TV) (s_1 : List TV) (s_2 : List TV) : Env := [w4 s_0 s_1 s_2, w1 s_0 s_1 s_2, w2, .un, w15, w3 s_0, w21 s_0, w9, w16, .un, .un, .un, w17, w3 s_2, .un, .un, .un]
noncomputable abbrev R52_41 (s_0 : List TV) (s_1 : List TV) (s_2 : List TV) : Nd := .rg [1, 0] [true, true, true, true, true, true, false, false, false, true, true, false, false, false] (ER52_41 s_0 s_1 s_2)
noncomputable def ER52_42 (s_0 : List TV) (s_1 : List TV) (s_2 : List TV) : Env := [w4 s_0 s_1 s_2, w1 s_0 s_1 s_2, w2, w9, w15, w3 s_0, .un, .un, w16, w3 s_1, .un, w9, w17, w3 s_2, .un, .un, .un]
noncomputable abbrev R52_42 (s_0 : List TV) (s_1 : List TV) (s_2 : List TV) : Nd := .rg [1, 0] [true, true, true, false, false, true, true, false, true, true, true, false, false, false] (ER52_42 s_0 s_1 s_2)
noncomputable def ER52_43 (s_0 : List TV) (s_1 : List TV) (s_2 : List TV) : Env := [w4 s_0 s_1 s_2, w1 s_0 s_1 s_2, w2, .un, w15, w3 s_0, w21 s_0, .un, w16, .un, .un, w9, w17, w3 s_2, .un, .un, .un]
noncomputable abbrev R52_43 (s_0 : List TV) (s_1 : List TV) (s_2 : List TV) : Nd := .rg [1, 0] [true, true, true, true, false, true, false, false, true, true, true, false, false, false] (ER52_43 s_0 s_1 s_2)
noncomputable def ER52_44 (s_0 : List TV) (s_1 : List TV) (s_2 : List TV) : Env := [w4 s_0 s_1 s_2, w1 s_0 s_1 s_2, w2, .un, w15, w3 s_0, .un, w9, w16, w3 s_1, .un, w9, w17, w3 s_2, .un, .un, .un]
noncomputable abbrev R52_44 (s_0 : List TV) (s_1 : List TV) (s_2 : List TV) : Nd := .rg [1, 0] [false, true, true, false, true, true, true, false, true, true, true, false, false, false] (ER52_44 s_0 s_1 s_2)
noncomputable def ER52_45 (s_0 : List TV) (s_1 : List TV) (s_2 : List TV) : Env := [w4 s_0 s_1 s_2, w1 s_0 s_1 s_2, w2, .un, w15, w3 s_0, w21 s_0, .un, w16, w3 s_1, w21 s_1, w9, w17, .un, .un, .un, .un]
noncomputable abbrev R52_45 (s_0 : List TV) (s_1 : List TV) (s_2 : List TV) : Nd := .rg [1, 0] [true, true, true, true, true, true, true, true, true, true, false, false, false, false] (ER52_45 s_0 s_1 s_2)
noncomputable def ER52_46 (s_0 : List TV) (s_1 : List TV) (s_2 : List TV) : Env := [w4 s_0 s_1 s_2, w1 s_0 s_1 s_2, w2, .un, w15, w3 s_0, w21 s_0, w9, w16, w3 s_1, .un, w9, w17, w3 s_2, .un, .un, .un]
noncomputable abbrev R52_46 (s_0 : List TV) (s_1 : List TV) (s_2 : List TV) : Nd := .rg [1, 0] [true, true, true, true, true, true, true, false, true, true, true, false, false, false] (ER52_46 s_0 s_1 s_2)
noncomputable def ER52_47 (s_0 : List TV) (s_1 : List TV) (s_2 : List TV) : Env := [w4 s_0 s_1 s_2, w1 s_0 s_1 s_2, w2, .un, w15, w3 s_0, w21 s_0, .un, w16, w3 s_1, w21 s_1, .un, w17, w3 s_2, .un, .un, .un]
noncomputable abbrev R52_47 (s_0 : List TV) (s_1 : List TV) (s_2 : List TV) : Nd := .rg [1, 0] [true, true, true, true, true, true, true, true, false, true, true, false, false, false] (ER52_47 s_0 s_1 s_2)
noncomputable def ER52_48 (s_0 : List TV) (s_1 : List TV) (s_2 : List TV) : Env := [w4 s_0 s_1 s_2, w1 s_0 s_1 s_2, w2, w9, w15, w3 s_0, .un, w9, w16, w3 s_1, .un, w9, w17, w3 s_2, .un, .un, .un]
noncomputable abbrev R52_48 (s_0 : List TV) (s_1 : List TV) (s_2 : List TV) : Nd := .rg [1, 0] [true, true, true, false, true, true, true, false, true, true, true, false, false, false] (ER52_48 s_0 s_1 s_2)
noncomputable def ER52_49 (s_0 : List TV) (s_1 : List TV) (s_2 : List TV) : Env := [w4 s_0 s_1 s_2, w1 s_0 s_1 s_2, w2, .un, w15, w3 s_0, w21 s_0, w9, w16, .un, .un, w9, w17, w3 s_2, .un, .un, .un]
noncomputable abbrev R52_49 (s_0 : List TV) (s_1 : List TV) (s_2 : List TV) : Nd := .rg [1, 0] [true, true, true, true, true, true, false, false, true, true, true, false, false, false] (ER52_49 s_0 s_1 s_2)
noncomputable def Z52_0 (s_0 : List TV) (s_1 : List TV) (s_2 : List TV) : Nd :=
  .amb3 
  (R52_16 s_0 s_1 s_2) 
  (R52_17 s_0 s_1 s_2) 
  (R52_18 s_0 s_1 s_2)
noncomputable def Z52_1 (s_0 : List TV) (s_1 : List TV) (s_2 : List TV) : Nd :=
  .amb3 
  (.ck (decide ((0 + s_1.length) * 8 < lim)) <|
    R52_33 s_0 s_1 s_2) 
  (R52_34 s_0 s_1 s_2) 
  (R52_35 s_0 s_1 s_2)
noncomputable def Z52_2 (s_0 : List TV) (s_1 : List TV) (s_2 : List TV) : Nd :=
  .amb2 
  (R52_34 s_0 s_1 s_2) 
  (R52_36 s_0 s_1 s_2)
noncomputable def Z52_3 (s_0 : List TV) (s_1 : List TV) (s_2 : List TV) : Nd :=
  .amb2 
  (R52_35 s_0 s_1 s_2) 
  (R52_36 s_0 s_1 s_2)
noncomputable def Z52_4 (s_0 : List TV) (s_1 : List TV) (s_2 : List TV) : Nd :=
  .ck (decide ((0 + s_2.length) * 8 < lim)) <|
  .ret [.st [sl false ⟨1, false⟩ (([]) ++ s_0), sl false ⟨1, false⟩ (([]) ++ s_1), sl false ⟨1, false⟩ (([]) ++ s_2)]] []
noncomputable def Z52_5 (s_0 : List TV) (s_1 : List TV) (s_2 : List TV) : Nd :=
  .amb2 
  (.ck (decide ((0 + s_1.length) * 8 < lim)) <|
    R52_45 s_0 s_1 s_2) 
  (R52_46 s_0 s_1 s_2)
noncomputable def Z52_6 (s_0 : List TV) (s_1 : List TV) (s_2 : List TV) : Nd :=
  .amb2 
  (.ck (decide ((0 + s_1.length) * 8 < lim)) <|
    R52_47 s_0 s_1 s_2) 
  (R52_46 s_0 s_1 s_2)
noncomputable def Z52_7 (s_0 : List TV) (s_1 : List TV) (s_2 : List TV) : Nd :=
  .ck (decide ((0 + s_1.length) * 8 < lim)) <|
  Z52_4 s_0 s_1 s_2
noncomputable def Z52_8 (s_0 : List TV) (s_1 : List TV) (s_2 : List TV) : Nd :=
  .ck (decide ((0 + s_0.length) * 8 < lim)) <|
  Z52_7 s_0 s_1 s_2
noncomputable def N52 (s_0 : List TV) (s_1 : List TV) (s_2 : List TV) : Nd :=
  .amb5 
  (R52_0 s_0 s_1 s_2) 
  (R52_1 s_0 s_1 s_2) 
  (R52_2 s_0 s_1 s_2) 
  (R52_3 s_0 s_1 s_2) 
  (R52_4 s_0 s_1 s_2)
theorem e52 {s_0 : List TV} {s_1 : List TV} {s_2 : List TV} {r : Res} (h : S cx 52 (N52 s_0 s_1 s_2) = some r) : tw cx 52 [.st [sl true ⟨1, false⟩ s_0, sl true ⟨1, false⟩ s_1, sl true ⟨1, false⟩ s_2]] = some r :=
  tw_of (fun call hd hb pt rg => by kernel_rfl) h
noncomputable def NR52_0 (s_0 : List TV) (s_1 : List TV) (s_2 : List TV) : Nd :=
  .amb5 
  (.ck (decide ((0 + s_0.length) * 8 < lim)) <|
    R52_5 s_0 s_1 s_2) 
  (R52_6 s_0 s_1 s_2) 
  (R52_7 s_0 s_1 s_2) 
  (R52_8 s_0 s_1 s_2) 
  (R52_9 s_0 s_1 s_2)
theorem eR52_0 {s_0 : List TV} {s_1 : List TV} {s_2 : List TV} {r : Res} (h : S cx 52 (NR52_0 s_0 s_1 s_2) = some r) : S cx 52 (R52_0 s_0 s_1 s_2) = some r :=
  gw_of (fun call hd hb pt rg => by kernel_rfl) h
noncomputable def NR52_1 (s_0 : List TV) (s_1 : List TV) (s_2 : List TV) : Nd :=
  .amb4 
  (R52_6 s_0 s_1 s_2) 
  (R52_10 s_0 s_1 s_2) 
  (R52_11 s_0 s_1 s_2) 
  (R52_12 s_0 s_1 s_2)
theorem eR52_1 {s_0 : List TV} {s_1 : List TV} {s_2 : List TV} {r : Res} (h : S cx 52 (NR52_1 s_0 s_1 s_2) = some r) : S cx 52 (R52_1 s_0 s_1 s_2) = some r :=
  gw_of (fun call hd hb pt rg => by kernel_rfl) h
noncomputable def NR52_2 (s_0 : List TV) (s_1 : List TV) (s_2 : List TV) : Nd :=
  .amb4 
  (R52_7 s_0 s_1 s_2) 
  (R52_10 s_0 s_1 s_2) 
  (R52_13 s_0 s_1 s_2) 
  (R52_14 s_0 s_1 s_2)
theorem eR52_2 {s_0 : List TV} {s_1 : List TV} {s_2 : List TV} {r : Res} (h : S cx 52 (NR52_2 s_0 s_1 s_2) = some r) : S cx 52 (R52_2 s_0 s_1 s_2) = some r :=
  gw_of (fun call hd hb pt rg => by kernel_rfl) h
noncomputable def NR52_3 (s_0 : List TV) (s_1 : List TV) (s_2 : List TV) : Nd :=
  .amb4 
  (R52_8 s_0 s_1 s_2) 
  (R52_11 s_0 s_1 s_2) 
  (R52_13 s_0 s_1 s_2) 
  (R52_15 s_0 s_1 s_2)
theorem eR52_3 {s_0 : List TV} {s_1 : List TV} {s_2 : List TV} {r : Res} (h : S cx 52 (NR52_3 s_0 s_1 s_2) = some r) : S cx 52 (R52_3 s_0 s_1 s_2) = some r :=
  gw_of (fun call hd hb pt rg => by kernel_rfl) h
noncomputable def NR52_4 (s_0 : List TV) (s_1 : List TV) (s_2 : List TV) : Nd :=
  .amb4 
  (R52_9 s_0 s_1 s_2) 
  (R52_12 s_0 s_1 s_2) 
  (R52_14 s_0 s_1 s_2) 
  (R52_15 s_0 s_1 s_2)
theorem eR52_4 {s_0 : List TV} {s_1 : List TV} {s_2 : List TV} {r : Res} (h : S cx 52 (NR52_4 s_0 s_1 s_2) = some r) : S cx 52 (R52_4 s_0 s_1 s_2) = some r :=
  gw_of (fun call hd hb pt rg => by kernel_rfl) h
noncomputable def NR52_5 (s_0 : List TV) (s_1 : List TV) (s_2 : List TV) : Nd :=
  Z52_0 s_0 s_1 s_2
theorem eR52_5 {s_0 : List TV} {s_1 : List TV} {s_2 : List TV} {r : Res} (h : S cx 52 (NR52_5 s_0 s_1 s_2) = some r) : S cx 52 (R52_5 s_0 s_1 s_2) = some r :=
  gw_of (fun call hd hb pt rg => by kernel_rfl) h
noncomputable def NR52_6 (s_0 : List TV) (s_1 : List TV) (s_2 : List TV) : Nd :=
  .amb4 
  (.ck (decide ((0 + s_0.length) * 8 < lim)) <|
    R52_19 s_0 s_1 s_2) 
  (R52_20 s_0 s_1 s_2) 
  (R52_21 s_0 s_1 s_2) 
  (R52_22 s_0 s_1 s_2)
theorem eR52_6 {s_0 : List TV} {s_1 : List TV} {s_2 : List TV} {r : Res} (h : S cx 52 (NR52_6 s_0 s_1 s_2) = some r) : S cx 52 (R52_6 s_0 s_1 s_2) = some r :=
  gw_of (fun call hd hb pt rg => by kernel_rfl) h
noncomputable def NR52_7 (s_0 : List TV) (s_1 : List TV) (s_2 : List TV) : Nd :=
  .amb4 
  (.ck (decide ((0 + s_0.length) * 8 < lim)) <|
    R52_23 s_0 s_1 s_2) 
  (R52_20 s_0 s_1 s_2) 
  (R52_24 s_0 s_1 s_2) 
  (R52_25 s_0 s_1 s_2)
theorem eR52_7 {s_0 : List TV} {s_1 : List TV} {s_2 : List TV} {r : Res} (h : S cx 52 (NR52_7 s_0 s_1 s_2) = some r) : S cx 52 (R52_7 s_0 s_1 s_2) = some r :=
  gw_of (fun call hd hb pt rg => by kernel_rfl) h
noncomputable def NR52_8 (s_0 : List TV) (s_1 : List TV) (s_2 : List TV) : Nd :=
  .amb4 
  (.ck (decide ((0 + s_0.length) * 8 < lim)) <|
    R52_26 s_0 s_1 s_2) 
  (R52_21 s_0 s_1 s_2) 
  (R52_24 s_0 s_1 s_2) 
  (R52_27 s_0 s_1 s_2)
theorem eR52_8 {s_0 : List TV} {s_1 : List TV} {s_2 : List TV} {r : Res} (h : S cx 52 (NR52_8 s_0 s_1 s_2) = some r) : S cx 52 (R52_8 s_0 s_1 s_2) = some r :=
  gw_of (fun call hd hb pt rg => by kernel_rfl) h
noncomputable def NR52_9 (s_0 : List TV) (s_1 : List TV) (s_2 : List TV) : Nd :=
  .amb4 
  (.ck (decide ((0 + s_0.length) * 8 < lim)) <|
    R52_28 s_0 s_1 s_2) 
  (R52_22 s_0 s_1 s_2) 
  (R52_25 s_0 s_1 s_2) 
  (R52_27 s_0 s_1 s_2)
theorem eR52_9 {s_0 : List TV} {s_1 : List TV} {s_2 : List TV} {r : Res} (h : S cx 52 (NR52_9 s_0 s_1 s_2) = some r) : S cx 52 (R52_9 s_0 s_1 s_2) = some r :=
  gw_of (fun call hd hb pt rg => by kernel_rfl) h
noncomputable def NR52_10 (s_0 : List TV) (s_1 : List TV) (s_2 : List TV) : Nd :=
  .amb3 
  (R52_20 s_0 s_1 s_2) 
  (R52_29 s_0 s_1 s_2) 
  (R52_30 s_0 s_1 s_2)
theorem eR52_10 {s_0 : List TV} {s_1 : List TV} {s_2 : List TV} {r : Res} (h : S cx 52 (NR52_10 s_0 s_1 s_2) = some r) : S cx 52 (R52_10 s_0 s_1 s_2) = some r :=
  gw_of (fun call hd hb pt rg => by kernel_rfl) h
noncomputable def NR52_11 (s_0 : List TV) (s_1 : List TV) (s_2 : List TV) : Nd :=
  .amb3 
  (R52_21 s_0 s_1 s_2) 
  (R52_29 s_0 s_1 s_2) 
  (R52_31 s_0 s_1 s_2)
theorem eR52_11 {s_0 : List TV} {s_1 : List TV} {s_2 : List TV} {r : Res} (h : S cx 52 (NR52_11 s_0 s_1 s_2) = some r) : S cx 52 (R52_11 s_0 s_1 s_2) = some r :=
  gw_of (fun call hd hb pt rg => by kernel_rfl) h
noncomputable def NR52_12 (s_0 : List TV) (s_1 : List TV) (s_2 : List TV) : Nd :=
  .amb3 
  (R52_22 s_0 s_1 s_2) 
  (R52_30 s_0 s_1 s_2) 
  (R52_31 s_0 s_1 s_2)
theorem eR52_12 {s_0 : List TV} {s_1 : List TV} {s_2 : List TV} {r : Res} (h : S cx 52 (NR52_12 s_0 s_1 s_2) = some r) : S cx 52 (R52_12 s_0 s_1 s_2) = some r :=
  gw_of (fun call hd hb pt rg => by kernel_rfl) h
noncomputable def NR52_13 (s_0 : List TV) (s_1 : List TV) (s_2 : List TV) : Nd :=
  .amb3 
  (R52_24 s_0 s_1 s_2) 
  (R52_29 s_0 s_1 s_2) 
  (R52_32 s_0 s_1 s_2)
theorem eR52_13 {s_0 : List TV} {s_1 : List TV} {s_2 : List TV} {r : Res} (h : S cx 52 (NR52_13 s_0 s_1 s_2) = some r) : S cx 52 (R52_13 s_0 s_1 s_2) = some r :=
  gw_of (fun call hd hb pt rg => by kernel_rfl) h
noncomputable def NR52_14 (s_0 : List TV) (s_1 : List TV) (s_2 : List TV) : Nd :=
  .amb3 
  (R52_25 s_0 s_1 s_2) 
  (R52_30 s_0 s_1 s_2) 
  (R52_32 s_0 s_1 s_2)
theorem eR52_14 {s_0 : List TV} {s_1 : List TV} {s_2 : List TV} {r : Res} (h : S cx 52 (NR52_14 s_0 s_1 s_2) = some r) : S cx 52 (R52_14 s_0 s_1 s_2) = some r :=
  gw_of (fun call hd hb pt rg => by kernel_rfl) h
noncomputable def NR52_15 (s_0 : List TV) (s_1 : List TV) (s_2 : List TV) : Nd :=
  .amb3 
  (R52_27 s_0 s_1 s_2) 
  (R52_31 s_0 s_1 s_2) 
  (R52_32 s_0 s_1 s_2)
theorem eR52_15 {s_0 : List TV} {s_1 : List TV} {s_2 : List TV} {r : Res} (h : S cx 52 (NR52_15 s_0 s_1 s_2) = some r) : S cx 52 (R52_15 s_0 s_1 s_2) = some r :=
  gw_of (fun call hd hb pt rg => by kernel_rfl) h
noncomputable def NR52_16 (s_0 : List TV) (s_1 : List TV) (s_2 : List TV) : Nd :=
  Z52_1 s_0 s_1 s_2
theorem eR52_16 {s_0 : List TV} {s_1 : List TV} {s_2 : List TV} {r : Res} (h : S cx 52 (NR52_16 s_0 s_1 s_2) = some r) : S cx 52 (R52_16 s_0 s_1 s_2) = some r :=
  gw_of (fun call hd hb pt rg => by kernel_rfl) h
noncomputable def NR52_17 (s_0 : List TV) (s_1 : List TV) (s_2 : List TV) : Nd :=
  Z52_2 s_0 s_1 s_2
theorem eR52_17 {s_0 : List TV} {s_1 : List TV} {s_2 : List TV} {r : Res} (h : S cx 52 (NR52_17 s_0 s_1 s_2) = some r) : S cx 52 (R52_17 s_0 s_1 s_2) = some r :=
  gw_of (fun call hd hb pt rg => by kernel_rfl) h
noncomputable def NR52_18 (s_0 : List TV) (s_1 : List TV) (s_2 : List TV) : Nd :=
  Z52_3 s_0 s_1 s_2
theorem eR52_18 {s_0 : List TV} {s_1 : List TV} {s_2 : List TV} {r : Res} (h : S cx 52 (NR52_18 s_0 s_1 s_2) = some r) : S cx 52 (R52_18 s_0 s_1 s_2) = some r :=
  gw_of (fun call hd hb pt rg => by kernel_rfl) h
noncomputable def NR52_19 (s_0 : List TV) (s_1 : List TV) (s_2 : List TV) : Nd :=
  Z52_1 s_0 s_1 s_2
theorem eR52_19 {s_0 : List TV} {s_1 : List TV} {s_2 : List TV} {r : Res} (h : S cx 52 (NR52_19 s_0 s_1 s_2) = some r) : S cx 52 (R52_19 s_0 s_1 s_2) = some r :=
  gw_of (fun call hd hb pt rg => by kernel_rfl) h
noncomputable def NR52_20 (s_0 : List TV) (s_1 : List TV) (s_2 : List TV) : Nd :=
  .amb3 
  (.ck (decide ((0 + s_0.length) * 8 < lim)) <|
    R52_16 s_0 s_1 s_2) 
  (R52_37 s_0 s_1 s_2) 
  (R52_38 s_0 s_1 s_2)
theorem eR52_20 {s_0 : List TV} {s_1 : List TV} {s_2 : List TV} {r : Res} (h : S cx 52 (NR52_20 s_0 s_1 s_2) = some r) : S cx 52 (R52_20 s_0 s_1 s_2) = some r :=
  gw_of (fun call hd hb pt rg => by kernel_rfl) h
noncomputable def NR52_21 (s_0 : List TV) (s_1 : List TV) (s_2 : List TV) : Nd :=
  .amb3 
  (.ck (decide ((0 + s_0.length) * 8 < lim)) <|
    R52_39 s_0 s_1 s_2) 
  (R52_37 s_0 s_1 s_2) 
  (R52_40 s_0 s_1 s_2)
theorem eR52_21 {s_0 : List TV} {s_1 : List TV} {s_2 : List TV} {r : Res} (h : S cx 52 (NR52_21 s_0 s_1 s_2) = some r) : S cx 52 (R52_21 s_0 s_1 s_2) = some r :=
  gw_of (fun call hd hb pt rg => by kernel_rfl) h
noncomputable def NR52_22 (s_0 : List TV) (s_1 : List TV) (s_2 : List TV) : Nd :=
  .amb3 
  (.ck (decide ((0 + s_0.length) * 8 < lim)) <|
    R52_41 s_0 s_1 s_2) 
  (R52_38 s_0 s_1 s_2) 
  (R52_40 s_0 s_1 s_2)
theorem eR52_22 {s_0 : List TV} {s_1 : List TV} {s_2 : List TV} {r : Res} (h : S cx 52 (NR52_22 s_0 s_1 s_2) = some r) : S cx 52 (R52_22 s_0 s_1 s_2) = some r :=
  gw_of (fun call hd hb pt rg => by kernel_rfl) h
noncomputable def NR52_23 (s_0 : List TV) (s_1 : List TV) (s_2 : List TV) : Nd :=
  Z52_0 s_0 s_1 s_2
theorem eR52_23 {s_0 : List TV} {s_1 : List TV} {s_2 : List TV} {r : Res} (h : S cx 52 (NR52_23 s_0 s_1 s_2) = some r) : S cx 52 (R52_23 s_0 s_1 s_2) = some r :=
  gw_of (fun call hd hb pt rg => by kernel_rfl) h
noncomputable def NR52_24 (s_0 : List TV) (s_1 : List TV) (s_2 : List TV) : Nd :=
  .amb3 
  (.ck (decide ((0 + s_0.length) * 8 < lim)) <|
    R52_17 s_0 s_1 s_2) 
  (R52_37 s_0 s_1 s_2) 
  (R52_42 s_0 s_1 s_2)
theorem eR52_24 {s_0 : List TV} {s_1 : List TV} {s_2 : List TV} {r : Res} (h : S cx 52 (NR52_24 s_0 s_1 s_2) = some r) : S cx 52 (R52_24 s_0 s_1 s_2) = some r :=
  gw_of (fun call hd hb pt rg => by kernel_rfl) h
noncomputable def NR52_25 (s_0 : List TV) (s_1 : List TV) (s_2 : List TV) : Nd :=
  .amb3 
  (.ck (decide ((0 + s_0.length) * 8 < lim)) <|
    R52_18 s_0 s_1 s_2) 
  (R52_38 s_0 s_1 s_2) 
  (R52_42 s_0 s_1 s_2)
theorem eR52_25 {s_0 : List TV} {s_1 : List TV} {s_2 : List TV} {r : Res} (h : S cx 52 (NR52_25 s_0 s_1 s_2) = some r) : S cx 52 (R52_25 s_0 s_1 s_2) = some r :=
  gw_of (fun call hd hb pt rg => by kernel_rfl) h
noncomputable def NR52_26 (s_0 : List TV) (s_1 : List TV) (s_2 : List TV) : Nd :=
  Z52_2 s_0 s_1 s_2
theorem eR52_26 {s_0 : List TV} {s_1 : List TV} {s_2 : List TV} {r : Res} (h : S cx 52 (NR52_26 s_0 s_1 s_2) = some r) : S cx 52 (R52_26 s_0 s_1 s_2) = some r :=
  gw_of (fun call hd hb pt rg => by kernel_rfl) h
noncomputable def NR52_27 (s_0 : List TV) (s_1 : List TV) (s_2 : List TV) : Nd :=
  .amb3 
  (.ck (decide ((0 + s_0.length) * 8 < lim)) <|
    R52_43 s_0 s_1 s_2) 
  (R52_40 s_0 s_1 s_2) 
  (R52_42 s_0 s_1 s_2)
theorem eR52_27 {s_0 : List TV} {s_1 : List TV} {s_2 : List TV} {r : Res} (h : S cx 52 (NR52_27 s_0 s_1 s_2) = some r) : S cx 52 (R52_27 s_0 s_1 s_2) = some r :=
  gw_of (fun call hd hb pt rg => by kernel_rfl) h
noncomputable def NR52_28 (s_0 : List TV) (s_1 : List TV) (s_2 : List TV) : Nd :=
  Z52_3 s_0 s_1 s_2
theorem eR52_28 {s_0 : List TV} {s_1 : List TV} {s_2 : List TV} {r : Res} (h : S cx 52 (NR52_28 s_0 s_1 s_2) = some r) : S cx 52 (R52_28 s_0 s_1 s_2) = some r :=
  gw_of (fun call hd hb pt rg => by kernel_rfl) h
noncomputable def NR52_29 (s_0 : List TV) (s_1 : List TV) (s_2 : List TV) : Nd :=
  .amb2 
  (R52_37 s_0 s_1 s_2) 
  (R52_44 s_0 s_1 s_2)
theorem eR52_29 {s_0 : List TV} {s_1 : List TV} {s_2 : List TV} {r : Res} (h : S cx 52 (NR52_29 s_0 s_1 s_2) = some r) : S cx 52 (R52_29 s_0 s_1 s_2) = some r :=
  gw_of (fun call hd hb pt rg => by kernel_rfl) h
noncomputable def NR52_30 (s_0 : List TV) (s_1 : List TV) (s_2 : List TV) : Nd :=
  .amb2 
  (R52_38 s_0 s_1 s_2) 
  (R52_44 s_0 s_1 s_2)
theorem eR52_30 {s_0 : List TV} {s_1 : List TV} {s_2 : List TV} {r : Res} (h : S cx 52 (NR52_30 s_0 s_1 s_2) = some r) : S cx 52 (R52_30 s_0 s_1 s_2) = some r :=
  gw_of (fun call hd hb pt rg => by kernel_rfl) h
noncomputable def NR52_31 (s_0 : List TV) (s_1 : List TV) (s_2 : List TV) : Nd :=
  .amb2 
  (R52_40 s_0 s_1 s_2) 
  (R52_44 s_0 s_1 s_2)
theorem eR52_31 {s_0 : List TV} {s_1 : List TV} {s_2 : List TV} {r : Res} (h : S cx 52 (NR52_31 s_0 s_1 s_2) = some r) : S cx 52 (R52_31 s_0 s_1 s_2) = some r :=
  gw_of (fun call hd hb pt rg => by kernel_rfl) h
noncomputable def NR52_32 (s_0 : List TV) (s_1 : List TV) (s_2 : List TV) : Nd :=
  .amb2 
  (R52_42 s_0 s_1 s_2) 
  (R52_44 s_0 s_1 s_2)
theorem eR52_32 {s_0 : List TV} {s_1 : List TV} {s_2 : List TV} {r : Res} (h : S cx 52 (NR52_32 s_0 s_1 s_2) = some r) : S cx 52 (R52_32 s_0 s_1 s_2) = some r :=
  gw_of (fun call hd hb pt rg => by kernel_rfl) h
noncomputable def NR52_33 (s_0 : List TV) (s_1 : List TV) (s_2 : List TV) : Nd :=
  Z52_4 s_0 s_1 s_2
theorem eR52_33 {s_0 : List TV} {s_1 : List TV} {s_2 : List TV} {r : Res} (h : S cx 52 (NR52_33 s_0 s_1 s_2) = some r) : S cx 52 (R52_33 s_0 s_1 s_2) = some r :=
  gw_of (fun call hd hb pt rg => by kernel_rfl) h
noncomputable def NR52_34 (s_0 : List TV) (s_1 : List TV) (s_2 : List TV) : Nd :=
  Z52_5 s_0 s_1 s_2
theorem eR52_34 {s_0 : List TV} {s_1 : List TV} {s_2 : List TV} {r : Res} (h : S cx 52 (NR52_34 s_0 s_1 s_2) = some r) : S cx 52 (R52_34 s_0 s_1 s_2) = some r :=
  gw_of (fun call hd hb pt rg => by kernel_rfl) h
noncomputable def NR52_35 (s_0 : List TV) (s_1 : List TV) (s_2 : List TV) : Nd :=
  Z52_6 s_0 s_1 s_2
theorem eR52_35 {s_0 : List TV} {s_1 : List TV} {s_2 : List TV} {r : Res} (h : S cx 52 (NR52_35 s_0 s_1 s_2) = some r) : S cx 52 (R52_35 s_0 s_1 s_2) = some r :=
  gw_of (fun call hd hb pt rg => by kernel_rfl) h
noncomputable def NR52_36 (s_0 : List TV) (s_1 : List TV) (s_2 : List TV) : Nd :=
  Z52_7 s_0 s_1 s_2
theorem eR52_36 {s_0 : List TV} {s_1 : List TV} {s_2 : List TV} {r : Res} (h : S cx 52 (NR52_36 s_0 s_1 s_2) = some r) : S cx 52 (R52_36 s_0 s_1 s_2) = some r :=
  gw_of (fun call hd hb pt rg => by kernel_rfl) h
noncomputable def NR52_37 (s_0 : List TV) (s_1 : List TV) (s_2 : List TV) : Nd :=
  .amb2 
  (.ck (decide ((0 + s_0.length) * 8 < lim)) <|
    R52_34 s_0 s_1 s_2) 
  (R52_48 s_0 s_1 s_2)
theorem eR52_37 {s_0 : List TV} {s_1 : List TV} {s_2 : List TV} {r : Res} (h : S cx 52 (NR52_37 s_0 s_1 s_2) = some r) : S cx 52 (R52_37 s_0 s_1 s_2) = some r :=
  gw_of (fun call hd hb pt rg => by kernel_rfl) h
noncomputable def NR52_38 (s_0 : List TV) (s_1 : List TV) (s_2 : List TV) : Nd :=
  .amb2 
  (.ck (decide ((0 + s_0.length) * 8 < lim)) <|
    R52_35 s_0 s_1 s_2) 
  (R52_48 s_0 s_1 s_2)
theorem eR52_38 {s_0 : List TV} {s_1 : List TV} {s_2 : List TV} {r : Res} (h : S cx 52 (NR52_38 s_0 s_1 s_2) = some r) : S cx 52 (R52_38 s_0 s_1 s_2) = some r :=
  gw_of (fun call hd hb pt rg => by kernel_rfl) h
noncomputable def NR52_39 (s_0 : List TV) (s_1 : List TV) (s_2 : List TV) : Nd :=
  Z52_5 s_0 s_1 s_2
theorem eR52_39 {s_0 : List TV} {s_1 : List TV} {s_2 : List TV} {r : Res} (h : S cx 52 (NR52_39 s_0 s_1 s_2) = some r) : S cx 52 (R52_39 s_0 s_1 s_2) = some r :=
  gw_of (fun call hd hb pt rg => by kernel_rfl) h
noncomputable def NR52_40 (s_0 : List TV) (s_1 : List TV) (s_2 : List TV) : Nd :=
  .amb2 
  (.ck (decide ((0 + s_0.length) * 8 < lim)) <|
    R52_49 s_0 s_1 s_2) 
  (R52_48 s_0 s_1 s_2)
theorem eR52_40 {s_0 : List TV} {s_1 : List TV} {s_2 : List TV} {r : Res} (h : S cx 52 (NR52_40 s_0 s_1 s_2) = some r) : S cx 52 (R52_40 s_0 s_1 s_2) = some r :=
  gw_of (fun call hd hb pt rg => by kernel_rfl) h
noncomputable def NR52_41 (s_0 : List TV) (s_1 : List TV) (s_2 : List TV) : Nd :=
  Z52_6 s_0 s_1 s_2
theorem eR52_41 {s_0 : List TV} {s_1 : List TV} {s_2 : List TV} {r : Res} (h : S cx 52 (NR52_41 s_0 s_1 s_2) = some r) : S cx 52 (R52_41 s_0 s_1 s_2) = some r :=
  gw_of (fun call hd hb pt rg => by kernel_rfl) h
noncomputable def NR52_42 (s_0 : List TV) (s_1 : List TV) (s_2 : List TV) : Nd :=
  .amb2 
  (.ck (decide ((0 + s_0.length) * 8 < lim)) <|
    R52_36 s_0 s_1 s_2) 
  (R52_48 s_0 s_1 s_2)
theorem eR52_42 {s_0 : List TV} {s_1 : List TV} {s_2 : List TV} {r : Res} (h : S cx 52 (NR52_42 s_0 s_1 s_2) = some r) : S cx 52 (R52_42 s_0 s_1 s_2) = some r :=
  gw_of (fun call hd hb pt rg => by kernel_rfl) h
noncomputable def NR52_43 (s_0 : List TV) (s_1 : List TV) (s_2 : List TV) : Nd :=
  Z52_7 s_0 s_1 s_2
theorem eR52_43 {s_0 : List TV} {s_1 : List TV} {s_2 : List TV} {r : Res} (h : S cx 52 (NR52_43 s_0 s_1 s_2) = some r) : S cx 52 (R52_43 s_0 s_1 s_2) = some r :=
  gw_of (fun call hd hb pt rg => by kernel_rfl) h
noncomputable def NR52_44 (s_0 : List TV) (s_1 : List TV) (s_2 : List TV) : Nd :=
  Z52_8 s_0 s_1 s_2
theorem eR52_44 {s_0 : List TV} {s_1 : List TV} {s_2 : List TV} {r : Res} (h : S cx 52 (NR52_44 s_0 s_1 s_2) = some r) : S cx 52 (R52_44 s_0 s_1 s_2) = some r :=
  gw_of (fun call hd hb pt rg => by kernel_rfl) h
noncomputable def NR52_45 (s_0 : List TV) (s_1 : List TV) (s_2 : List TV) : Nd :=
  Z52_4 s_0 s_1 s_2
theorem eR52_45 {s_0 : List TV} {s_1 : List TV} {s_2 : List TV} {r : Res} (h : S cx 52 (NR52_45 s_0 s_1 s_2) = some r) : S cx 52 (R52_45 s_0 s_1 s_2) = some r :=
  gw_of (fun call hd hb pt rg => by kernel_rfl) h
noncomputable def NR52_46 (s_0 : List TV) (s_1 : List TV) (s_2 : List TV) : Nd :=
  Z52_7 s_0 s_1 s_2
theorem eR52_46 {s_0 : List TV} {s_1 : List TV} {s_2 : List TV} {r : Res} (h : S cx 52 (NR52_46 s_0 s_1 s_2) = some r) : S cx 52 (R52_46 s_0 s_1 s_2) = some r :=
  gw_of (fun call hd hb pt rg => by kernel_rfl) h
noncomputable def NR52_47 (s_0 : List TV) (s_1 : List TV) (s_2 : List TV) : Nd :=
  Z52_4 s_0 s_1 s_2
theorem eR52_47 {s_0 : List TV} {s_1 : List TV} {s_2 : List TV} {r : Res} (h : S cx 52 (NR52_47 s_0 s_1 s_2) = some r) : S cx 52 (R52_47 s_0 s_1 s_2) = some r :=
  gw_of (fun call hd hb pt rg => by kernel_rfl) h
noncomputable def NR52_48 (s_0 : List TV) (s_1 : List TV) (s_2 : List TV) : Nd :=
  Z52_8 s_0 s_1 s_2
theorem eR52_48 {s_0 : List TV} {s_1 : List TV} {s_2 : List TV} {r : Res} (h : S cx 52 (NR52_48 s_0 s_1 s_2) = some r) : S cx 52 (R52_48 s_0 s_1 s_2) = some r :=
  gw_of (fun call hd hb pt rg => by kernel_rfl) h
noncomputable def NR52_49 (s_0 : List TV) (s_1 : List TV) (s_2 : List TV) : Nd :=
  Z52_7 s_0 s_1 s_2
theorem eR52_49 {s_0 : List TV} {s_1 : List TV} {s_2 : List TV} {r : Res} (h : S cx 52 (NR52_49 s_0 s_1 s_2) = some r) : S cx 52 (R52_49 s_0 s_1 s_2) = some r :=
  gw_of (fun call hd hb pt rg => by kernel_rfl) h
end Go.Tree.Q

/- Trees of values: program points of functions. -/
namespace Go.Tree.Q
open Go.Proofs
set_option linter.unusedVariables false
set_option maxRecDepth 20000
noncomputable def N56 (s_0 : List TV) (s_1 : List TV) (s_2 : List TV) : Nd :=
  .bif ((((s_0.length : Nat) : Int) == 8))
  (.bif ((((s_1.length : Nat) : Int) == 16))
    (.bif (decide (((s_2.length : Nat) : Int) ≤ 100))
      (C105 s_0 fun v_8336 =>
        .bif (v_8336)
        (C105 s_1 fun v_f95a =>
          .bif (v_f95a)
          (C105 s_2 fun v_045e =>
            .ret [tb v_045e] [])
          (.ret [tb false] []))
        (.ret [tb false] []))
      (.ret [tb false] []))
    (.ret [tb false] []))
  (.ret [tb false] [])
theorem e56 {s_0 : List TV} {s_1 : List TV} {s_2 : List TV} {r : Res} (h : S cx 56 (N56 s_0 s_1 s_2) = some r) : tw cx 56 [.st [sl true ⟨1, false⟩ s_0, sl true ⟨1, false⟩ s_1, sl true ⟨1, false⟩ s_2]] = some r :=
  tw_of (fun call hd hb pt rg => by kernel_rfl) h
noncomputable def N57 (n_0 : Int) (low_1 : Int) (high_2 : Int) : Nd :=
  .bif (decide (n_0 ≥ low_1))
  (.ret [tb (decide (n_0 ≤ high_2))] [])
  (.ret [tb false] [])
theorem e57 {n_0 : Int} {low_1 : Int} {high_2 : Int} {r : Res} (h : S cx 57 (N57 n_0 low_1 high_2) = some r) : tw cx 57 [i64 n_0, i64 low_1, i64 high_2] = some r :=
  tw_of (fun call hd hb pt rg => by kernel_rfl) h
noncomputable def N58_s0 (s_1 : List TV) (s_2 : List TV) (vs_a55d : List TV) : Nd :=
  C106 s_1 fun vs_5671 =>
  C106 s_2 fun vs_e6a6 =>
  .ret [.st [sl false ⟨1, false⟩ vs_a55d, sl false ⟨1, false⟩ vs_5671, sl false ⟨1, false⟩ vs_e6a6]] []
noncomputable def N58_s1 (s_0 : List TV) (s_1 : List TV) (s_2 : List TV) : Nd :=
  C106 s_0 fun vs_a55d =>
  .amb2 
  (N58_s0 s_1 s_2 vs_a55d) 
  (N58_s0 s_1 s_2 vs_a55d)
noncomputable def N58_s2 (s_0 : List TV) (s_1 : List TV) (s_2 : List TV) : Nd :=
  C106 s_0 fun vs_a55d =>
  N58_s0 s_1 s_2 vs_a55d
noncomputable def N58 (s_0 : List TV) (s_1 : List TV) (s_2 : List TV) : Nd :=
  .amb3 
  (N58_s1 s_0 s_1 s_2) 
  (.amb2 
    (N58_s1 s_0 s_1 s_2) 
    (N58_s2 s_0 s_1 s_2)) 
  (.amb2 
    (N58_s2 s_0 s_1 s_2) 
    (N58_s2 s_0 s_1 s_2))
theorem e58 {s_0 : List TV} {s_1 : List TV} {s_2 : List TV} {r : Res} (h : S cx 58 (N58 s_0 s_1 s_2) = some r) : tw cx 58 [.st [sl true ⟨1, false⟩ s_0, sl true ⟨1, false⟩ s_1, sl true ⟨1, false⟩ s_2]] = some r :=
  tw_of (fun call hd hb pt rg => by kernel_rfl) h
noncomputable def N60 (kind_0 : Int) (test_1 : Int) (many_2 : Int) : Nd :=
  .bif ((kind_0 == 2))
  (C111 (test_1 != 0) fun v_adfd =>
    .ret [i64 (w64 ((1 : Int) - v_adfd))] [])
  (.bif ((kind_0 == 5))
    (.ret [i64 (if w64 (many_2 - 1) < test_1 then w64 (many_2 - 1) else test_1)] [])
    (.ret [i64 0] []))
theorem e60 {kind_0 : Int} {test_1 : Int} {many_2 : Int} {r : Res} (h : S cx 60 (N60 kind_0 test_1 many_2) = some r) : tw cx 60 [i64 kind_0, i64 test_1, i64 many_2] = some r :=
  tw_of (fun call hd hb pt rg => by kernel_rfl) h
noncomputable def EH69_0 (next_0 : List TV) (but_1 : List TV) (out_2 : List TV) (todo_3 : List TV) : Env := [w26 next_0, .un, w3 but_1, .un, .un, .un, .un, w10 out_2, w10 todo_3] ++ uns 53
noncomputable abbrev H69_0 (next_0 : List TV) (but_1 : List TV) (out_2 : List TV) (todo_3 : List TV) : Nd := .head [1, 1, 1, 1, 0, 1, 2] (EH69_0 next_0 but_1 out_2 todo_3)
noncomputable abbrev B69_0 (next_0 : List TV) (but_1 : List TV) (out_2 : List TV) (todo_3 : List TV) : Nd := .back [1, 1, 1, 1, 0, 1, 2] (EH69_0 next_0 but_1 out_2 todo_3)
noncomputable def EH69_1 (next_0 : List TV) (but_1 : List TV) (out_2 : List TV) (todo_3 : List TV) (v_4 : List TV) (v_5 : Int) : Env := [w26 next_0, .un, w3 but_1, .un, .un, .un, .un, w10 out_2, w10 todo_3] ++ uns 24 ++ [w3 v_4, w8 v_4, w6 v_5] ++ uns 26
noncomputable abbrev H69_1 (next_0 : List TV) (but_1 : List TV) (out_2 : List TV) (todo_3 : List TV) (v_4 : List TV) (v_5 : Int) : Nd := .head [1, 1, 1, 1, 0, 1, 2, 5, 1, 0, 2, 1, 2] (EH69_1 next_0 but_1 out_2 todo_3 v_4 v_5)
noncomputable abbrev B69_1 (next_0 : List TV) (but_1 : List TV) (out_2 : List TV) (todo_3 : List TV) (v_4 : List TV) (v_5 : Int) : Nd := .back [1, 1, 1, 1, 0, 1, 2, 5, 1, 0, 2, 1, 2] (EH69_1 next_0 but_1 out_2 todo_3 v_4 v_5)
noncomputable def EG69_2 (next_0 : List TV) (but_1 : List TV) (out_2 : List TV) (todo_3 : List TV) (k_4 : Int) (v_5 : List TV) (v_7 : Int) (v_6 : Bool) : Env := [w26 next_0, .un, w3 but_1, .un, .un, .un, .un, w10 out_2, w10 todo_3, .un, w6 k_4] ++ uns 22 ++ [w3 v_5, w8 v_5, w6 v_7] ++ uns 13 ++ [.val [] (tb v_6)] ++ uns 12
noncomputable abbrev G69_2 (next_0 : List TV) (but_1 : List TV) (out_2 : List TV) (todo_3 : List TV) (k_4 : Int) (v_5 : List TV) (v_7 : Int) (v_6 : Bool) : Nd := .go [1, 1, 1, 1, 0, 1, 2, 5, 1, 0, 2, 1, 2, 5, 1, 1, 0, 2, 1, 1] (EG69_2 next_0 but_1 out_2 todo_3 k_4 v_5 v_7 v_6)
noncomputable def N69 (next_0 : List TV) (from_1 : Int) (but_2 : List TV) : Nd :=
  .ck (decide ((0 : Int) ≤ ((next_0.length : Nat) : Int)) && decide (((next_0.length : Nat) : Int) ≤ ((next_0.length : Nat) : Int)) && decide (((next_0.length : Nat) : Int) * 1 < (lim : Int)) && decide (((next_0.length : Nat) : Int) < 9223372036854775807) && true && true) <|
  C119 but_2 from_1 fun v_82a8 =>
  .bif (v_82a8)
  (.ret [sl false ⟨1, false⟩ (List.replicate (((next_0.length : Nat) : Int).toNat) (tb false))] [])
  (.ck (decide ((0 : Int) ≤ from_1) && decide (from_1 < (((List.replicate (((next_0.length : Nat) : Int).toNat) (tb false)).length : Nat) : Int))) <|
    H69_0 next_0 but_2 ((List.replicate (((next_0.length : Nat) : Int).toNat) (tb false)).set (0 + from_1.toNat) (tb true)) ([i64 from_1]))
theorem e69 {next_0 : List TV} {from_1 : Int} {but_2 : List TV} {r : Res} (h : S cx 69 (N69 next_0 from_1 but_2) = some r) : tw cx 69 [sl true ⟨1, true⟩ next_0, i64 from_1, sl true ⟨1, false⟩ but_2] = some r :=
  tw_of (fun call hd hb pt rg => by kernel_rfl) h
noncomputable def NH69_0 (next_0 : List TV) (but_1 : List TV) (out_2 : List TV) (todo_3 : List TV) : Nd :=
  .bif (decide (((todo_3.length : Nat) : Int) > 0))
  (.ck (decide ((0 : Int) < ((todo_3.length : Nat) : Int))) <|
    .int .i64 (todo_3.getD 0 (.dead ())) fun x_eea8 =>
    .ck (decide ((0 : Int) ≤ x_eea8) && decide (x_eea8 < ((next_0.length : Nat) : Int))) <|
    .slR ⟨1, false⟩ (next_0.getD (0 + x_eea8.toNat) (.dead ())) fun xs_d681 =>
    H69_1 next_0 but_1 out_2 todo_3 xs_d681 0)
  (.ret [sl false ⟨1, false⟩ out_2] [])
theorem eH69_0 {next_0 : List TV} {but_1 : List TV} {out_2 : List TV} {todo_3 : List TV} {r : Res} (h : S cx 69 (NH69_0 next_0 but_1 out_2 todo_3) = some r) : S cx 69 (H69_0 next_0 but_1 out_2 todo_3) = some r :=
  hw_of (fun call hd hb pt rg => by kernel_rfl) h
noncomputable def NH69_1 (next_0 : List TV) (but_1 : List TV) (out_2 : List TV) (todo_3 : List TV) (v_4 : List TV) (v_5 : Int) : Nd :=
  .bif (decide (v_5 < ((v_4.length : Nat) : Int)))
  (.ck (decide ((0 : Int) ≤ v_5) && decide (v_5 < ((v_4.length : Nat) : Int))) <|
    .int .i64 (v_4.getD (0 + v_5.toNat) (.dead ())) fun x_45a3 =>
    .ck (decide ((0 : Int) ≤ x_45a3) && decide (x_45a3 < ((out_2.length : Nat) : Int))) <|
    .bool (out_2.getD (0 + x_45a3.toNat) (.dead ())) fun x_3900 =>
    .bif ((!x_3900))
    (C119 but_1 x_45a3 fun v_096f =>
      G69_2 next_0 but_1 out_2 todo_3 x_45a3 v_4 v_5 (!v_096f))
    (G69_2 next_0 but_1 out_2 todo_3 x_45a3 v_4 v_5 false))
  (.ck (decide ((1 : Int) ≤ ((todo_3.length : Nat) : Int)) && decide (((todo_3.length : Nat) : Int) ≤ ((todo_3.length : Nat) : Int))) <|
    B69_0 next_0 but_1 out_2 ((todo_3.drop 1).take ((((todo_3.length : Nat) : Int) - 1).toNat)))
theorem eH69_1 {next_0 : List TV} {but_1 : List TV} {out_2 : List TV} {todo_3 : List TV} {v_4 : List TV} {v_5 : Int} {r : Res} (h : S cx 69 (NH69_1 next_0 but_1 out_2 todo_3 v_4 v_5) = some r) : S cx 69 (H69_1 next_0 but_1 out_2 todo_3 v_4 v_5) = some r :=
  hw_of (fun call hd hb pt rg => by kernel_rfl) h
noncomputable def NG69_2 (next_0 : List TV) (but_1 : List TV) (out_2 : List TV) (todo_3 : List TV) (k_4 : Int) (v_5 : List TV) (v_7 : Int) (v_6 : Bool) : Nd :=
  .bif (v_6)
  (.ck (decide ((0 : Int) ≤ k_4) && decide (k_4 < ((out_2.length : Nat) : Int))) <|
    .ck (decide ((todo_3.length + ([i64 k_4] : List TV).length) * 8 < lim)) <|
    B69_1 next_0 but_1 (out_2.set (0 + k_4.toNat) (tb true)) (todo_3 ++ ([i64 k_4])) v_5 (w64 (v_7 + 1)))
  (B69_1 next_0 but_1 out_2 todo_3 v_5 (w64 (v_7 + 1)))
theorem eG69_2 {next_0 : List TV} {but_1 : List TV} {out_2 : List TV} {todo_3 : List TV} {k_4 : Int} {v_5 : List TV} {v_7 : Int} {v_6 : Bool} {r : Res} (h : S cx 69 (NG69_2 next_0 but_1 out_2 todo_3 k_4 v_5 v_7 v_6) = some r) : S cx 69 (G69_2 next_0 but_1 out_2 todo_3 k_4 v_5 v_7 v_6) = some r :=
  pw_of (fun call hd hb pt rg => by kernel_rfl) h
noncomputable def N77 (l_0 : List TV) (many_1 : Int) : Nd :=
  .bif (decide (((l_0.length : Nat) : Int) ≤ 60))
  (C122 l_0 many_1 fun v_be86 =>
    .ret [tb (!v_be86)] [])
  (.ret [tb false] [])
theorem e77 {l_0 : List TV} {many_1 : Int} {r : Res} (h : S cx 77 (N77 l_0 many_1) = some r) : tw cx 77 [sl true ⟨6, false⟩ l_0, i64 many_1] = some r :=
  tw_of (fun call hd hb pt rg => by kernel_rfl) h
noncomputable def N78_s0 (kind_0 : Int) (next_2 : List TV) (blocks_4 : Int) : Nd :=
  C126 next_2 blocks_4 fun v_519b =>
  .bif (v_519b)
  (.ret [tb false] [])
  (.bif ((kind_0 == 1))
    (.ret [tb (((next_2.length : Nat) : Int) == 1)] [])
    (.bif ((kind_0 == 2))
      (.ret [tb (((next_2.length : Nat) : Int) == 2)] [])
      (.bif ((kind_0 == 5))
        (C57 ((next_2.length : Nat) : Int) 2 6 fun v_c270 =>
          .ret [tb v_c270] [])
        (.bif ((kind_0 == 3))
          (.ret [tb (((next_2.length : Nat) : Int) == 0)] [])
          (.bif ((kind_0 == 4))
            (.ret [tb (((next_2.length : Nat) : Int) == 0)] [])
            (.ret [tb false] []))))))
noncomputable def N78_s1 (kind_0 : Int) (test_1 : Int) (next_2 : List TV) (blocks_4 : Int) : Nd :=
  C125 kind_0 fun v_38ce =>
  .bif ((!v_38ce))
  (.bif ((test_1 != 0))
    (.ret [tb false] [])
    (N78_s0 kind_0 next_2 blocks_4))
  (N78_s0 kind_0 next_2 blocks_4)
noncomputable def N78 (kind_0 : Int) (test_1 : Int) (next_2 : List TV) (many_3 : Int) (blocks_4 : Int) : Nd :=
  C125 kind_0 fun v_a287 =>
  .bif (v_a287)
  (C57 test_1 0 (w64 (many_3 - 1)) fun v_4ce0 =>
    .bif ((!v_4ce0))
    (.ret [tb false] [])
    (N78_s1 kind_0 test_1 next_2 blocks_4))
  (N78_s1 kind_0 test_1 next_2 blocks_4)
theorem e78 {kind_0 : Int} {test_1 : Int} {next_2 : List TV} {many_3 : Int} {blocks_4 : Int} {r : Res} (h : S cx 78 (N78 kind_0 test_1 next_2 many_3 blocks_4) = some r) : tw cx 78 [i64 kind_0, i64 test_1, sl true ⟨1, false⟩ next_2, i64 many_3, i64 blocks_4] = some r :=
  tw_of (fun call hd hb pt rg => by kernel_rfl) h
noncomputable def N79 (a_0 : List TV) (a_1 : List TV) (a_2 : Int) (a_3 : Int) (a_4 : List TV) (a_5 : List TV) (left_6 : Int) : Nd :=
  C42 a_0 left_6 fun v_7630 =>
  .bif (decide (v_7630 < 0))
  (.ret [i64 (-1)] [])
  (C128 a_1 v_7630 fun v_7300 =>
    .bif (decide (v_7300 < 0))
    (.ret [i64 (-1)] [])
    (C42 a_4 v_7300 fun v_243e =>
      .bif (decide (v_243e < 0))
      (.ret [i64 (-1)] [])
      (C129 a_5 v_243e fun v_e4ef =>
        .bif (decide (v_e4ef < 0))
        (.ret [i64 (-1)] [])
        (.ret [i64 v_e4ef] []))))
theorem e79 {a_0 : List TV} {a_1 : List TV} {a_2 : Int} {a_3 : Int} {a_4 : List TV} {a_5 : List TV} {left_6 : Int} {r : Res} (h : S cx 79 (N79 a_0 a_1 a_2 a_3 a_4 a_5 left_6) = some r) : tw cx 79 [.st [sl true ⟨1, false⟩ a_0, sl true ⟨6, false⟩ a_1, i64 a_2, i64 a_3, sl true ⟨1, false⟩ a_4, sl true ⟨1, true⟩ a_5], i64 left_6] = some r :=
  tw_of (fun call hd hb pt rg => by kernel_rfl) h
noncomputable def N80 (n_0 : Int) (lo_1 : Int) (hi_2 : Int) : Nd :=
  .bif (decide (n_0 ≥ lo_1))
  (.ret [tb (decide (n_0 ≤ hi_2))] [])
  (.ret [tb false] [])
theorem e80 {n_0 : Int} {lo_1 : Int} {hi_2 : Int} {r : Res} (h : S cx 80 (N80 n_0 lo_1 hi_2) = some r) : tw cx 80 [i64 n_0, i64 lo_1, i64 hi_2] = some r :=
  tw_of (fun call hd hb pt rg => by kernel_rfl) h
noncomputable def EH81_0 (s_0 : List TV) (s_1 : Int) (p_2 : List TV) (p_3 : List TV) (p_4 : Int) (p_5 : Int) (p_6 : List TV) (p_7 : List TV) (v_8 : Int) : Env := [.un, .un, w0 s_0 s_1, w20 p_2 p_3 p_4 p_5 p_6 p_7] ++ uns 8 ++ [w25 p_3, w8 p_3, w6 v_8] ++ uns 172
noncomputable abbrev H81_0 (s_0 : List TV) (s_1 : Int) (p_2 : List TV) (p_3 : List TV) (p_4 : Int) (p_5 : Int) (p_6 : List TV) (p_7 : List TV) (v_8 : Int) : Nd := .head [1, 0, 1, 2] (EH81_0 s_0 s_1 p_2 p_3 p_4 p_5 p_6 p_7 v_8)
noncomputable abbrev B81_0 (s_0 : List TV) (s_1 : Int) (p_2 : List TV) (p_3 : List TV) (p_4 : Int) (p_5 : Int) (p_6 : List TV) (p_7 : List TV) (v_8 : Int) : Nd := .back [1, 0, 1, 2] (EH81_0 s_0 s_1 p_2 p_3 p_4 p_5 p_6 p_7 v_8)
noncomputable def EH81_1 (s_0 : List TV) (s_1 : Int) (p_2 : List TV) (p_3 : List TV) (p_4 : Int) (p_5 : Int) (p_6 : List TV) (p_7 : List TV) (v_8 : Int) : Env := [.un, .un, w0 s_0 s_1, w20 p_2 p_3 p_4 p_5 p_6 p_7] ++ uns 159 ++ [w3 p_6, w8 p_6, w6 v_8] ++ uns 21
noncomputable abbrev H81_1 (s_0 : List TV) (s_1 : Int) (p_2 : List TV) (p_3 : List TV) (p_4 : Int) (p_5 : Int) (p_6 : List TV) (p_7 : List TV) (v_8 : Int) : Nd := .head [1, 1, 1, 1, 1, 1, 0, 1, 2] (EH81_1 s_0 s_1 p_2 p_3 p_4 p_5 p_6 p_7 v_8)
noncomputable abbrev B81_1 (s_0 : List TV) (s_1 : Int) (p_2 : List TV) (p_3 : List TV) (p_4 : Int) (p_5 : Int) (p_6 : List TV) (p_7 : List TV) (v_8 : Int) : Nd := .back [1, 1, 1, 1, 1, 1, 0, 1, 2] (EH81_1 s_0 s_1 p_2 p_3 p_4 p_5 p_6 p_7 v_8)
noncomputable def N81 (s_0 : List TV) (s_1 : Int) (p_2 : List TV) (p_3 : List TV) (p_4 : Int) (p_5 : Int) (p_6 : List TV) (p_7 : List TV) : Nd :=
  H81_0 s_0 s_1 p_2 p_3 p_4 p_5 p_6 p_7 0
theorem e81 {s_0 : List TV} {s_1 : Int} {p_2 : List TV} {p_3 : List TV} {p_4 : Int} {p_5 : Int} {p_6 : List TV} {p_7 : List TV} {r : Res} (h : S cx 81 (N81 s_0 s_1 p_2 p_3 p_4 p_5 p_6 p_7) = some r) : tw cx 81 [.st [sl true ⟨6, true⟩ s_0, i64 s_1], .st [sl true ⟨1, false⟩ p_2, sl true ⟨6, false⟩ p_3, i64 p_4, i64 p_5, sl true ⟨1, false⟩ p_6, sl true ⟨1, true⟩ p_7]] = some r :=
  tw_of (fun call hd hb pt rg => by kernel_rfl) h
noncomputable def NH81_0_s0 (s_0 : List TV) (s_1 : Int) (p_2 : List TV) (p_3 : List TV) (p_4 : Int) (p_5 : Int) (p_6 : List TV) (p_7 : List TV) (v_8 : Int) (op_52fc : Int) (b_55f7 : Int) : Nd :=
  .bif ((op_52fc != 3))
  (.bif ((op_52fc != 5))
    (.bif ((b_55f7 != 0))
      (.ret [tb false] [])
      (B81_0 s_0 s_1 p_2 p_3 p_4 p_5 p_6 p_7 (w64 (v_8 + 1))))
    (B81_0 s_0 s_1 p_2 p_3 p_4 p_5 p_6 p_7 (w64 (v_8 + 1))))
  (B81_0 s_0 s_1 p_2 p_3 p_4 p_5 p_6 p_7 (w64 (v_8 + 1)))
noncomputable def NH81_0_s1 (s_0 : List TV) (s_1 : Int) (p_2 : List TV) (p_3 : List TV) (p_4 : Int) (p_5 : Int) (p_6 : List TV) (p_7 : List TV) (v_8 : Int) (op_52fc : Int) (a_2a74 : Int) (b_55f7 : Int) : Nd :=
  .bif ((op_52fc == 1))
  (.bif ((a_2a74 != 0))
    (.ret [tb false] [])
    (NH81_0_s0 s_0 s_1 p_2 p_3 p_4 p_5 p_6 p_7 v_8 op_52fc b_55f7))
  (NH81_0_s0 s_0 s_1 p_2 p_3 p_4 p_5 p_6 p_7 v_8 op_52fc b_55f7)
noncomputable def NH81_0_s2 (s_0 : List TV) (s_1 : Int) (p_2 : List TV) (p_3 : List TV) (p_4 : Int) (p_5 : Int) (p_6 : List TV) (p_7 : List TV) : Nd :=
  C112 ([]) p_4 0 p_6 ((s_0.length : Nat) : Int) fun v_e019 =>
  .bif ((!v_e019))
  (.ret [tb false] [])
  (.bif (decide (((p_3.length : Nat) : Int) > 60))
    (.ret [tb false] [])
    (.bif ((p_4 == 3))
      (.bif ((((p_7.length : Nat) : Int) == 1))
        (.ck (decide ((0 : Int) < ((p_7.length : Nat) : Int))) <|
          .slR ⟨1, false⟩ (p_7.getD 0 (.dead ())) fun xs_c20a =>
          .ret [tb (((xs_c20a.length : Nat) : Int) == 3)] [])
        (.ret [tb false] []))
      (.bif ((((p_7.length : Nat) : Int) != ((p_6.length : Nat) : Int)))
        (.ret [tb false] [])
        (H81_1 s_0 s_1 p_2 p_3 p_4 p_5 p_6 p_7 0))))
noncomputable def NH81_0_s3 (s_0 : List TV) (s_1 : Int) (p_2 : List TV) (p_3 : List TV) (p_4 : Int) (p_5 : Int) (p_6 : List TV) (p_7 : List TV) : Nd :=
  .bif ((p_4 != 2))
  (.bif ((p_4 != 5))
    (.bif ((p_5 != 0))
      (.ret [tb false] [])
      (NH81_0_s2 s_0 s_1 p_2 p_3 p_4 p_5 p_6 p_7))
    (NH81_0_s2 s_0 s_1 p_2 p_3 p_4 p_5 p_6 p_7))
  (NH81_0_s2 s_0 s_1 p_2 p_3 p_4 p_5 p_6 p_7)
noncomputable def NH81_0_s4 (s_0 : List TV) (s_1 : Int) (p_2 : List TV) (p_3 : List TV) (p_4 : Int) (p_5 : Int) (p_6 : List TV) (p_7 : List TV) : Nd :=
  C80 p_5 0 (w64 (s_1 - 1)) fun v_5857 =>
  .bif ((!v_5857))
  (.ret [tb false] [])
  (NH81_0_s3 s_0 s_1 p_2 p_3 p_4 p_5 p_6 p_7)
noncomputable def NH81_0 (s_0 : List TV) (s_1 : Int) (p_2 : List TV) (p_3 : List TV) (p_4 : Int) (p_5 : Int) (p_6 : List TV) (p_7 : List TV) (v_8 : Int) : Nd :=
  .bif (decide (v_8 < ((p_3.length : Nat) : Int)))
  (.ck (decide ((0 : Int) ≤ v_8) && decide (v_8 < ((p_3.length : Nat) : Int))) <|
    V6_1 (p_3.getD (0 + v_8.toNat) (.dead ())) fun op_52fc do_ecbc dst_c7ef a_2a74 b_55f7 n_60cb =>
    C130 op_52fc do_ecbc 0 0 0 n_60cb fun v_fa64 =>
    .bif ((!v_fa64))
    (.ret [tb false] [])
    (C80 dst_c7ef 0 (w64 (s_1 - 1)) fun v_7458 =>
      .bif ((!v_7458))
      (.ret [tb false] [])
      (C80 a_2a74 0 (w64 (s_1 - 1)) fun v_561b =>
        .bif ((!v_561b))
        (.ret [tb false] [])
        (C80 b_55f7 0 (w64 (s_1 - 1)) fun v_78e6 =>
          .bif ((!v_78e6))
          (.ret [tb false] [])
          (C87 op_52fc fun v_413a =>
            .bif ((!v_413a))
            (.bif ((dst_c7ef != 0))
              (.ret [tb false] [])
              (NH81_0_s1 s_0 s_1 p_2 p_3 p_4 p_5 p_6 p_7 v_8 op_52fc a_2a74 b_55f7))
            (NH81_0_s1 s_0 s_1 p_2 p_3 p_4 p_5 p_6 p_7 v_8 op_52fc a_2a74 b_55f7))))))
  (.bif ((p_4 == 2))
    (NH81_0_s4 s_0 s_1 p_2 p_3 p_4 p_5 p_6 p_7)
    (.bif ((p_4 == 5))
      (NH81_0_s4 s_0 s_1 p_2 p_3 p_4 p_5 p_6 p_7)
      (NH81_0_s3 s_0 s_1 p_2 p_3 p_4 p_5 p_6 p_7)))
theorem eH81_0 {s_0 : List TV} {s_1 : Int} {p_2 : List TV} {p_3 : List TV} {p_4 : Int} {p_5 : Int} {p_6 : List TV} {p_7 : List TV} {v_8 : Int} {r : Res} (h : S cx 81 (NH81_0 s_0 s_1 p_2 p_3 p_4 p_5 p_6 p_7 v_8) = some r) : S cx 81 (H81_0 s_0 s_1 p_2 p_3 p_4 p_5 p_6 p_7 v_8) = some r :=
  hw_of (fun call hd hb pt rg => by kernel_rfl) h
noncomputable def NH81_1 (s_0 : List TV) (s_1 : Int) (p_2 : List TV) (p_3 : List TV) (p_4 : Int) (p_5 : Int) (p_6 : List TV) (p_7 : List TV) (v_8 : Int) : Nd :=
  .bif (decide (v_8 < ((p_6.length : Nat) : Int)))
  (.ck (decide ((0 : Int) ≤ v_8) && decide (v_8 < ((p_6.length : Nat) : Int))) <|
    .int .i64 (p_6.getD (0 + v_8.toNat) (.dead ())) fun x_198e =>
    .ck (decide ((0 : Int) ≤ v_8) && decide (v_8 < ((p_7.length : Nat) : Int))) <|
    .slR ⟨1, false⟩ (p_7.getD (0 + v_8.toNat) (.dead ())) fun xs_597a =>
    .ck (decide ((0 : Int) ≤ x_198e) && decide (x_198e < ((s_0.length : Nat) : Int))) <|
    V6 (s_0.getD (0 + x_198e.toNat) (.dead ())) fun paramss_c7f6 codes_f6c6 go_5f17 test_e6e7 nexts_8dc5 argss_e47b =>
    .bif ((((xs_597a.length : Nat) : Int) != ((paramss_c7f6.length : Nat) : Int)))
    (.ret [tb false] [])
    (B81_1 s_0 s_1 p_2 p_3 p_4 p_5 p_6 p_7 (w64 (v_8 + 1))))
  (.ret [tb true] [])
theorem eH81_1 {s_0 : List TV} {s_1 : Int} {p_2 : List TV} {p_3 : List TV} {p_4 : Int} {p_5 : Int} {p_6 : List TV} {p_7 : List TV} {v_8 : Int} {r : Res} (h : S cx 81 (NH81_1 s_0 s_1 p_2 p_3 p_4 p_5 p_6 p_7 v_8) = some r) : S cx 81 (H81_1 s_0 s_1 p_2 p_3 p_4 p_5 p_6 p_7 v_8) = some r :=
  hw_of (fun call hd hb pt rg => by kernel_rfl) h
noncomputable def EH82_0 (s_0 : List TV) (s_1 : Int) (defs_2 : List TV) (v_3 : Int) : Env := [.un, w0 s_0 s_1, .un, .un, w10 defs_2, w6 v_3] ++ uns 78
noncomputable abbrev H82_0 (s_0 : List TV) (s_1 : Int) (defs_2 : List TV) (v_3 : Int) : Nd := .head [1, 1, 0, 1, 2] (EH82_0 s_0 s_1 defs_2 v_3)
noncomputable abbrev B82_0 (s_0 : List TV) (s_1 : Int) (defs_2 : List TV) (v_3 : Int) : Nd := .back [1, 1, 0, 1, 2] (EH82_0 s_0 s_1 defs_2 v_3)
noncomputable def EH82_1 (s_0 : List TV) (s_1 : Int) (defs_3 : List TV) (v_2 : Int) : Env := [.un, w0 s_0 s_1, .un, .un, w10 defs_3] ++ uns 23 ++ [w24 s_0, w8 s_0, w6 v_2] ++ uns 53
noncomputable abbrev H82_1 (s_0 : List TV) (s_1 : Int) (defs_3 : List TV) (v_2 : Int) : Nd := .head [1, 1, 1, 0, 1, 2] (EH82_1 s_0 s_1 defs_3 v_2)
noncomputable abbrev B82_1 (s_0 : List TV) (s_1 : Int) (defs_3 : List TV) (v_2 : Int) : Nd := .back [1, 1, 1, 0, 1, 2] (EH82_1 s_0 s_1 defs_3 v_2)
noncomputable def EH82_2 (s_0 : List TV) (s_1 : Int) (defs_5 : List TV) (k_6 : Int) (l_3 : List TV) (v_7 : Int) (v_2 : List TV) (v_4 : Int) : Env := [.un, w0 s_0 s_1, .un, .un, w10 defs_5, .un, w6 k_6, .un, w10 l_3] ++ uns 19 ++ [w24 s_0, w8 s_0, w6 v_7] ++ uns 9 ++ [w25 v_2, w8 v_2, w6 v_4] ++ uns 41
noncomputable abbrev H82_2 (s_0 : List TV) (s_1 : Int) (defs_5 : List TV) (k_6 : Int) (l_3 : List TV) (v_7 : Int) (v_2 : List TV) (v_4 : Int) : Nd := .head [1, 1, 1, 0, 1, 2, 5, 1, 1, 0, 2, 1, 1, 0, 1, 2] (EH82_2 s_0 s_1 defs_5 k_6 l_3 v_7 v_2 v_4)
noncomputable abbrev B82_2 (s_0 : List TV) (s_1 : Int) (defs_5 : List TV) (k_6 : Int) (l_3 : List TV) (v_7 : Int) (v_2 : List TV) (v_4 : Int) : Nd := .back [1, 1, 1, 0, 1, 2, 5, 1, 1, 0, 2, 1, 1, 0, 1, 2] (EH82_2 s_0 s_1 defs_5 k_6 l_3 v_7 v_2 v_4)
noncomputable def EH82_3 (s_0 : List TV) (s_1 : Int) (defs_3 : List TV) (k_5 : Int) (l_2 : List TV) (v_6 : Int) (v_4 : Int) : Env := [.un, w0 s_0 s_1, .un, .un, w10 defs_3, .un, w6 k_5, .un, w10 l_2] ++ uns 19 ++ [w24 s_0, w8 s_0, w6 v_6] ++ uns 24 ++ [.ref 8 [] none 25 false, w8 l_2, w6 v_4] ++ uns 26
noncomputable abbrev H82_3 (s_0 : List TV) (s_1 : Int) (defs_3 : List TV) (k_5 : Int) (l_2 : List TV) (v_6 : Int) (v_4 : Int) : Nd := .head [1, 1, 1, 0, 1, 2, 5, 1, 1, 0, 2, 1, 1, 1, 1, 2] (EH82_3 s_0 s_1 defs_3 k_5 l_2 v_6 v_4)
noncomputable abbrev B82_3 (s_0 : List TV) (s_1 : Int) (defs_3 : List TV) (k_5 : Int) (l_2 : List TV) (v_6 : Int) (v_4 : Int) : Nd := .back [1, 1, 1, 0, 1, 2, 5, 1, 1, 0, 2, 1, 1, 1, 1, 2] (EH82_3 s_0 s_1 defs_3 k_5 l_2 v_6 v_4)
noncomputable def N82 (s_0 : List TV) (s_1 : Int) : Nd :=
  H82_0 s_0 s_1 ([]) 0
theorem e82 {s_0 : List TV} {s_1 : Int} {r : Res} (h : S cx 82 (N82 s_0 s_1) = some r) : tw cx 82 [.st [sl true ⟨6, true⟩ s_0, i64 s_1]] = some r :=
  tw_of (fun call hd hb pt rg => by kernel_rfl) h
noncomputable def NH82_0 (s_0 : List TV) (s_1 : Int) (defs_2 : List TV) (v_3 : Int) : Nd :=
  .bif (decide (v_3 < s_1))
  (.bif (decide (v_3 < 12))
    (.ck (decide ((defs_2.length + ([i64 0] : List TV).length) * 8 < lim)) <|
      B82_0 s_0 s_1 (defs_2 ++ ([i64 0])) (w64 (v_3 + 1)))
    (.ck (decide ((defs_2.length + ([i64 (-1)] : List TV).length) * 8 < lim)) <|
      B82_0 s_0 s_1 (defs_2 ++ ([i64 (-1)])) (w64 (v_3 + 1))))
  (H82_1 s_0 s_1 defs_2 0)
theorem eH82_0 {s_0 : List TV} {s_1 : Int} {defs_2 : List TV} {v_3 : Int} {r : Res} (h : S cx 82 (NH82_0 s_0 s_1 defs_2 v_3) = some r) : S cx 82 (H82_0 s_0 s_1 defs_2 v_3) = some r :=
  hw_of (fun call hd hb pt rg => by kernel_rfl) h
noncomputable def NH82_1 (s_0 : List TV) (s_1 : Int) (defs_3 : List TV) (v_2 : Int) : Nd :=
  .bif (decide (v_2 < ((s_0.length : Nat) : Int)))
  (.ck (decide ((0 : Int) ≤ v_2) && decide (v_2 < ((s_0.length : Nat) : Int))) <|
    V6 (s_0.getD (0 + v_2.toNat) (.dead ())) fun paramss_8b58 codes_4c93 go_cb23 test_3564 nexts_69c3 argss_0e25 =>
    .ck (decide ((0 + paramss_8b58.length) * 8 < lim)) <|
    H82_2 s_0 s_1 defs_3 v_2 (([]) ++ paramss_8b58) v_2 codes_4c93 0)
  (.ret [sl false ⟨1, false⟩ defs_3, tb true] [])
theorem eH82_1 {s_0 : List TV} {s_1 : Int} {defs_3 : List TV} {v_2 : Int} {r : Res} (h : S cx 82 (NH82_1 s_0 s_1 defs_3 v_2) = some r) : S cx 82 (H82_1 s_0 s_1 defs_3 v_2) = some r :=
  hw_of (fun call hd hb pt rg => by kernel_rfl) h
noncomputable def NH82_2 (s_0 : List TV) (s_1 : Int) (defs_5 : List TV) (k_6 : Int) (l_3 : List TV) (v_7 : Int) (v_2 : List TV) (v_4 : Int) : Nd :=
  .bif (decide (v_4 < ((v_2.length : Nat) : Int)))
  (.ck (decide ((0 : Int) ≤ v_4) && decide (v_4 < ((v_2.length : Nat) : Int))) <|
    V6_1 (v_2.getD (0 + v_4.toNat) (.dead ())) fun op_c8ce do_bb05 dst_7f02 a_9f67 b_1df2 n_9417 =>
    C87 op_c8ce fun v_7541 =>
    .bif (v_7541)
    (.ck (decide ((l_3.length + ([i64 dst_7f02] : List TV).length) * 8 < lim)) <|
      B82_2 s_0 s_1 defs_5 k_6 (l_3 ++ ([i64 dst_7f02])) v_7 v_2 (w64 (v_4 + 1)))
    (B82_2 s_0 s_1 defs_5 k_6 l_3 v_7 v_2 (w64 (v_4 + 1))))
  (H82_3 s_0 s_1 defs_5 k_6 l_3 v_7 0)
theorem eH82_2 {s_0 : List TV} {s_1 : Int} {defs_5 : List TV} {k_6 : Int} {l_3 : List TV} {v_7 : Int} {v_2 : List TV} {v_4 : Int} {r : Res} (h : S cx 82 (NH82_2 s_0 s_1 defs_5 k_6 l_3 v_7 v_2 v_4) = some r) : S cx 82 (H82_2 s_0 s_1 defs_5 k_6 l_3 v_7 v_2 v_4) = some r :=
  hw_of (fun call hd hb pt rg => by kernel_rfl) h
noncomputable def NH82_3 (s_0 : List TV) (s_1 : Int) (defs_3 : List TV) (k_5 : Int) (l_2 : List TV) (v_6 : Int) (v_4 : Int) : Nd :=
  .bif (decide (v_4 < ((l_2.length : Nat) : Int)))
  (.ck (decide ((0 : Int) ≤ v_4) && decide (v_4 < ((l_2.length : Nat) : Int))) <|
    .int .i64 (l_2.getD (0 + v_4.toNat) (.dead ())) fun x_93b4 =>
    .bif (decide (x_93b4 < 0))
    (.ret [sl false ⟨1, false⟩ ([]), tb false] [])
    (.bif (decide (x_93b4 ≥ s_1))
      (.ret [sl false ⟨1, false⟩ ([]), tb false] [])
      (.ck (decide ((0 : Int) ≤ x_93b4) && decide (x_93b4 < ((defs_3.length : Nat) : Int))) <|
        .int .i64 (defs_3.getD (0 + x_93b4.toNat) (.dead ())) fun x_114d =>
        .bif (decide (x_114d ≥ 0))
        (.ret [sl false ⟨1, false⟩ ([]), tb false] [])
        (.ck (decide ((0 : Int) ≤ x_93b4) && decide (x_93b4 < ((defs_3.length : Nat) : Int))) <|
          B82_3 s_0 s_1 (defs_3.set (0 + x_93b4.toNat) (i64 k_5)) k_5 l_2 v_6 (w64 (v_4 + 1))))))
  (B82_1 s_0 s_1 defs_3 (w64 (v_6 + 1)))
theorem eH82_3 {s_0 : List TV} {s_1 : Int} {defs_3 : List TV} {k_5 : Int} {l_2 : List TV} {v_6 : Int} {v_4 : Int} {r : Res} (h : S cx 82 (NH82_3 s_0 s_1 defs_3 k_5 l_2 v_6 v_4) = some r) : S cx 82 (H82_3 s_0 s_1 defs_3 k_5 l_2 v_6 v_4) = some r :=
  hw_of (fun call hd hb pt rg => by kernel_rfl) h
noncomputable def EH83_0 (g_1 : List TV) (v_0 : List TV) (v_2 : Int) : Env := [.un, .un, .val [] (.pt false () (.st [sl false ⟨1, true⟩ ([])])), w31 g_1, .un, .un, .un, .un, .un, .un, w24 v_0, w8 v_0, w6 v_2] ++ uns 23
noncomputable abbrev H83_0 (g_1 : List TV) (v_0 : List TV) (v_2 : Int) : Nd := .head [1, 1, 0, 1, 2] (EH83_0 g_1 v_0 v_2)
noncomputable abbrev B83_0 (g_1 : List TV) (v_0 : List TV) (v_2 : Int) : Nd := .back [1, 1, 0, 1, 2] (EH83_0 g_1 v_0 v_2)
noncomputable def EH83_1 (g_4 : List TV) (l_2 : List TV) (v_0 : List TV) (v_5 : Int) (v_1 : List TV) (v_3 : Int) : Env := [.un, .un, .val [] (.pt false () (.st [sl false ⟨1, true⟩ ([])])), w31 g_4, .un, .un, w10 l_2, .un, .un, .un, w24 v_0, w8 v_0, w6 v_5, .un, .un, .un, .un, w3 v_1, w8 v_1, w6 v_3] ++ uns 16
noncomputable abbrev H83_1 (g_4 : List TV) (l_2 : List TV) (v_0 : List TV) (v_5 : Int) (v_1 : List TV) (v_3 : Int) : Nd := .head [1, 1, 0, 1, 2, 5, 1, 1, 0, 2, 1, 1, 0, 1, 2] (EH83_1 g_4 l_2 v_0 v_5 v_1 v_3)
noncomputable abbrev B83_1 (g_4 : List TV) (l_2 : List TV) (v_0 : List TV) (v_5 : Int) (v_1 : List TV) (v_3 : Int) : Nd := .back [1, 1, 0, 1, 2, 5, 1, 1, 0, 2, 1, 1, 0, 1, 2] (EH83_1 g_4 l_2 v_0 v_5 v_1 v_3)
noncomputable def N83 (s_0 : List TV) (s_1 : Int) : Nd :=
  H83_0 ([]) s_0 0
theorem e83 {s_0 : List TV} {s_1 : Int} {r : Res} (h : S cx 83 (N83 s_0 s_1) = some r) : tw cx 83 [.st [sl true ⟨6, true⟩ s_0, i64 s_1]] = some r :=
  tw_of (fun call hd hb pt rg => by kernel_rfl) h
noncomputable def NH83_0 (g_1 : List TV) (v_0 : List TV) (v_2 : Int) : Nd :=
  .bif (decide (v_2 < ((v_0.length : Nat) : Int)))
  (.ck (decide ((0 : Int) ≤ v_2) && decide (v_2 < ((v_0.length : Nat) : Int))) <|
    V6 (v_0.getD (0 + v_2.toNat) (.dead ())) fun paramss_a138 codes_b636 go_b5f0 test_b543 nexts_0a51 argss_5544 =>
    H83_1 g_1 ([]) v_0 v_2 nexts_0a51 0)
  (.ret [.st [sl false ⟨1, true⟩ g_1]] [])
theorem eH83_0 {g_1 : List TV} {v_0 : List TV} {v_2 : Int} {r : Res} (h : S cx 83 (NH83_0 g_1 v_0 v_2) = some r) : S cx 83 (H83_0 g_1 v_0 v_2) = some r :=
  hw_of (fun call hd hb pt rg => by kernel_rfl) h
noncomputable def NH83_1 (g_4 : List TV) (l_2 : List TV) (v_0 : List TV) (v_5 : Int) (v_1 : List TV) (v_3 : Int) : Nd :=
  .bif (decide (v_3 < ((v_1.length : Nat) : Int)))
  (.ck (decide ((0 : Int) ≤ v_3) && decide (v_3 < ((v_1.length : Nat) : Int))) <|
    .int .i64 (v_1.getD (0 + v_3.toNat) (.dead ())) fun x_c303 =>
    C120 l_2 x_c303 fun vs_a30b =>
    B83_1 g_4 vs_a30b v_0 v_5 v_1 (w64 (v_3 + 1)))
  (.ck (decide ((g_4.length + ([sl false ⟨1, false⟩ l_2] : List TV).length) * 24 < lim)) <|
    B83_0 (g_4 ++ ([sl false ⟨1, false⟩ l_2])) v_0 (w64 (v_5 + 1)))
theorem eH83_1 {g_4 : List TV} {l_2 : List TV} {v_0 : List TV} {v_5 : Int} {v_1 : List TV} {v_3 : Int} {r : Res} (h : S cx 83 (NH83_1 g_4 l_2 v_0 v_5 v_1 v_3) = some r) : S cx 83 (H83_1 g_4 l_2 v_0 v_5 v_1 v_3) = some r :=
  hw_of (fun call hd hb pt rg => by kernel_rfl) h
noncomputable def EH84_0 (g_0 : List TV) (out_3 : List TV) (reach_1 : List TV) (v_2 : Int) : Env := [.un, w30 g_0, .un, w18 out_3, w10 reach_1] ++ uns 12 ++ [w8 g_0, w6 v_2] ++ uns 33
noncomputable abbrev H84_0 (g_0 : List TV) (out_3 : List TV) (reach_1 : List TV) (v_2 : Int) : Nd := .head [1, 1, 1, 0, 1, 2] (EH84_0 g_0 out_3 reach_1 v_2)
noncomputable abbrev B84_0 (g_0 : List TV) (out_3 : List TV) (reach_1 : List TV) (v_2 : Int) : Nd := .back [1, 1, 1, 0, 1, 2] (EH84_0 g_0 out_3 reach_1 v_2)
noncomputable def EH84_1 (g_0 : List TV) (out_3 : List TV) (reach_1 : List TV) (d_5 : Int) (left_2 : List TV) (v_6 : Int) (v_4 : Int) : Env := [.un, w30 g_0, .un, w18 out_3, w10 reach_1, w6 d_5, w10 left_2] ++ uns 10 ++ [w8 g_0, w6 v_6, .un, .un, .un, .un, .un, .ref 4 [] none 25 false, w8 reach_1, w6 v_4] ++ uns 25
noncomputable abbrev H84_1 (g_0 : List TV) (out_3 : List TV) (reach_1 : List TV) (d_5 : Int) (left_2 : List TV) (v_6 : Int) (v_4 : Int) : Nd := .head [1, 1, 1, 0, 1, 2, 5, 1, 1, 0, 2, 1, 1, 1, 2] (EH84_1 g_0 out_3 reach_1 d_5 left_2 v_6 v_4)
noncomputable abbrev B84_1 (g_0 : List TV) (out_3 : List TV) (reach_1 : List TV) (d_5 : Int) (left_2 : List TV) (v_6 : Int) (v_4 : Int) : Nd := .back [1, 1, 1, 0, 1, 2, 5, 1, 1, 0, 2, 1, 1, 1, 2] (EH84_1 g_0 out_3 reach_1 d_5 left_2 v_6 v_4)
noncomputable def EG84_2 (g_0 : List TV) (out_5 : List TV) (reach_1 : List TV) (d_6 : Int) (left_2 : List TV) (k_3 : Int) (v_7 : Int) (v_8 : Int) (v_4 : Bool) : Env := [.un, w30 g_0, .un, w18 out_5, w10 reach_1, w6 d_6, w10 left_2, .un, w6 k_3] ++ uns 8 ++ [w8 g_0, w6 v_7, .un, .un, .un, .un, .un, .ref 4 [] none 25 false, w8 reach_1, w6 v_8] ++ uns 11 ++ [.val [] (tb v_4)] ++ uns 13
noncomputable abbrev G84_2 (g_0 : List TV) (out_5 : List TV) (reach_1 : List TV) (d_6 : Int) (left_2 : List TV) (k_3 : Int) (v_7 : Int) (v_8 : Int) (v_4 : Bool) : Nd := .go [1, 1, 1, 0, 1, 2, 5, 1, 1, 0, 2, 1, 1, 1, 2, 5, 1, 1, 0, 2, 1, 1] (EG84_2 g_0 out_5 reach_1 d_6 left_2 k_3 v_7 v_8 v_4)
noncomputable def N84 (g_0 : List TV) : Nd :=
  .ck (decide ((0 : Int) ≤ ((g_0.length : Nat) : Int)) && decide (((g_0.length : Nat) : Int) ≤ ((g_0.length : Nat) : Int)) && decide (((g_0.length : Nat) : Int) * 24 < (lim : Int)) && decide (((g_0.length : Nat) : Int) < 9223372036854775807) && true && true) <|
  C131 g_0 (-1) fun vs_7b0b =>
  H84_0 g_0 (List.replicate (((g_0.length : Nat) : Int).toNat) (sl false ⟨1, false⟩ ([]))) vs_7b0b 0
theorem e84 {g_0 : List TV} {r : Res} (h : S cx 84 (N84 g_0) = some r) : tw cx 84 [.st [sl true ⟨1, true⟩ g_0]] = some r :=
  tw_of (fun call hd hb pt rg => by kernel_rfl) h
noncomputable def NH84_0 (g_0 : List TV) (out_3 : List TV) (reach_1 : List TV) (v_2 : Int) : Nd :=
  .bif (decide (v_2 < ((g_0.length : Nat) : Int)))
  (C131 g_0 v_2 fun vs_86dc =>
    H84_1 g_0 out_3 reach_1 v_2 vs_86dc v_2 0)
  (.ret [sl false ⟨1, true⟩ out_3] [])
theorem eH84_0 {g_0 : List TV} {out_3 : List TV} {reach_1 : List TV} {v_2 : Int} {r : Res} (h : S cx 84 (NH84_0 g_0 out_3 reach_1 v_2) = some r) : S cx 84 (H84_0 g_0 out_3 reach_1 v_2) = some r :=
  hw_of (fun call hd hb pt rg => by kernel_rfl) h
noncomputable def NH84_1 (g_0 : List TV) (out_3 : List TV) (reach_1 : List TV) (d_5 : Int) (left_2 : List TV) (v_6 : Int) (v_4 : Int) : Nd :=
  .bif (decide (v_4 < ((reach_1.length : Nat) : Int)))
  (.ck (decide ((0 : Int) ≤ v_4) && decide (v_4 < ((reach_1.length : Nat) : Int))) <|
    .int .i64 (reach_1.getD (0 + v_4.toNat) (.dead ())) fun x_8b64 =>
    C116 reach_1 d_5 fun v_6720 =>
    .bif (v_6720)
    (C116 left_2 x_8b64 fun v_8393 =>
      G84_2 g_0 out_3 reach_1 d_5 left_2 x_8b64 v_6 v_4 (!v_8393))
    (G84_2 g_0 out_3 reach_1 d_5 left_2 x_8b64 v_6 v_4 false))
  (B84_0 g_0 out_3 reach_1 (w64 (v_6 + 1)))
theorem eH84_1 {g_0 : List TV} {out_3 : List TV} {reach_1 : List TV} {d_5 : Int} {left_2 : List TV} {v_6 : Int} {v_4 : Int} {r : Res} (h : S cx 84 (NH84_1 g_0 out_3 reach_1 d_5 left_2 v_6 v_4) = some r) : S cx 84 (H84_1 g_0 out_3 reach_1 d_5 left_2 v_6 v_4) = some r :=
  hw_of (fun call hd hb pt rg => by kernel_rfl) h
noncomputable def NG84_2 (g_0 : List TV) (out_5 : List TV) (reach_1 : List TV) (d_6 : Int) (left_2 : List TV) (k_3 : Int) (v_7 : Int) (v_8 : Int) (v_4 : Bool) : Nd :=
  .bif (v_4)
  (.ck (decide ((0 : Int) ≤ k_3) && decide (k_3 < ((out_5.length : Nat) : Int))) <|
    .slO ⟨1, false⟩ (out_5.getD (0 + k_3.toNat) (.dead ())) fun vs_9ce8 =>
    .slO ⟨1, false⟩ (out_5.getD (0 + k_3.toNat) (.dead ())) fun vs_9ce8_2 =>
    C120 vs_9ce8_2 d_6 fun vs_30af =>
    .ck (decide ((0 : Int) ≤ k_3) && decide (k_3 < (((out_5.set (0 + k_3.toNat) (.dead ())).length : Nat) : Int))) <|
    B84_1 g_0 ((out_5.set (0 + k_3.toNat) (.dead ())).set (0 + k_3.toNat) (sl false ⟨1, false⟩ vs_30af)) reach_1 d_6 left_2 v_7 (w64 (v_8 + 1)))
  (B84_1 g_0 out_5 reach_1 d_6 left_2 v_7 (w64 (v_8 + 1)))
theorem eG84_2 {g_0 : List TV} {out_5 : List TV} {reach_1 : List TV} {d_6 : Int} {left_2 : List TV} {k_3 : Int} {v_7 : Int} {v_8 : Int} {v_4 : Bool} {r : Res} (h : S cx 84 (NG84_2 g_0 out_5 reach_1 d_6 left_2 k_3 v_7 v_8 v_4) = some r) : S cx 84 (G84_2 g_0 out_5 reach_1 d_6 left_2 k_3 v_7 v_8 v_4) = some r :=
  pw_of (fun call hd hb pt rg => by kernel_rfl) h
noncomputable def EH85_0 (defs_0 : List TV) (dom_1 : List TV) (far_2 : List TV) (part_3 : Int) (v_4 : List TV) (v_5 : Int) : Env := [.un, w3 defs_0, w3 dom_1, w3 far_2, w6 part_3] ++ uns 9 ++ [w3 v_4, w8 v_4, w6 v_5] ++ uns 42
noncomputable abbrev H85_0 (defs_0 : List TV) (dom_1 : List TV) (far_2 : List TV) (part_3 : Int) (v_4 : List TV) (v_5 : Int) : Nd := .head [1, 0, 1, 2] (EH85_0 defs_0 dom_1 far_2 part_3 v_4 v_5)
noncomputable abbrev B85_0 (defs_0 : List TV) (dom_1 : List TV) (far_2 : List TV) (part_3 : Int) (v_4 : List TV) (v_5 : Int) : Nd := .back [1, 0, 1, 2] (EH85_0 defs_0 dom_1 far_2 part_3 v_4 v_5)
noncomputable def N85 (l_0 : List TV) (defs_1 : List TV) (dom_2 : List TV) (far_3 : List TV) (part_4 : Int) : Nd :=
  H85_0 defs_1 dom_2 far_3 part_4 l_0 0
theorem e85 {l_0 : List TV} {defs_1 : List TV} {dom_2 : List TV} {far_3 : List TV} {part_4 : Int} {r : Res} (h : S cx 85 (N85 l_0 defs_1 dom_2 far_3 part_4) = some r) : tw cx 85 [sl true ⟨1, false⟩ l_0, sl true ⟨1, false⟩ defs_1, sl true ⟨1, false⟩ dom_2, sl true ⟨1, false⟩ far_3, i64 part_4] = some r :=
  tw_of (fun call hd hb pt rg => by kernel_rfl) h
noncomputable def NH85_0 (defs_0 : List TV) (dom_1 : List TV) (far_2 : List TV) (part_3 : Int) (v_4 : List TV) (v_5 : Int) : Nd :=
  .bif (decide (v_5 < ((v_4.length : Nat) : Int)))
  (.ck (decide ((0 : Int) ≤ v_5) && decide (v_5 < ((v_4.length : Nat) : Int))) <|
    .int .i64 (v_4.getD (0 + v_5.toNat) (.dead ())) fun x_45a3 =>
    .bif (decide (x_45a3 < 0))
    (.ret [tb false] [])
    (.bif (decide (x_45a3 ≥ ((defs_0.length : Nat) : Int)))
      (.ret [tb false] [])
      (.ck (decide ((0 : Int) ≤ x_45a3) && decide (x_45a3 < ((defs_0.length : Nat) : Int))) <|
        .int .i64 (defs_0.getD (0 + x_45a3.toNat) (.dead ())) fun x_88ea =>
        .bif (decide (x_45a3 < 12))
        (B85_0 defs_0 dom_1 far_2 part_3 v_4 (w64 (v_5 + 1)))
        (C116 far_2 x_45a3 fun v_c376 =>
          .bif (v_c376)
          (B85_0 defs_0 dom_1 far_2 part_3 v_4 (w64 (v_5 + 1)))
          (.bif (decide (x_88ea ≥ 0))
            (.bif ((x_88ea != part_3))
              (C116 dom_1 x_88ea fun v_c5cd =>
                .bif (v_c5cd)
                (B85_0 defs_0 dom_1 far_2 part_3 v_4 (w64 (v_5 + 1)))
                (.ret [tb false] []))
              (.ret [tb false] []))
            (.ret [tb false] []))))))
  (.ret [tb true] [])
theorem eH85_0 {defs_0 : List TV} {dom_1 : List TV} {far_2 : List TV} {part_3 : Int} {v_4 : List TV} {v_5 : Int} {r : Res} (h : S cx 85 (NH85_0 defs_0 dom_1 far_2 part_3 v_4 v_5) = some r) : S cx 85 (H85_0 defs_0 dom_1 far_2 part_3 v_4 v_5) = some r :=
  hw_of (fun call hd hb pt rg => by kernel_rfl) h
noncomputable def EG86_0 (x_0 : Int) (x_1 : Int) (x_2 : Int) (x_3 : Int) (x_4 : Int) (x_5 : Int) (v_6 : Bool) : Env := [.un, w28 x_0 x_1 x_2 x_3 x_4 x_5, .un, .un, .un, .un, .un, .val [] (tb v_6)] ++ uns 11
noncomputable abbrev G86_0 (x_0 : Int) (x_1 : Int) (x_2 : Int) (x_3 : Int) (x_4 : Int) (x_5 : Int) (v_6 : Bool) : Nd := .go [1, 0, 1, 2, 1, 4, 1] (EG86_0 x_0 x_1 x_2 x_3 x_4 x_5 v_6)
noncomputable def N86 (x_0 : Int) (x_1 : Int) (x_2 : Int) (x_3 : Int) (x_4 : Int) (x_5 : Int) : Nd :=
  .bif ((x_0 == 1))
  (.ret [sl false ⟨1, false⟩ ([])] [])
  (.bif ((x_0 == 3))
    (G86_0 x_0 x_1 x_2 x_3 x_4 x_5 (x_0 == 3))
    (G86_0 x_0 x_1 x_2 x_3 x_4 x_5 (x_0 == 5)))
theorem e86 {x_0 : Int} {x_1 : Int} {x_2 : Int} {x_3 : Int} {x_4 : Int} {x_5 : Int} {r : Res} (h : S cx 86 (N86 x_0 x_1 x_2 x_3 x_4 x_5) = some r) : tw cx 86 [.st [i64 x_0, i64 x_1, i64 x_2, i64 x_3, i64 x_4, i64 x_5]] = some r :=
  tw_of (fun call hd hb pt rg => by kernel_rfl) h
noncomputable def NG86_0 (x_0 : Int) (x_1 : Int) (x_2 : Int) (x_3 : Int) (x_4 : Int) (x_5 : Int) (v_6 : Bool) : Nd :=
  .bif (v_6)
  (.ret [sl false ⟨1, false⟩ ([i64 x_3, i64 x_4])] [])
  (.ret [sl false ⟨1, false⟩ ([i64 x_3])] [])
theorem eG86_0 {x_0 : Int} {x_1 : Int} {x_2 : Int} {x_3 : Int} {x_4 : Int} {x_5 : Int} {v_6 : Bool} {r : Res} (h : S cx 86 (NG86_0 x_0 x_1 x_2 x_3 x_4 x_5 v_6) = some r) : S cx 86 (G86_0 x_0 x_1 x_2 x_3 x_4 x_5 v_6) = some r :=
  pw_of (fun call hd hb pt rg => by kernel_rfl) h
noncomputable def N87 (op_0 : Int) : Nd :=
  C80 op_0 1 4 fun v_07ec =>
  .ret [tb v_07ec] []
theorem e87 {op_0 : Int} {r : Res} (h : S cx 87 (N87 op_0) = some r) : tw cx 87 [i64 op_0] = some r :=
  tw_of (fun call hd hb pt rg => by kernel_rfl) h
noncomputable def EG88_0 (p_0 : List TV) (p_1 : List TV) (p_2 : Int) (p_3 : Int) (p_4 : List TV) (p_5 : List TV) (out_6 : List TV) : Env := [.un, w20 p_0 p_1 p_2 p_3 p_4 p_5, .un, w10 out_6] ++ uns 28
noncomputable abbrev G88_0 (p_0 : List TV) (p_1 : List TV) (p_2 : Int) (p_3 : Int) (p_4 : List TV) (p_5 : List TV) (out_6 : List TV) : Nd := .go [1, 1, 1] (EG88_0 p_0 p_1 p_2 p_3 p_4 p_5 out_6)
noncomputable def EH88_1 (out_0 : List TV) (v_1 : List TV) (v_2 : Int) : Env := [.un, .un, .un, w10 out_0] ++ uns 16 ++ [w26 v_1, w8 v_1, w6 v_2] ++ uns 9
noncomputable abbrev H88_1 (out_0 : List TV) (v_1 : List TV) (v_2 : Int) : Nd := .head [1, 1, 1, 0, 1, 2] (EH88_1 out_0 v_1 v_2)
noncomputable abbrev B88_1 (out_0 : List TV) (v_1 : List TV) (v_2 : Int) : Nd := .back [1, 1, 1, 0, 1, 2] (EH88_1 out_0 v_1 v_2)
noncomputable def N88 (p_0 : List TV) (p_1 : List TV) (p_2 : Int) (p_3 : Int) (p_4 : List TV) (p_5 : List TV) : Nd :=
  .bif ((p_2 == 2))
  (.ck (decide ((0 + ([i64 p_3] : List TV).length) * 8 < lim)) <|
    G88_0 p_0 p_1 p_2 p_3 p_4 p_5 (([]) ++ ([i64 p_3])))
  (.bif ((p_2 == 5))
    (.ck (decide ((0 + ([i64 p_3] : List TV).length) * 8 < lim)) <|
      G88_0 p_0 p_1 p_2 p_3 p_4 p_5 (([]) ++ ([i64 p_3])))
    (G88_0 p_0 p_1 p_2 p_3 p_4 p_5 ([])))
theorem e88 {p_0 : List TV} {p_1 : List TV} {p_2 : Int} {p_3 : Int} {p_4 : List TV} {p_5 : List TV} {r : Res} (h : S cx 88 (N88 p_0 p_1 p_2 p_3 p_4 p_5) = some r) : tw cx 88 [.st [sl true ⟨1, false⟩ p_0, sl true ⟨6, false⟩ p_1, i64 p_2, i64 p_3, sl true ⟨1, false⟩ p_4, sl true ⟨1, true⟩ p_5]] = some r :=
  tw_of (fun call hd hb pt rg => by kernel_rfl) h
noncomputable def NG88_0 (p_0 : List TV) (p_1 : List TV) (p_2 : Int) (p_3 : Int) (p_4 : List TV) (p_5 : List TV) (out_6 : List TV) : Nd :=
  H88_1 out_6 p_5 0
theorem eG88_0 {p_0 : List TV} {p_1 : List TV} {p_2 : Int} {p_3 : Int} {p_4 : List TV} {p_5 : List TV} {out_6 : List TV} {r : Res} (h : S cx 88 (NG88_0 p_0 p_1 p_2 p_3 p_4 p_5 out_6) = some r) : S cx 88 (G88_0 p_0 p_1 p_2 p_3 p_4 p_5 out_6) = some r :=
  pw_of (fun call hd hb pt rg => by kernel_rfl) h
noncomputable def NH88_1 (out_0 : List TV) (v_1 : List TV) (v_2 : Int) : Nd :=
  .bif (decide (v_2 < ((v_1.length : Nat) : Int)))
  (.ck (decide ((0 : Int) ≤ v_2) && decide (v_2 < ((v_1.length : Nat) : Int))) <|
    .slR ⟨1, false⟩ (v_1.getD (0 + v_2.toNat) (.dead ())) fun xs_3a81 =>
    .ck (decide ((out_0.length + xs_3a81.length) * 8 < lim)) <|
    B88_1 (out_0 ++ xs_3a81) v_1 (w64 (v_2 + 1)))
  (.ret [sl false ⟨1, false⟩ out_0] [])
theorem eH88_1 {out_0 : List TV} {v_1 : List TV} {v_2 : Int} {r : Res} (h : S cx 88 (NH88_1 out_0 v_1 v_2) = some r) : S cx 88 (H88_1 out_0 v_1 v_2) = some r :=
  hw_of (fun call hd hb pt rg => by kernel_rfl) h
noncomputable def EH89_0 (l_0 : List TV) (many_1 : Int) (v_2 : Int) : Env := [w3 l_0, w6 many_1, .un, .un, .un, .un, .un, w3 l_0, w8 l_0, w6 v_2] ++ uns 13
noncomputable abbrev H89_0 (l_0 : List TV) (many_1 : Int) (v_2 : Int) : Nd := .head [1, 0, 1, 2] (EH89_0 l_0 many_1 v_2)
noncomputable abbrev B89_0 (l_0 : List TV) (many_1 : Int) (v_2 : Int) : Nd := .back [1, 0, 1, 2] (EH89_0 l_0 many_1 v_2)
noncomputable def N89 (l_0 : List TV) (many_1 : Int) : Nd :=
  H89_0 l_0 many_1 0
theorem e89 {l_0 : List TV} {many_1 : Int} {r : Res} (h : S cx 89 (N89 l_0 many_1) = some r) : tw cx 89 [sl true ⟨1, false⟩ l_0, i64 many_1] = some r :=
  tw_of (fun call hd hb pt rg => by kernel_rfl) h
noncomputable def NH89_0 (l_0 : List TV) (many_1 : Int) (v_2 : Int) : Nd :=
  .bif (decide (v_2 < ((l_0.length : Nat) : Int)))
  (.ck (decide ((0 : Int) ≤ v_2) && decide (v_2 < ((l_0.length : Nat) : Int))) <|
    .int .i64 (l_0.getD (0 + v_2.toNat) (.dead ())) fun x_9183 =>
    C80 x_9183 0 65535 fun v_890e =>
    .bif ((!v_890e))
    (.ret [tb false] [])
    (B89_0 l_0 many_1 (w64 (v_2 + 1))))
  (.ret [tb (((l_0.length : Nat) : Int) == many_1)] [])
theorem eH89_0 {l_0 : List TV} {many_1 : Int} {v_2 : Int} {r : Res} (h : S cx 89 (NH89_0 l_0 many_1 v_2) = some r) : S cx 89 (H89_0 l_0 many_1 v_2) = some r :=
  hw_of (fun call hd hb pt rg => by kernel_rfl) h
noncomputable def EH90_0 (s_0 : List TV) (s_1 : Int) (state_2 : List TV) (state_3 : List TV) (state_4 : List TV) (r_5 : List TV) (r_6 : List TV) (r_7 : List TV) (v_8 : Int) : Env := [.un, .un, w0 s_0 s_1, w1 state_2 state_3 state_4, w14, .val [] (.pt false () (.st [.st [sl false ⟨1, false⟩ (List.replicate 8 (i64 0)), sl false ⟨1, false⟩ r_5, sl false ⟨1, false⟩ r_6], i64 0, i64 0, sl false ⟨1, false⟩ r_7, i64 (-1), i64 0])), w6 v_8] ++ uns 41
noncomputable abbrev H90_0 (s_0 : List TV) (s_1 : Int) (state_2 : List TV) (state_3 : List TV) (state_4 : List TV) (r_5 : List TV) (r_6 : List TV) (r_7 : List TV) (v_8 : Int) : Nd := .head [1, 1, 1, 0, 1, 2] (EH90_0 s_0 s_1 state_2 state_3 state_4 r_5 r_6 r_7 v_8)
noncomputable abbrev B90_0 (s_0 : List TV) (s_1 : Int) (state_2 : List TV) (state_3 : List TV) (state_4 : List TV) (r_5 : List TV) (r_6 : List TV) (r_7 : List TV) (v_8 : Int) : Nd := .back [1, 1, 1, 0, 1, 2] (EH90_0 s_0 s_1 state_2 state_3 state_4 r_5 r_6 r_7 v_8)
noncomputable def N90 (s_0 : List TV) (s_1 : Int) (state_2 : List TV) (state_3 : List TV) (state_4 : List TV) : Nd :=
  C52 state_2 state_3 state_4 fun localss_f177 mems_bd88 tolds_d603 =>
  H90_0 s_0 s_1 state_2 state_3 state_4 mems_bd88 tolds_d603 ([]) 0
theorem e90 {s_0 : List TV} {s_1 : Int} {state_2 : List TV} {state_3 : List TV} {state_4 : List TV} {r : Res} (h : S cx 90 (N90 s_0 s_1 state_2 state_3 state_4) = some r) : tw cx 90 [.st [sl true ⟨6, true⟩ s_0, i64 s_1], .st [sl true ⟨1, false⟩ state_2, sl true ⟨1, false⟩ state_3, sl true ⟨1, false⟩ state_4]] = some r :=
  tw_of (fun call hd hb pt rg => by kernel_rfl) h
noncomputable def NH90_0 (s_0 : List TV) (s_1 : Int) (state_2 : List TV) (state_3 : List TV) (state_4 : List TV) (r_5 : List TV) (r_6 : List TV) (r_7 : List TV) (v_8 : Int) : Nd :=
  .bif (decide (v_8 < s_1))
  (.bif (decide (v_8 < 8))
    (.ck (decide ((0 : Int) ≤ v_8) && decide (v_8 < ((state_2.length : Nat) : Int))) <|
      .int .i64 (state_2.getD (0 + v_8.toNat) (.dead ())) fun x_1010 =>
      .ck (decide ((r_7.length + ([i64 x_1010] : List TV).length) * 8 < lim)) <|
      B90_0 s_0 s_1 state_2 state_3 state_4 r_5 r_6 (r_7 ++ ([i64 x_1010])) (w64 (v_8 + 1)))
    (.bif (decide (v_8 < 12))
      (.ck (decide ((r_7.length + ([i64 0] : List TV).length) * 8 < lim)) <|
        B90_0 s_0 s_1 state_2 state_3 state_4 r_5 r_6 (r_7 ++ ([i64 0])) (w64 (v_8 + 1)))
      (.ck (decide ((r_7.length + ([i64 (-1)] : List TV).length) * 8 < lim)) <|
        B90_0 s_0 s_1 state_2 state_3 state_4 r_5 r_6 (r_7 ++ ([i64 (-1)])) (w64 (v_8 + 1)))))
  (.ret [.st [.st [sl false ⟨1, false⟩ (List.replicate 8 (i64 0)), sl false ⟨1, false⟩ r_5, sl false ⟨1, false⟩ r_6], i64 0, i64 0, sl false ⟨1, false⟩ r_7, i64 (-1), i64 0]] [])
theorem eH90_0 {s_0 : List TV} {s_1 : Int} {state_2 : List TV} {state_3 : List TV} {state_4 : List TV} {r_5 : List TV} {r_6 : List TV} {r_7 : List TV} {v_8 : Int} {r : Res} (h : S cx 90 (NH90_0 s_0 s_1 state_2 state_3 state_4 r_5 r_6 r_7 v_8) = some r) : S cx 90 (H90_0 s_0 s_1 state_2 state_3 state_4 r_5 r_6 r_7 v_8) = some r :=
  hw_of (fun call hd hb pt rg => by kernel_rfl) h
noncomputable def N92 (p_0 : List TV) (p_1 : List TV) (p_2 : Int) (p_3 : Int) (p_4 : List TV) (p_5 : List TV) (words_6 : List TV) : Nd :=
  .bif ((p_2 == 2))
  (.ck (decide ((0 : Int) ≤ p_3) && decide (p_3 < ((words_6.length : Nat) : Int))) <|
    .int .i64 (words_6.getD (0 + p_3.toNat) (.dead ())) fun x_d7cf =>
    C133 (x_d7cf == 0) fun v_837f =>
    .ret [i64 v_837f] [])
  (.bif ((p_2 == 5))
    (.ck (decide ((0 : Int) ≤ p_3) && decide (p_3 < ((words_6.length : Nat) : Int))) <|
      .int .i64 (words_6.getD (0 + p_3.toNat) (.dead ())) fun x_d7cf =>
      .bif (decide (x_d7cf < ((p_4.length : Nat) : Int)))
      (.ck (decide ((0 : Int) ≤ p_3) && decide (p_3 < ((words_6.length : Nat) : Int))) <|
        .int .i64 (words_6.getD (0 + p_3.toNat) (.dead ())) fun x_d7cf_2 =>
        .ret [i64 x_d7cf_2] [])
      (.ret [i64 (w64 (((p_4.length : Nat) : Int) - 1))] []))
    (.ret [i64 0] []))
theorem e92 {p_0 : List TV} {p_1 : List TV} {p_2 : Int} {p_3 : Int} {p_4 : List TV} {p_5 : List TV} {words_6 : List TV} {r : Res} (h : S cx 92 (N92 p_0 p_1 p_2 p_3 p_4 p_5 words_6) = some r) : tw cx 92 [.st [sl true ⟨1, false⟩ p_0, sl true ⟨6, false⟩ p_1, i64 p_2, i64 p_3, sl true ⟨1, false⟩ p_4, sl true ⟨1, true⟩ p_5], sl true ⟨1, false⟩ words_6] = some r :=
  tw_of (fun call hd hb pt rg => by kernel_rfl) h
noncomputable def N93 (a_0 : List TV) (a_1 : List TV) (a_2 : Int) (a_3 : Int) (a_4 : List TV) (a_5 : List TV) : Nd :=
  C48 a_0 fun vs_2f12 =>
  C134 a_1 fun vs_2dbe =>
  C48 a_4 fun vs_a59c =>
  C135 a_5 fun vs_3d0a =>
  .ret [.st [sl false ⟨1, false⟩ vs_2f12, sl false ⟨6, false⟩ vs_2dbe, i64 a_2, i64 a_3, sl false ⟨1, false⟩ vs_a59c, sl false ⟨1, true⟩ vs_3d0a]] []
theorem e93 {a_0 : List TV} {a_1 : List TV} {a_2 : Int} {a_3 : Int} {a_4 : List TV} {a_5 : List TV} {r : Res} (h : S cx 93 (N93 a_0 a_1 a_2 a_3 a_4 a_5) = some r) : tw cx 93 [.st [sl true ⟨1, false⟩ a_0, sl true ⟨6, false⟩ a_1, i64 a_2, i64 a_3, sl true ⟨1, false⟩ a_4, sl true ⟨1, true⟩ a_5]] = some r :=
  tw_of (fun call hd hb pt rg => by kernel_rfl) h
end Go.Tree.Q
