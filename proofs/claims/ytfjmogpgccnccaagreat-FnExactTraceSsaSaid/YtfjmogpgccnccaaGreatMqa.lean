/- The functions that the law reaches, told as points of a program. Conditions: none. -/
import Derived.Test.YtfjmogpgccnccaaGreatMt3
import Derived.Test.YtfjmogpgccnccaaGreatProg
import Derived.KernelRfl
import Derived.Test.YtfjmogpgccnccaaGreatMg
/- Trees of values: what is told of the functions, and words for views and calls. -/
namespace Go.Tree.Q
open Go.Proofs
set_option linter.unusedVariables false
set_option maxRecDepth 20000
abbrev i64 (n : Int) : TV := .fl (.int .i64 n)
abbrev tb (b : Bool) : TV := .fl (.bool b)
abbrev tnil : TV := .fl (.pointer none)
abbrev sl (r : Bool) (k : Ek) (xs : List TV) : TV := .sl r k () xs
abbrev w64 (n : Int) : Int := IntKind.i64.wrap n
abbrev uns (n : Nat) : Env := List.replicate n .un
/-- slices.Grow of nil. -/
def g185 : List TV → Option Res
  | [.fl (.slice none 0 0), .fl (.int .i64 n)] => if 0 ≤ n ∧ n ≤ 1073741824 then some ([.sl false ⟨1,false⟩ () []], []) else none
  | _ => none
/-- The numbers from one on, in a row. -/
def marks (k : Int) (n : Nat) : List TV := (List.range n).map fun (i : Nat) => .fl (.int .i64 (k + (i : Int)))
def g19 : List TV → Option Res
  | [.st [.sl false ⟨1,false⟩ () xs, .sl false ⟨1,false⟩ () ys, .sl false ⟨1,false⟩ () zs], .fl (.int .i64 k)] =>
    if 0 ≤ k ∧ k ≤ 2305843009213693952 ∧ xs.length ≤ 1073741824 ∧ ys.length ≤ 1073741824 ∧ zs.length ≤ 1073741824 then
      some ([.fl (.int .i64 (k + xs.length + ys.length + zs.length))], [.st [.sl false ⟨1,false⟩ () (marks k xs.length), .sl false ⟨1,false⟩ () (marks (k + xs.length) ys.length), .sl false ⟨1,false⟩ () (marks (k + xs.length + ys.length) zs.length)]])
    else none
  | _ => none
/-- The marks over the parts of an ssa. -/
noncomputable def g18 : List TV → Option Res
  | [.st [.sl false ⟨6,true⟩ () ps, .fl (.int .i64 v)], .fl (.int .i64 k)] => match tw G.cx 51 [.sl false ⟨6,true⟩ () ps, .fl (.int .i64 k)] with
    | some ([.fl (.int .i64 k2)], [.sl false ⟨6,true⟩ () qs]) => some ([.fl (.int .i64 k2)], [.st [.sl false ⟨6,true⟩ () qs, .fl (.int .i64 v)]])
    | _ => none
  | _ => none
/-- A table. -/
def tab {β : Type} (d : β) : List (Nat × β) → Nat → β
  | [], _ => d
  | (k, v) :: l, n => bif Nat.beq k n then v else tab d l n
/-- What the evaluator is told of the functions: who writes what, what lives where. -/
noncomputable def cx : Ctx where
 P := Tryz.prog
 sig := tab ⟨[], [], [],false⟩ [(18, ⟨[true], [], [],true⟩), (19, ⟨[true], [], [],true⟩), (20, ⟨[true], [], [],false⟩), (120, ⟨[true], [true], [],false⟩), (137, ⟨[true], [], [],false⟩), (141, ⟨[true], [], [],false⟩), (142, ⟨[true], [], [],false⟩), (165, ⟨[true], [], [],false⟩)]
 given := fun f => bif Nat.beq f 185 then some g185 else bif Nat.beq f 19 then some g19 else bif Nat.beq f 18 then some g18 else none
 keep := fun f r => tab [] [(17004, [0, 1, 5]), (20002, [0, 1, 5, 19]), (21002, [0, 1, 5]), (41005, [0, 1, 5]), (43004, [1, 30, 31, 32]), (43007, [1, 30, 31, 32, 37, 38, 39]), (43014, [1, 55, 56, 57]), (43025, [9, 11, 12, 87, 88, 89]), (43031, [9, 11, 12, 13, 14, 15, 87, 88, 89, 105, 106, 107]), (46004, [2, 3, 6, 7, 8, 9]), (46011, [2, 3, 6, 7, 8, 10, 41, 42, 43]), (46016, [2, 3, 6, 7, 10, 58, 59, 60]), (46026, [6, 7, 86, 87, 88]), (46039, [2, 3, 6, 7, 8, 9, 124, 125, 126]), (47003, [0, 3, 4]), (48003, [0, 3, 4]), (50004, [0, 1, 5]), (69006, [0, 2, 7, 8]), (69009, [0, 2, 7, 8, 33, 34, 35]), (81002, [2, 3, 12, 13, 14]), (81019, [2, 3, 163, 164, 165]), (82003, [1, 4, 5]), (82009, [1, 4, 28, 29, 30]), (82013, [1, 4, 6, 8, 28, 29, 30, 40, 41, 42]), (82019, [1, 4, 6, 8, 28, 29, 30, 55, 56, 57]), (83003, [2, 3, 10, 11, 12]), (83007, [2, 3, 6, 10, 11, 12, 17, 18, 19]), (84004, [1, 3, 4, 17, 18]), (84008, [1, 3, 4, 5, 6, 17, 18, 24, 25, 26]), (85002, [1, 2, 3, 4, 14, 15, 16]), (88005, [3, 20, 21, 22]), (89002, [0, 1, 7, 8, 9]), (90004, [2, 3, 4, 5, 6]), (94005, [1, 3, 31, 32]), (94014, [3, 56, 57]), (95005, [0, 2, 7, 8, 9]), (95010, [0, 2, 7, 8, 9, 10, 56, 73, 74, 75]), (112002, [1, 2, 11, 12, 13]), (112008, [1, 2, 22, 23, 24]), (114008, [7, 8]), (116002, [1, 7, 8, 9]), (120002, [0, 1, 5, 48]), (129005, [0, 1, 5]), (131005, [1, 2, 5, 6]), (131008, [1, 2, 5, 6, 25, 26, 27]), (134003, [0, 3, 4]), (135003, [0, 3, 4]), (136003, [3, 11, 12, 13]), (137005, [0, 1, 5, 14, 71, 72, 73, 115]), (137011, [0, 1, 5, 14, 86, 87, 88, 115]), (138003, [0, 3, 4, 16, 17]), (138008, [0, 3, 4, 27, 28, 29]), (138013, [0, 3, 4, 6, 8, 27, 28, 29, 41, 42]), (140003, [0, 1, 5, 16, 22, 23, 24]), (140006, [0, 1, 5, 6, 16, 22, 23, 24, 30, 31, 32]), (140015, [0, 1, 5, 16, 68, 69, 70]), (141002, [0, 10, 11, 12, 37]), (143004, [0, 1, 5]), (144004, [0, 1, 5]), (157002, [0, 1, 7, 8]), (158002, [0, 1, 7, 8]), (162002, [0, 1, 7, 8]), (164006, [0, 1, 42, 43, 44]), (167002, [0, 1, 7, 8]), (170003, [0, 3, 9, 10, 11]), (170011, [6, 25, 26, 27]), (171003, [0, 5, 11, 12, 13])] (f * 1000 + r)
 cut := fun f r => tab none [(3009, some [2, 3, 4, 8, 9]), (4009, some [2, 3, 4, 8, 9, 10]), (4032, some [8, 9, 10, 13, 17, 19, 20, 21]), (5009, some [2, 3, 4, 8, 9, 10, 11]), (5032, some [8, 9, 10, 11, 14, 19, 21, 22, 23, 24]), (46020, some [2, 3, 6, 7, 10, 14, 58, 59, 60]), (52501, some []), (69012, some [0, 2, 7, 8, 10, 33, 34, 35, 49]), (84011, some [1, 3, 4, 5, 6, 8, 17, 18, 24, 25, 26, 38]), (86006, some [1, 7]), (88004, some [1, 3]), (94003, some [1]), (94004, some [1, 3]), (94503, some []), (95002, some [0, 2, 4, 7]), (95003, some [0, 2, 7]), (114003, some [0, 1]), (114006, some [0, 6]), (130008, some [1, 22, 43]), (138002, some [0, 3, 4]), (141006, some [0, 6, 10, 11, 12, 37]), (159006, some [2, 4, 8]), (168005, some [1, 3, 4]), (168007, some [3])] (f * 1000 + r)
 pol := fun f => ⟨fun s i b => match tab 0 [(490340000000, 1), (940340000000, 1), (950340000000, 1), (1370340000000, 1), (1400340000000, 1), (1410340000000, 1), (1420340000000, 1), (1640340000000, 1), (1650340000000, 1), (1690340000000, 1)] ((f * 1000 + s) * 10000000 + i) with | 0 => !b | 1 => b | _ => true, fun t => tab false [(12076, true), (16076, true), (23076, true), (49076, true), (49135, true)] (f * 1000 + t)⟩
 inl := tab false [(59, true), (91, true), (109, true), (110, true)]
 own := tab false [(138, true), (185, true)]
theorem call_S {f g : FuncId} {args : List TV} {v : Res} {K : Res → Nd} {X : Option Res} (h : tw cx g args = some v) (e : S cx f (K v) = X) : S cx f (.call g args K) = X := by
 show Option.bind (tw cx g args) _ = X
 rw [h]
 exact e
def w0 (A0 : List TV) (A1 : Int) : AV Unit := .val [] (.pt false () (.st [sl true ⟨6,true⟩ A0, i64 A1]))
def w1 (A0 A1 A2 : List TV) : AV Unit := .val [] (.pt false () (.st [sl true ⟨1,false⟩ A0, sl true ⟨1,false⟩ A1, sl true ⟨1,false⟩ A2]))
def w2 : AV Unit := .val [] (.pt false () (.st [sl false ⟨1,false⟩ ([]), sl false ⟨1,false⟩ ([]), sl false ⟨1,false⟩ ([])]))
def w3 (A0 : List TV) : AV Unit := .val [] (sl true ⟨1,false⟩ A0)
def w4 (A0 A1 A2 : List TV) : AV Unit := .val [] (.st [sl true ⟨1,false⟩ A0, sl true ⟨1,false⟩ A1, sl true ⟨1,false⟩ A2])
def w5 (A0 : List TV) (A1 : Int) : AV Unit := .val [] (.st [sl true ⟨6,true⟩ A0, i64 A1])
def w6 (A0 : Int) : AV Unit := .val [] (i64 A0)
def w7 : AV Unit := .adr 1 [.d 34, .f 34 1]
def w8 (A0 : List TV) : AV Unit := .val [] (i64 ((A0.length : Nat) : Int))
def w9 : AV Unit := .val [] (sl false ⟨1,false⟩ ([]))
def w10 (A0 : List TV) : AV Unit := .val [] (sl false ⟨1,false⟩ A0)
def w11 : AV Unit := .val [] (sl false ⟨1,false⟩ ([i64 (-1)]))
def w12 (A0 : Int) : AV Unit := .val [] (sl false ⟨1,false⟩ (List.replicate A0.toNat (i64 0)))
def w13 (A0 : List TV) (A1 : Int) (A2 A3 : List TV) (A4 A5 : List TV) : AV Unit := .val [] (.pt true () (.st [.st [sl true ⟨6,true⟩ A0, i64 A1], sl false ⟨1,true⟩ A2, sl false ⟨1,true⟩ A3, sl false ⟨1,false⟩ A4, sl false ⟨1,false⟩ A5]))
def w14 : AV Unit := .val [] (.pt false () (.st [.st [sl false ⟨1,false⟩ ([]), sl false ⟨1,false⟩ ([]), sl false ⟨1,false⟩ ([])], i64 0, i64 0, sl false ⟨1,false⟩ ([]), i64 0, i64 0]))
def w15 : AV Unit := .adr 1 [.d 36, .f 36 0]
def w16 : AV Unit := .adr 1 [.d 36, .f 36 1]
def w17 : AV Unit := .adr 1 [.d 36, .f 36 2]
def w18 (A0 : List TV) : AV Unit := .val [] (sl false ⟨1,true⟩ A0)
def w19 (A0 A1 A2 : List TV) (A3 A4 : Int) (A5 : List TV) (A6 A7 : Int) : AV Unit := .val [] (.pt false () (.st [.st [sl false ⟨1,false⟩ A0, sl false ⟨1,false⟩ A1, sl false ⟨1,false⟩ A2], i64 A3, i64 A4, sl false ⟨1,false⟩ A5, i64 A6, i64 A7]))
def w20 (A0 A1 : List TV) (A2 A3 : Int) (A4 A5 : List TV) : AV Unit := .val [] (.pt false () (.st [sl true ⟨1,false⟩ A0, sl true ⟨6,false⟩ A1, i64 A2, i64 A3, sl true ⟨1,false⟩ A4, sl true ⟨1,true⟩ A5]))
def w21 (A0 : List TV) : AV Unit := .val [] (sl false ⟨1,false⟩ (([]) ++ A0))
def w22 (A0 A1 : List TV) (A2 A3 : List TV) (A4 A5 : Int) (A6 A7 : Int) : AV Unit := .val [] (.pt false () (.st [.st [sl false ⟨1,false⟩ A0, sl false ⟨1,false⟩ A1, sl false ⟨1,false⟩ A2], sl false ⟨1,false⟩ A3, i64 A4, i64 A5, i64 A6, i64 A7]))
def w23 (A0 : List TV) (A1 : Int) (A2 A3 : List TV) (A4 A5 : List TV) : AV Unit := .val [] (.pt false () (.st [.st [sl true ⟨6,true⟩ A0, i64 A1], sl false ⟨1,true⟩ A2, sl false ⟨1,true⟩ A3, sl false ⟨1,false⟩ A4, sl false ⟨1,false⟩ A5]))
def w24 (A0 : List TV) : AV Unit := .val [] (sl true ⟨6,true⟩ A0)
def w25 (A0 : List TV) : AV Unit := .val [] (sl true ⟨6,false⟩ A0)
def w26 (A0 : List TV) : AV Unit := .val [] (sl true ⟨1,true⟩ A0)
def w27 (A0 A1 A2 : List TV) : AV Unit := .val [] (.pt false () (.st [sl false ⟨1,false⟩ A0, sl false ⟨1,false⟩ A1, sl false ⟨1,false⟩ A2]))
def w28 (A0 A1 : Int) (A2 A3 : Int) (A4 A5 : Int) : AV Unit := .val [] (.pt false () (.st [i64 A0, i64 A1, i64 A2, i64 A3, i64 A4, i64 A5]))
def w29 (A0 A1 : List TV) (A2 A3 : List TV) : AV Unit := .val [] (.pt false () (.st [.st [sl false ⟨1,false⟩ A0, sl false ⟨1,false⟩ A1, sl false ⟨1,false⟩ A2], sl false ⟨1,false⟩ A3, i64 3, i64 0, i64 (-1), i64 0]))
def w30 (A0 : List TV) : AV Unit := .val [] (.pt false () (.st [sl true ⟨1,true⟩ A0]))
def w31 (A0 : List TV) : AV Unit := .val [] (.pt false () (.st [sl false ⟨1,true⟩ A0]))
noncomputable def C10 (B0 : List TV) (B1 : Int) (K : (List TV) → Int → Nd) : Nd := .call 10 [.st [sl true ⟨6,true⟩ B0, i64 B1]] fun R => .cons R.1 fun X0 X1 => .st X0 fun X2 => .cons X2 fun X3 X4 => .slO ⟨6,true⟩ X3 fun A0 => .cons X4 fun X5 X6 => .int .i64 X5 fun A1 => .nil X6 <| .nil X1 <| .nil R.2 <| K A0 A1
theorem C10_S {f : FuncId} {B0 : List TV} {B1 : Int} {A0 : List TV} {A1 : Int} {K : (List TV) → Int → Nd} (h : tw cx 10 [.st [sl true ⟨6,true⟩ B0, i64 B1]] = some ([.st [sl false ⟨6,true⟩ A0, i64 A1]], [])) : S cx f (C10 B0 B1 K) = S cx f (K A0 A1) := call_S h rfl
noncomputable def C11 (B0 B1 B2 : List TV) (K : (List TV) → (List TV) → (List TV) → Nd) : Nd := .call 11 [.st [sl true ⟨1,false⟩ B0, sl true ⟨1,false⟩ B1, sl true ⟨1,false⟩ B2]] fun R => .cons R.1 fun X0 X1 => .st X0 fun X2 => .cons X2 fun X3 X4 => .slO ⟨1,false⟩ X3 fun A0 => .cons X4 fun X5 X6 => .slO ⟨1,false⟩ X5 fun A1 => .cons X6 fun X7 X8 => .slO ⟨1,false⟩ X7 fun A2 => .nil X8 <| .nil X1 <| .nil R.2 <| K A0 A1 A2
theorem C11_S {f : FuncId} {B0 B1 : List TV} {B2 A0 : List TV} {A1 A2 : List TV} {K : (List TV) → (List TV) → (List TV) → Nd} (h : tw cx 11 [.st [sl true ⟨1,false⟩ B0, sl true ⟨1,false⟩ B1, sl true ⟨1,false⟩ B2]] = some ([.st [sl false ⟨1,false⟩ A0, sl false ⟨1,false⟩ A1, sl false ⟨1,false⟩ A2]], [])) : S cx f (C11 B0 B1 B2 K) = S cx f (K A0 A1 A2) := call_S h rfl
noncomputable def C9 (B0 : List TV) (B1 : Int) (B2 B3 B4 : List TV) (B5 : Int) (K : Int → Bool → Nd) : Nd := .call 9 [.st [sl true ⟨6,true⟩ B0, i64 B1], .st [sl true ⟨1,false⟩ B2, sl true ⟨1,false⟩ B3, sl true ⟨1,false⟩ B4], i64 B5] fun R => .cons R.1 fun X0 X1 => .int .i64 X0 fun A0 => .cons X1 fun X2 X3 => .bool X2 fun A1 => .nil X3 <| .nil R.2 <| K A0 A1
theorem C9_S {f : FuncId} {B0 : List TV} {B1 : Int} {B2 B3 B4 : List TV} {B5 A0 : Int} {A1 : Bool} {K : Int → Bool → Nd} (h : tw cx 9 [.st [sl true ⟨6,true⟩ B0, i64 B1], .st [sl true ⟨1,false⟩ B2, sl true ⟨1,false⟩ B3, sl true ⟨1,false⟩ B4], i64 B5] = some ([i64 A0, tb A1], [])) : S cx f (C9 B0 B1 B2 B3 B4 B5 K) = S cx f (K A0 A1) := call_S h rfl
noncomputable def C7 (B0 : List TV) (B1 B2 : Int) (K : Int → Nd) : Nd := .call 7 [.st [sl true ⟨6,true⟩ B0, i64 B1], i64 B2] fun R => .cons R.1 fun X0 X1 => .int .i64 X0 fun A0 => .nil X1 <| .nil R.2 <| K A0
theorem C7_S {f : FuncId} {B0 : List TV} {B1 B2 A0 : Int} {K : Int → Nd} (h : tw cx 7 [.st [sl true ⟨6,true⟩ B0, i64 B1], i64 B2] = some ([i64 A0], [])) : S cx f (C7 B0 B1 B2 K) = S cx f (K A0) := call_S h rfl
noncomputable def C8 (B0 B1 B2 : List TV) (B3 : Int) (K : Int → Nd) : Nd := .call 8 [.st [sl true ⟨1,false⟩ B0, sl true ⟨1,false⟩ B1, sl true ⟨1,false⟩ B2], i64 B3] fun R => .cons R.1 fun X0 X1 => .int .i64 X0 fun A0 => .nil X1 <| .nil R.2 <| K A0
theorem C8_S {f : FuncId} {B0 B1 B2 : List TV} {B3 A0 : Int} {K : Int → Nd} (h : tw cx 8 [.st [sl true ⟨1,false⟩ B0, sl true ⟨1,false⟩ B1, sl true ⟨1,false⟩ B2], i64 B3] = some ([i64 A0], [])) : S cx f (C8 B0 B1 B2 B3 K) = S cx f (K A0) := call_S h rfl
noncomputable def C14 (B0 B1 : List TV) (B2 B3 : List TV) (B4 B5 : List TV) (K : Bool → Nd) : Nd := .call 14 [.st [sl true ⟨1,false⟩ B0, sl true ⟨1,false⟩ B1, sl true ⟨1,false⟩ B2], .st [sl true ⟨1,false⟩ B3, sl true ⟨1,false⟩ B4, sl true ⟨1,false⟩ B5]] fun R => .cons R.1 fun X0 X1 => .bool X0 fun A0 => .nil X1 <| .nil R.2 <| K A0
theorem C14_S {f : FuncId} {B0 B1 : List TV} {B2 B3 : List TV} {B4 B5 : List TV} {A0 : Bool} {K : Bool → Nd} (h : tw cx 14 [.st [sl true ⟨1,false⟩ B0, sl true ⟨1,false⟩ B1, sl true ⟨1,false⟩ B2], .st [sl true ⟨1,false⟩ B3, sl true ⟨1,false⟩ B4, sl true ⟨1,false⟩ B5]] = some ([tb A0], [])) : S cx f (C14 B0 B1 B2 B3 B4 B5 K) = S cx f (K A0) := call_S h rfl
noncomputable def C13 (B0 : List TV) (B1 : Int) (B2 : List TV) (B3 : Int) (K : Bool → Nd) : Nd := .call 13 [.st [sl true ⟨6,true⟩ B0, i64 B1], .st [sl true ⟨6,true⟩ B2, i64 B3]] fun R => .cons R.1 fun X0 X1 => .bool X0 fun A0 => .nil X1 <| .nil R.2 <| K A0
theorem C13_S {f : FuncId} {B0 : List TV} {B1 : Int} {B2 : List TV} {B3 : Int} {A0 : Bool} {K : Bool → Nd} (h : tw cx 13 [.st [sl true ⟨6,true⟩ B0, i64 B1], .st [sl true ⟨6,true⟩ B2, i64 B3]] = some ([tb A0], [])) : S cx f (C13 B0 B1 B2 B3 K) = S cx f (K A0) := call_S h rfl
noncomputable def C12 (B0 : List TV) (B1 : Int) (B2 B3 B4 : List TV) (B5 : Int) (K : Int → Bool → Nd) : Nd := .call 12 [.st [sl true ⟨6,true⟩ B0, i64 B1], .st [sl true ⟨1,false⟩ B2, sl true ⟨1,false⟩ B3, sl true ⟨1,false⟩ B4], i64 B5] fun R => .cons R.1 fun X0 X1 => .int .i64 X0 fun A0 => .cons X1 fun X2 X3 => .bool X2 fun A1 => .nil X3 <| .nil R.2 <| K A0 A1
theorem C12_S {f : FuncId} {B0 : List TV} {B1 : Int} {B2 B3 B4 : List TV} {B5 A0 : Int} {A1 : Bool} {K : Int → Bool → Nd} (h : tw cx 12 [.st [sl true ⟨6,true⟩ B0, i64 B1], .st [sl true ⟨1,false⟩ B2, sl true ⟨1,false⟩ B3, sl true ⟨1,false⟩ B4], i64 B5] = some ([i64 A0, tb A1], [])) : S cx f (C12 B0 B1 B2 B3 B4 B5 K) = S cx f (K A0 A1) := call_S h rfl
noncomputable def C15 (B0 : List TV) (B1 : Int) (B2 B3 B4 : List TV) (B5 : Int) (K : (List TV) → Int → Bool → Nd) : Nd := .call 15 [.st [sl true ⟨6,true⟩ B0, i64 B1], .st [sl true ⟨1,false⟩ B2, sl true ⟨1,false⟩ B3, sl true ⟨1,false⟩ B4], i64 B5] fun R => .cons R.1 fun X0 X1 => .slO ⟨1,false⟩ X0 fun A0 => .cons X1 fun X2 X3 => .int .i64 X2 fun A1 => .cons X3 fun X4 X5 => .bool X4 fun A2 => .nil X5 <| .nil R.2 <| K A0 A1 A2
theorem C15_S {f : FuncId} {B0 : List TV} {B1 : Int} {B2 B3 B4 : List TV} {B5 : Int} {A0 : List TV} {A1 : Int} {A2 : Bool} {K : (List TV) → Int → Bool → Nd} (h : tw cx 15 [.st [sl true ⟨6,true⟩ B0, i64 B1], .st [sl true ⟨1,false⟩ B2, sl true ⟨1,false⟩ B3, sl true ⟨1,false⟩ B4], i64 B5] = some ([sl false ⟨1,false⟩ A0, i64 A1, tb A2], [])) : S cx f (C15 B0 B1 B2 B3 B4 B5 K) = S cx f (K A0 A1 A2) := call_S h rfl
noncomputable def C16 (B0 : List TV) (B1 : Int) (B2 B3 B4 : List TV) (B5 : Int) (K : (List TV) → Int → Bool → Nd) : Nd := .call 16 [.st [sl true ⟨6,true⟩ B0, i64 B1], .st [sl true ⟨1,false⟩ B2, sl true ⟨1,false⟩ B3, sl true ⟨1,false⟩ B4], i64 B5] fun R => .cons R.1 fun X0 X1 => .slO ⟨1,false⟩ X0 fun A0 => .cons X1 fun X2 X3 => .int .i64 X2 fun A1 => .cons X3 fun X4 X5 => .bool X4 fun A2 => .nil X5 <| .nil R.2 <| K A0 A1 A2
theorem C16_S {f : FuncId} {B0 : List TV} {B1 : Int} {B2 B3 B4 : List TV} {B5 : Int} {A0 : List TV} {A1 : Int} {A2 : Bool} {K : (List TV) → Int → Bool → Nd} (h : tw cx 16 [.st [sl true ⟨6,true⟩ B0, i64 B1], .st [sl true ⟨1,false⟩ B2, sl true ⟨1,false⟩ B3, sl true ⟨1,false⟩ B4], i64 B5] = some ([sl false ⟨1,false⟩ A0, i64 A1, tb A2], [])) : S cx f (C16 B0 B1 B2 B3 B4 B5 K) = S cx f (K A0 A1 A2) := call_S h rfl
noncomputable def C18 (B0 : List TV) (B1 B2 : Int) (K : Int → (List TV) → Int → Nd) : Nd := .call 18 [.st [sl false ⟨6,true⟩ B0, i64 B1], i64 B2] fun R => .cons R.1 fun X0 X1 => .int .i64 X0 fun A0 => .nil X1 <| .cons R.2 fun X2 X3 => .st X2 fun X4 => .cons X4 fun X5 X6 => .slO ⟨6,true⟩ X5 fun A1 => .cons X6 fun X7 X8 => .int .i64 X7 fun A2 => .nil X8 <| .nil X3 <| K A0 A1 A2
theorem C18_S {f : FuncId} {B0 : List TV} {B1 B2 A0 : Int} {A1 : List TV} {A2 : Int} {K : Int → (List TV) → Int → Nd} (h : tw cx 18 [.st [sl false ⟨6,true⟩ B0, i64 B1], i64 B2] = some ([i64 A0], [.st [sl false ⟨6,true⟩ A1, i64 A2]])) : S cx f (C18 B0 B1 B2 K) = S cx f (K A0 A1 A2) := call_S h rfl
noncomputable def C19 (B0 B1 B2 : List TV) (B3 : Int) (K : Int → (List TV) → (List TV) → (List TV) → Nd) : Nd := .call 19 [.st [sl false ⟨1,false⟩ B0, sl false ⟨1,false⟩ B1, sl false ⟨1,false⟩ B2], i64 B3] fun R => .cons R.1 fun X0 X1 => .int .i64 X0 fun A0 => .nil X1 <| .cons R.2 fun X2 X3 => .st X2 fun X4 => .cons X4 fun X5 X6 => .slO ⟨1,false⟩ X5 fun A1 => .cons X6 fun X7 X8 => .slO ⟨1,false⟩ X7 fun A2 => .cons X8 fun X9 X10 => .slO ⟨1,false⟩ X9 fun A3 => .nil X10 <| .nil X3 <| K A0 A1 A2 A3
theorem C19_S {f : FuncId} {B0 B1 B2 : List TV} {B3 A0 : Int} {A1 A2 A3 : List TV} {K : Int → (List TV) → (List TV) → (List TV) → Nd} (h : tw cx 19 [.st [sl false ⟨1,false⟩ B0, sl false ⟨1,false⟩ B1, sl false ⟨1,false⟩ B2], i64 B3] = some ([i64 A0], [.st [sl false ⟨1,false⟩ A1, sl false ⟨1,false⟩ A2, sl false ⟨1,false⟩ A3]])) : S cx f (C19 B0 B1 B2 B3 K) = S cx f (K A0 A1 A2 A3) := call_S h rfl
noncomputable def C17 (B0 B1 : List TV) (K : Bool → Nd) : Nd := .call 17 [sl true ⟨1,false⟩ B0, sl true ⟨1,false⟩ B1] fun R => .cons R.1 fun X0 X1 => .bool X0 fun A0 => .nil X1 <| .nil R.2 <| K A0
theorem C17_S {f : FuncId} {B0 B1 : List TV} {A0 : Bool} {K : Bool → Nd} (h : tw cx 17 [sl true ⟨1,false⟩ B0, sl true ⟨1,false⟩ B1] = some ([tb A0], [])) : S cx f (C17 B0 B1 K) = S cx f (K A0) := call_S h rfl
noncomputable def C20 (B0 : List TV) (B1 : Int) (K : Int → (List TV) → Nd) : Nd := .call 20 [sl false ⟨1,false⟩ B0, i64 B1] fun R => .cons R.1 fun X0 X1 => .int .i64 X0 fun A0 => .nil X1 <| .cons R.2 fun X2 X3 => .slO ⟨1,false⟩ X2 fun A1 => .nil X3 <| K A0 A1
theorem C20_S {f : FuncId} {B0 : List TV} {B1 A0 : Int} {A1 : List TV} {K : Int → (List TV) → Nd} (h : tw cx 20 [sl false ⟨1,false⟩ B0, i64 B1] = some ([i64 A0], [sl false ⟨1,false⟩ A1])) : S cx f (C20 B0 B1 K) = S cx f (K A0 A1) := call_S h rfl
noncomputable def C21 (B0 : List TV) (B1 : Int) (K : Int → Nd) : Nd := .call 21 [sl true ⟨1,false⟩ B0, i64 B1] fun R => .cons R.1 fun X0 X1 => .int .i64 X0 fun A0 => .nil X1 <| .nil R.2 <| K A0
theorem C21_S {f : FuncId} {B0 : List TV} {B1 A0 : Int} {K : Int → Nd} (h : tw cx 21 [sl true ⟨1,false⟩ B0, i64 B1] = some ([i64 A0], [])) : S cx f (C21 B0 B1 K) = S cx f (K A0) := call_S h rfl
noncomputable def C22 (B0 : List TV) (B1 : Int) (B2 B3 B4 : List TV) (B5 : Int) (K : (List TV) → (List TV) → (List TV) → Int → Int → Bool → Nd) : Nd := .call 22 [.st [sl true ⟨6,true⟩ B0, i64 B1], .st [sl true ⟨1,false⟩ B2, sl true ⟨1,false⟩ B3, sl true ⟨1,false⟩ B4], i64 B5] fun R => .cons R.1 fun X0 X1 => .st X0 fun X2 => .cons X2 fun X3 X4 => .slO ⟨1,false⟩ X3 fun A0 => .cons X4 fun X5 X6 => .slO ⟨1,false⟩ X5 fun A1 => .cons X6 fun X7 X8 => .slO ⟨1,false⟩ X7 fun A2 => .nil X8 <| .cons X1 fun X9 X10 => .int .i64 X9 fun A3 => .cons X10 fun X11 X12 => .int .i64 X11 fun A4 => .cons X12 fun X13 X14 => .bool X13 fun A5 => .nil X14 <| .nil R.2 <| K A0 A1 A2 A3 A4 A5
noncomputable def C41 (B0 : List TV) (B1 : Int) (K : Int → Nd) : Nd := .call 41 [sl true ⟨6,true⟩ B0, i64 B1] fun R => .cons R.1 fun X0 X1 => .int .i64 X0 fun A0 => .nil X1 <| .nil R.2 <| K A0
theorem C41_S {f : FuncId} {B0 : List TV} {B1 A0 : Int} {K : Int → Nd} (h : tw cx 41 [sl true ⟨6,true⟩ B0, i64 B1] = some ([i64 A0], [])) : S cx f (C41 B0 B1 K) = S cx f (K A0) := call_S h rfl
noncomputable def C42 (B0 : List TV) (B1 : Int) (K : Int → Nd) : Nd := .call 42 [sl true ⟨1,false⟩ B0, i64 B1] fun R => .cons R.1 fun X0 X1 => .int .i64 X0 fun A0 => .nil X1 <| .nil R.2 <| K A0
theorem C42_S {f : FuncId} {B0 : List TV} {B1 A0 : Int} {K : Int → Nd} (h : tw cx 42 [sl true ⟨1,false⟩ B0, i64 B1] = some ([i64 A0], [])) : S cx f (C42 B0 B1 K) = S cx f (K A0) := call_S h rfl
noncomputable def C43 (B0 : List TV) (B1 : Int) (K : Bool → Nd) : Nd := .call 43 [.st [sl true ⟨6,true⟩ B0, i64 B1]] fun R => .cons R.1 fun X0 X1 => .bool X0 fun A0 => .nil X1 <| .nil R.2 <| K A0
theorem C43_S {f : FuncId} {B0 : List TV} {B1 : Int} {A0 : Bool} {K : Bool → Nd} (h : tw cx 43 [.st [sl true ⟨6,true⟩ B0, i64 B1]] = some ([tb A0], [])) : S cx f (C43 B0 B1 K) = S cx f (K A0) := call_S h rfl
noncomputable def C44 (B0 B1 B2 : List TV) (K : Bool → Nd) : Nd := .call 44 [.st [sl true ⟨1,false⟩ B0, sl true ⟨1,false⟩ B1, sl true ⟨1,false⟩ B2]] fun R => .cons R.1 fun X0 X1 => .bool X0 fun A0 => .nil X1 <| .nil R.2 <| K A0
theorem C44_S {f : FuncId} {B0 B1 B2 : List TV} {A0 : Bool} {K : Bool → Nd} (h : tw cx 44 [.st [sl true ⟨1,false⟩ B0, sl true ⟨1,false⟩ B1, sl true ⟨1,false⟩ B2]] = some ([tb A0], [])) : S cx f (C44 B0 B1 B2 K) = S cx f (K A0) := call_S h rfl
noncomputable def C45 (B0 : Int) (K : Bool → Nd) : Nd := .call 45 [i64 B0] fun R => .cons R.1 fun X0 X1 => .bool X0 fun A0 => .nil X1 <| .nil R.2 <| K A0
theorem C45_S {f : FuncId} {B0 : Int} {A0 : Bool} {K : Bool → Nd} (h : tw cx 45 [i64 B0] = some ([tb A0], [])) : S cx f (C45 B0 K) = S cx f (K A0) := call_S h rfl
noncomputable def C46 (B0 : List TV) (B1 : Int) (B2 B3 B4 : List TV) (B5 : Int) (K : (List TV) → (List TV) → (List TV) → Int → Int → (List TV) → Int → Int → Nd) : Nd := .call 46 [.st [sl true ⟨6,true⟩ B0, i64 B1], .st [sl true ⟨1,false⟩ B2, sl true ⟨1,false⟩ B3, sl true ⟨1,false⟩ B4], i64 B5] fun R => .cons R.1 fun X0 X1 => .st X0 fun X2 => .cons X2 fun X3 X4 => .st X3 fun X5 => .cons X5 fun X6 X7 => .slO ⟨1,false⟩ X6 fun A0 => .cons X7 fun X8 X9 => .slO ⟨1,false⟩ X8 fun A1 => .cons X9 fun X10 X11 => .slO ⟨1,false⟩ X10 fun A2 => .nil X11 <| .cons X4 fun X12 X13 => .int .i64 X12 fun A3 => .cons X13 fun X14 X15 => .int .i64 X14 fun A4 => .cons X15 fun X16 X17 => .slO ⟨1,false⟩ X16 fun A5 => .cons X17 fun X18 X19 => .int .i64 X18 fun A6 => .cons X19 fun X20 X21 => .int .i64 X20 fun A7 => .nil X21 <| .nil X1 <| .nil R.2 <| K A0 A1 A2 A3 A4 A5 A6 A7
theorem C46_S {f : FuncId} {B0 : List TV} {B1 : Int} {B2 B3 B4 : List TV} {B5 : Int} {A0 A1 A2 : List TV} {A3 A4 : Int} {A5 : List TV} {A6 A7 : Int} {K : (List TV) → (List TV) → (List TV) → Int → Int → (List TV) → Int → Int → Nd} (h : tw cx 46 [.st [sl true ⟨6,true⟩ B0, i64 B1], .st [sl true ⟨1,false⟩ B2, sl true ⟨1,false⟩ B3, sl true ⟨1,false⟩ B4], i64 B5] = some ([.st [.st [sl false ⟨1,false⟩ A0, sl false ⟨1,false⟩ A1, sl false ⟨1,false⟩ A2], i64 A3, i64 A4, sl false ⟨1,false⟩ A5, i64 A6, i64 A7]], [])) : S cx f (C46 B0 B1 B2 B3 B4 B5 K) = S cx f (K A0 A1 A2 A3 A4 A5 A6 A7) := call_S h rfl
noncomputable def C47 (B0 : List TV) (K : (List TV) → Nd) : Nd := .call 47 [sl true ⟨6,true⟩ B0] fun R => .cons R.1 fun X0 X1 => .slO ⟨6,true⟩ X0 fun A0 => .nil X1 <| .nil R.2 <| K A0
theorem C47_S {f : FuncId} {B0 A0 : List TV} {K : (List TV) → Nd} (h : tw cx 47 [sl true ⟨6,true⟩ B0] = some ([sl false ⟨6,true⟩ A0], [])) : S cx f (C47 B0 K) = S cx f (K A0) := call_S h rfl
noncomputable def C48 (B0 : List TV) (K : (List TV) → Nd) : Nd := .call 48 [sl true ⟨1,false⟩ B0] fun R => .cons R.1 fun X0 X1 => .slO ⟨1,false⟩ X0 fun A0 => .nil X1 <| .nil R.2 <| K A0
theorem C48_S {f : FuncId} {B0 A0 : List TV} {K : (List TV) → Nd} (h : tw cx 48 [sl true ⟨1,false⟩ B0] = some ([sl false ⟨1,false⟩ A0], [])) : S cx f (C48 B0 K) = S cx f (K A0) := call_S h rfl
noncomputable def V3 (t : TV) (K : (List TV) → (List TV) → (List TV) → Nd) : Nd := .st t fun L => .cons L fun TV0 L0 => .slO ⟨1,false⟩ TV0 fun A0 => .cons L0 fun TV1 L1 => .slO ⟨1,false⟩ TV1 fun A1 => .cons L1 fun TV2 L2 => .slO ⟨1,false⟩ TV2 fun A2 => .nil L2 <| K A0 A1 A2
noncomputable def C50 (B0 B1 : List TV) (K : Bool → Nd) : Nd := .call 50 [sl true ⟨6,true⟩ B0, sl true ⟨6,true⟩ B1] fun R => .cons R.1 fun X0 X1 => .bool X0 fun A0 => .nil X1 <| .nil R.2 <| K A0
theorem C50_S {f : FuncId} {B0 B1 : List TV} {A0 : Bool} {K : Bool → Nd} (h : tw cx 50 [sl true ⟨6,true⟩ B0, sl true ⟨6,true⟩ B1] = some ([tb A0], [])) : S cx f (C50 B0 B1 K) = S cx f (K A0) := call_S h rfl
noncomputable def C52 (B0 B1 B2 : List TV) (K : (List TV) → (List TV) → (List TV) → Nd) : Nd := .call 52 [.st [sl true ⟨1,false⟩ B0, sl true ⟨1,false⟩ B1, sl true ⟨1,false⟩ B2]] fun R => .cons R.1 fun X0 X1 => .st X0 fun X2 => .cons X2 fun X3 X4 => .slO ⟨1,false⟩ X3 fun A0 => .cons X4 fun X5 X6 => .slO ⟨1,false⟩ X5 fun A1 => .cons X6 fun X7 X8 => .slO ⟨1,false⟩ X7 fun A2 => .nil X8 <| .nil X1 <| .nil R.2 <| K A0 A1 A2
theorem C52_S {f : FuncId} {B0 B1 : List TV} {B2 A0 : List TV} {A1 A2 : List TV} {K : (List TV) → (List TV) → (List TV) → Nd} (h : tw cx 52 [.st [sl true ⟨1,false⟩ B0, sl true ⟨1,false⟩ B1, sl true ⟨1,false⟩ B2]] = some ([.st [sl false ⟨1,false⟩ A0, sl false ⟨1,false⟩ A1, sl false ⟨1,false⟩ A2]], [])) : S cx f (C52 B0 B1 B2 K) = S cx f (K A0 A1 A2) := call_S h rfl
noncomputable def V6 (t : TV) (K : (List TV) → (List TV) → Int → Int → (List TV) → (List TV) → Nd) : Nd := .st t fun L => .cons L fun TV0 L0 => .slR ⟨1,false⟩ TV0 fun A0 => .cons L0 fun TV1 L1 => .slR ⟨6,false⟩ TV1 fun A1 => .cons L1 fun TV2 L2 => .int .i64 TV2 fun A2 => .cons L2 fun TV3 L3 => .int .i64 TV3 fun A3 => .cons L3 fun TV4 L4 => .slR ⟨1,false⟩ TV4 fun A4 => .cons L4 fun TV5 L5 => .slR ⟨1,true⟩ TV5 fun A5 => .nil L5 <| K A0 A1 A2 A3 A4 A5
theorem V6_S {f : FuncId} {A0 A1 : List TV} {A2 A3 : Int} {A4 A5 : List TV} {q0 q1 : Bool} {q2 q3 : Bool} {K : (List TV) → (List TV) → Int → Int → (List TV) → (List TV) → Nd} : S cx f (V6 (.st [sl q0 ⟨1,false⟩ A0, sl q1 ⟨6,false⟩ A1, i64 A2, i64 A3, sl q2 ⟨1,false⟩ A4, sl q3 ⟨1,true⟩ A5]) K) = S cx f (K A0 A1 A2 A3 A4 A5) := rfl
noncomputable def C79 (B0 B1 : List TV) (B2 B3 : Int) (B4 B5 : List TV) (B6 : Int) (K : Int → Nd) : Nd := .call 79 [.st [sl true ⟨1,false⟩ B0, sl true ⟨6,false⟩ B1, i64 B2, i64 B3, sl true ⟨1,false⟩ B4, sl true ⟨1,true⟩ B5], i64 B6] fun R => .cons R.1 fun X0 X1 => .int .i64 X0 fun A0 => .nil X1 <| .nil R.2 <| K A0
theorem C79_S {f : FuncId} {B0 B1 : List TV} {B2 B3 : Int} {B4 B5 : List TV} {B6 A0 : Int} {K : Int → Nd} (h : tw cx 79 [.st [sl true ⟨1,false⟩ B0, sl true ⟨6,false⟩ B1, i64 B2, i64 B3, sl true ⟨1,false⟩ B4, sl true ⟨1,true⟩ B5], i64 B6] = some ([i64 A0], [])) : S cx f (C79 B0 B1 B2 B3 B4 B5 B6 K) = S cx f (K A0) := call_S h rfl
noncomputable def C80 (B0 B1 B2 : Int) (K : Bool → Nd) : Nd := .call 80 [i64 B0, i64 B1, i64 B2] fun R => .cons R.1 fun X0 X1 => .bool X0 fun A0 => .nil X1 <| .nil R.2 <| K A0
theorem C80_S {f : FuncId} {B0 B1 B2 : Int} {A0 : Bool} {K : Bool → Nd} (h : tw cx 80 [i64 B0, i64 B1, i64 B2] = some ([tb A0], [])) : S cx f (C80 B0 B1 B2 K) = S cx f (K A0) := call_S h rfl
noncomputable def C81 (B0 : List TV) (B1 : Int) (B2 B3 : List TV) (B4 B5 : Int) (B6 B7 : List TV) (K : Bool → Nd) : Nd := .call 81 [.st [sl true ⟨6,true⟩ B0, i64 B1], .st [sl true ⟨1,false⟩ B2, sl true ⟨6,false⟩ B3, i64 B4, i64 B5, sl true ⟨1,false⟩ B6, sl true ⟨1,true⟩ B7]] fun R => .cons R.1 fun X0 X1 => .bool X0 fun A0 => .nil X1 <| .nil R.2 <| K A0
theorem C81_S {f : FuncId} {B0 : List TV} {B1 : Int} {B2 B3 : List TV} {B4 B5 : Int} {B6 B7 : List TV} {A0 : Bool} {K : Bool → Nd} (h : tw cx 81 [.st [sl true ⟨6,true⟩ B0, i64 B1], .st [sl true ⟨1,false⟩ B2, sl true ⟨6,false⟩ B3, i64 B4, i64 B5, sl true ⟨1,false⟩ B6, sl true ⟨1,true⟩ B7]] = some ([tb A0], [])) : S cx f (C81 B0 B1 B2 B3 B4 B5 B6 B7 K) = S cx f (K A0) := call_S h rfl
noncomputable def C82 (B0 : List TV) (B1 : Int) (K : (List TV) → Bool → Nd) : Nd := .call 82 [.st [sl true ⟨6,true⟩ B0, i64 B1]] fun R => .cons R.1 fun X0 X1 => .slO ⟨1,false⟩ X0 fun A0 => .cons X1 fun X2 X3 => .bool X2 fun A1 => .nil X3 <| .nil R.2 <| K A0 A1
theorem C82_S {f : FuncId} {B0 : List TV} {B1 : Int} {A0 : List TV} {A1 : Bool} {K : (List TV) → Bool → Nd} (h : tw cx 82 [.st [sl true ⟨6,true⟩ B0, i64 B1]] = some ([sl false ⟨1,false⟩ A0, tb A1], [])) : S cx f (C82 B0 B1 K) = S cx f (K A0 A1) := call_S h rfl
noncomputable def C83 (B0 : List TV) (B1 : Int) (K : (List TV) → Nd) : Nd := .call 83 [.st [sl true ⟨6,true⟩ B0, i64 B1]] fun R => .cons R.1 fun X0 X1 => .st X0 fun X2 => .cons X2 fun X3 X4 => .slO ⟨1,true⟩ X3 fun A0 => .nil X4 <| .nil X1 <| .nil R.2 <| K A0
theorem C83_S {f : FuncId} {B0 : List TV} {B1 : Int} {A0 : List TV} {K : (List TV) → Nd} (h : tw cx 83 [.st [sl true ⟨6,true⟩ B0, i64 B1]] = some ([.st [sl false ⟨1,true⟩ A0]], [])) : S cx f (C83 B0 B1 K) = S cx f (K A0) := call_S h rfl
noncomputable def C84 (B0 : List TV) (K : (List TV) → Nd) : Nd := .call 84 [.st [sl true ⟨1,true⟩ B0]] fun R => .cons R.1 fun X0 X1 => .slO ⟨1,true⟩ X0 fun A0 => .nil X1 <| .nil R.2 <| K A0
theorem C84_S {f : FuncId} {B0 A0 : List TV} {K : (List TV) → Nd} (h : tw cx 84 [.st [sl true ⟨1,true⟩ B0]] = some ([sl false ⟨1,true⟩ A0], [])) : S cx f (C84 B0 K) = S cx f (K A0) := call_S h rfl
noncomputable def C85 (B0 B1 : List TV) (B2 B3 : List TV) (B4 : Int) (K : Bool → Nd) : Nd := .call 85 [sl true ⟨1,false⟩ B0, sl true ⟨1,false⟩ B1, sl true ⟨1,false⟩ B2, sl true ⟨1,false⟩ B3, i64 B4] fun R => .cons R.1 fun X0 X1 => .bool X0 fun A0 => .nil X1 <| .nil R.2 <| K A0
theorem C85_S {f : FuncId} {B0 B1 : List TV} {B2 B3 : List TV} {B4 : Int} {A0 : Bool} {K : Bool → Nd} (h : tw cx 85 [sl true ⟨1,false⟩ B0, sl true ⟨1,false⟩ B1, sl true ⟨1,false⟩ B2, sl true ⟨1,false⟩ B3, i64 B4] = some ([tb A0], [])) : S cx f (C85 B0 B1 B2 B3 B4 K) = S cx f (K A0) := call_S h rfl
noncomputable def C87 (B0 : Int) (K : Bool → Nd) : Nd := .call 87 [i64 B0] fun R => .cons R.1 fun X0 X1 => .bool X0 fun A0 => .nil X1 <| .nil R.2 <| K A0
theorem C87_S {f : FuncId} {B0 : Int} {A0 : Bool} {K : Bool → Nd} (h : tw cx 87 [i64 B0] = some ([tb A0], [])) : S cx f (C87 B0 K) = S cx f (K A0) := call_S h rfl
noncomputable def V6_1 (t : TV) (K : Int → Int → Int → Int → Int → Int → Nd) : Nd := .st t fun L => .cons L fun TV0 L0 => .int .i64 TV0 fun A0 => .cons L0 fun TV1 L1 => .int .i64 TV1 fun A1 => .cons L1 fun TV2 L2 => .int .i64 TV2 fun A2 => .cons L2 fun TV3 L3 => .int .i64 TV3 fun A3 => .cons L3 fun TV4 L4 => .int .i64 TV4 fun A4 => .cons L4 fun TV5 L5 => .int .i64 TV5 fun A5 => .nil L5 <| K A0 A1 A2 A3 A4 A5
theorem V6_1_S {f : FuncId} {A0 A1 : Int} {A2 A3 : Int} {A4 A5 : Int} {K : Int → Int → Int → Int → Int → Int → Nd} : S cx f (V6_1 (.st [i64 A0, i64 A1, i64 A2, i64 A3, i64 A4, i64 A5]) K) = S cx f (K A0 A1 A2 A3 A4 A5) := rfl
noncomputable def C86 (B0 B1 : Int) (B2 B3 : Int) (B4 B5 : Int) (K : (List TV) → Nd) : Nd := .call 86 [.st [i64 B0, i64 B1, i64 B2, i64 B3, i64 B4, i64 B5]] fun R => .cons R.1 fun X0 X1 => .slO ⟨1,false⟩ X0 fun A0 => .nil X1 <| .nil R.2 <| K A0
theorem C86_S {f : FuncId} {B0 B1 : Int} {B2 B3 : Int} {B4 B5 : Int} {A0 : List TV} {K : (List TV) → Nd} (h : tw cx 86 [.st [i64 B0, i64 B1, i64 B2, i64 B3, i64 B4, i64 B5]] = some ([sl false ⟨1,false⟩ A0], [])) : S cx f (C86 B0 B1 B2 B3 B4 B5 K) = S cx f (K A0) := call_S h rfl
noncomputable def C88 (B0 B1 : List TV) (B2 B3 : Int) (B4 B5 : List TV) (K : (List TV) → Nd) : Nd := .call 88 [.st [sl true ⟨1,false⟩ B0, sl true ⟨6,false⟩ B1, i64 B2, i64 B3, sl true ⟨1,false⟩ B4, sl true ⟨1,true⟩ B5]] fun R => .cons R.1 fun X0 X1 => .slO ⟨1,false⟩ X0 fun A0 => .nil X1 <| .nil R.2 <| K A0
theorem C88_S {f : FuncId} {B0 B1 : List TV} {B2 B3 : Int} {B4 B5 A0 : List TV} {K : (List TV) → Nd} (h : tw cx 88 [.st [sl true ⟨1,false⟩ B0, sl true ⟨6,false⟩ B1, i64 B2, i64 B3, sl true ⟨1,false⟩ B4, sl true ⟨1,true⟩ B5]] = some ([sl false ⟨1,false⟩ A0], [])) : S cx f (C88 B0 B1 B2 B3 B4 B5 K) = S cx f (K A0) := call_S h rfl
noncomputable def C89 (B0 : List TV) (B1 : Int) (K : Bool → Nd) : Nd := .call 89 [sl true ⟨1,false⟩ B0, i64 B1] fun R => .cons R.1 fun X0 X1 => .bool X0 fun A0 => .nil X1 <| .nil R.2 <| K A0
theorem C89_S {f : FuncId} {B0 : List TV} {B1 : Int} {A0 : Bool} {K : Bool → Nd} (h : tw cx 89 [sl true ⟨1,false⟩ B0, i64 B1] = some ([tb A0], [])) : S cx f (C89 B0 B1 K) = S cx f (K A0) := call_S h rfl
noncomputable def C90 (B0 : List TV) (B1 : Int) (B2 B3 B4 : List TV) (K : (List TV) → (List TV) → (List TV) → Int → Int → (List TV) → Int → Int → Nd) : Nd := .call 90 [.st [sl true ⟨6,true⟩ B0, i64 B1], .st [sl true ⟨1,false⟩ B2, sl true ⟨1,false⟩ B3, sl true ⟨1,false⟩ B4]] fun R => .cons R.1 fun X0 X1 => .st X0 fun X2 => .cons X2 fun X3 X4 => .st X3 fun X5 => .cons X5 fun X6 X7 => .slO ⟨1,false⟩ X6 fun A0 => .cons X7 fun X8 X9 => .slO ⟨1,false⟩ X8 fun A1 => .cons X9 fun X10 X11 => .slO ⟨1,false⟩ X10 fun A2 => .nil X11 <| .cons X4 fun X12 X13 => .int .i64 X12 fun A3 => .cons X13 fun X14 X15 => .int .i64 X14 fun A4 => .cons X15 fun X16 X17 => .slO ⟨1,false⟩ X16 fun A5 => .cons X17 fun X18 X19 => .int .i64 X18 fun A6 => .cons X19 fun X20 X21 => .int .i64 X20 fun A7 => .nil X21 <| .nil X1 <| .nil R.2 <| K A0 A1 A2 A3 A4 A5 A6 A7
theorem C90_S {f : FuncId} {B0 : List TV} {B1 : Int} {B2 B3 : List TV} {B4 A0 : List TV} {A1 A2 : List TV} {A3 A4 : Int} {A5 : List TV} {A6 A7 : Int} {K : (List TV) → (List TV) → (List TV) → Int → Int → (List TV) → Int → Int → Nd} (h : tw cx 90 [.st [sl true ⟨6,true⟩ B0, i64 B1], .st [sl true ⟨1,false⟩ B2, sl true ⟨1,false⟩ B3, sl true ⟨1,false⟩ B4]] = some ([.st [.st [sl false ⟨1,false⟩ A0, sl false ⟨1,false⟩ A1, sl false ⟨1,false⟩ A2], i64 A3, i64 A4, sl false ⟨1,false⟩ A5, i64 A6, i64 A7]], [])) : S cx f (C90 B0 B1 B2 B3 B4 K) = S cx f (K A0 A1 A2 A3 A4 A5 A6 A7) := call_S h rfl
noncomputable def C92 (B0 B1 : List TV) (B2 B3 : Int) (B4 B5 B6 : List TV) (K : Int → Nd) : Nd := .call 92 [.st [sl true ⟨1,false⟩ B0, sl true ⟨6,false⟩ B1, i64 B2, i64 B3, sl true ⟨1,false⟩ B4, sl true ⟨1,true⟩ B5], sl true ⟨1,false⟩ B6] fun R => .cons R.1 fun X0 X1 => .int .i64 X0 fun A0 => .nil X1 <| .nil R.2 <| K A0
theorem C92_S {f : FuncId} {B0 B1 : List TV} {B2 B3 : Int} {B4 B5 B6 : List TV} {A0 : Int} {K : Int → Nd} (h : tw cx 92 [.st [sl true ⟨1,false⟩ B0, sl true ⟨6,false⟩ B1, i64 B2, i64 B3, sl true ⟨1,false⟩ B4, sl true ⟨1,true⟩ B5], sl true ⟨1,false⟩ B6] = some ([i64 A0], [])) : S cx f (C92 B0 B1 B2 B3 B4 B5 B6 K) = S cx f (K A0) := call_S h rfl
noncomputable def C132 (B0 B1 B2 : Int) (K : Int → Bool → Nd) : Nd := .call 132 [i64 B0, i64 B1, i64 B2] fun R => .cons R.1 fun X0 X1 => .int .i64 X0 fun A0 => .cons X1 fun X2 X3 => .bool X2 fun A1 => .nil X3 <| .nil R.2 <| K A0 A1
theorem C132_S {f : FuncId} {B0 B1 : Int} {B2 A0 : Int} {A1 : Bool} {K : Int → Bool → Nd} (h : tw cx 132 [i64 B0, i64 B1, i64 B2] = some ([i64 A0, tb A1], [])) : S cx f (C132 B0 B1 B2 K) = S cx f (K A0 A1) := call_S h rfl
noncomputable def C93 (B0 B1 : List TV) (B2 B3 : Int) (B4 B5 : List TV) (K : (List TV) → (List TV) → Int → Int → (List TV) → (List TV) → Nd) : Nd := .call 93 [.st [sl true ⟨1,false⟩ B0, sl true ⟨6,false⟩ B1, i64 B2, i64 B3, sl true ⟨1,false⟩ B4, sl true ⟨1,true⟩ B5]] fun R => .cons R.1 fun X0 X1 => .st X0 fun X2 => .cons X2 fun X3 X4 => .slO ⟨1,false⟩ X3 fun A0 => .cons X4 fun X5 X6 => .slO ⟨6,false⟩ X5 fun A1 => .cons X6 fun X7 X8 => .int .i64 X7 fun A2 => .cons X8 fun X9 X10 => .int .i64 X9 fun A3 => .cons X10 fun X11 X12 => .slO ⟨1,false⟩ X11 fun A4 => .cons X12 fun X13 X14 => .slO ⟨1,true⟩ X13 fun A5 => .nil X14 <| .nil X1 <| .nil R.2 <| K A0 A1 A2 A3 A4 A5
theorem C93_S {f : FuncId} {B0 B1 : List TV} {B2 B3 : Int} {B4 B5 : List TV} {A0 A1 : List TV} {A2 A3 : Int} {A4 A5 : List TV} {K : (List TV) → (List TV) → Int → Int → (List TV) → (List TV) → Nd} (h : tw cx 93 [.st [sl true ⟨1,false⟩ B0, sl true ⟨6,false⟩ B1, i64 B2, i64 B3, sl true ⟨1,false⟩ B4, sl true ⟨1,true⟩ B5]] = some ([.st [sl false ⟨1,false⟩ A0, sl false ⟨6,false⟩ A1, i64 A2, i64 A3, sl false ⟨1,false⟩ A4, sl false ⟨1,true⟩ A5]], [])) : S cx f (C93 B0 B1 B2 B3 B4 B5 K) = S cx f (K A0 A1 A2 A3 A4 A5) := call_S h rfl
noncomputable def V2 (t : TV) (K : (List TV) → Int → Nd) : Nd := .st t fun L => .cons L fun TV0 L0 => .slS ⟨6,true⟩ TV0 fun A0 => .cons L0 fun TV1 L1 => .int .i64 TV1 fun A1 => .nil L1 <| K A0 A1
noncomputable def C56 (B0 B1 B2 : List TV) (K : Bool → Nd) : Nd := .call 56 [.st [sl true ⟨1,false⟩ B0, sl true ⟨1,false⟩ B1, sl true ⟨1,false⟩ B2]] fun R => .cons R.1 fun X0 X1 => .bool X0 fun A0 => .nil X1 <| .nil R.2 <| K A0
theorem C56_S {f : FuncId} {B0 B1 B2 : List TV} {A0 : Bool} {K : Bool → Nd} (h : tw cx 56 [.st [sl true ⟨1,false⟩ B0, sl true ⟨1,false⟩ B1, sl true ⟨1,false⟩ B2]] = some ([tb A0], [])) : S cx f (C56 B0 B1 B2 K) = S cx f (K A0) := call_S h rfl
noncomputable def C57 (B0 B1 B2 : Int) (K : Bool → Nd) : Nd := .call 57 [i64 B0, i64 B1, i64 B2] fun R => .cons R.1 fun X0 X1 => .bool X0 fun A0 => .nil X1 <| .nil R.2 <| K A0
theorem C57_S {f : FuncId} {B0 B1 B2 : Int} {A0 : Bool} {K : Bool → Nd} (h : tw cx 57 [i64 B0, i64 B1, i64 B2] = some ([tb A0], [])) : S cx f (C57 B0 B1 B2 K) = S cx f (K A0) := call_S h rfl
noncomputable def C96 (B0 B1 : List TV) (B2 B3 : Int) (B4 B5 : List TV) (B6 B7 : List TV) (B8 B9 : Int) (B10 B11 : List TV) (K : Bool → Nd) : Nd := .call 96 [.st [sl true ⟨1,false⟩ B0, sl true ⟨6,false⟩ B1, i64 B2, i64 B3, sl true ⟨1,false⟩ B4, sl true ⟨1,true⟩ B5], .st [sl true ⟨1,false⟩ B6, sl true ⟨6,false⟩ B7, i64 B8, i64 B9, sl true ⟨1,false⟩ B10, sl true ⟨1,true⟩ B11]] fun R => .cons R.1 fun X0 X1 => .bool X0 fun A0 => .nil X1 <| .nil R.2 <| K A0
theorem C96_S {f : FuncId} {B0 B1 : List TV} {B2 B3 : Int} {B4 B5 : List TV} {B6 B7 : List TV} {B8 B9 : Int} {B10 B11 : List TV} {A0 : Bool} {K : Bool → Nd} (h : tw cx 96 [.st [sl true ⟨1,false⟩ B0, sl true ⟨6,false⟩ B1, i64 B2, i64 B3, sl true ⟨1,false⟩ B4, sl true ⟨1,true⟩ B5], .st [sl true ⟨1,false⟩ B6, sl true ⟨6,false⟩ B7, i64 B8, i64 B9, sl true ⟨1,false⟩ B10, sl true ⟨1,true⟩ B11]] = some ([tb A0], [])) : S cx f (C96 B0 B1 B2 B3 B4 B5 B6 B7 B8 B9 B10 B11 K) = S cx f (K A0) := call_S h rfl
noncomputable def C105 (B0 : List TV) (K : Bool → Nd) : Nd := .call 105 [sl true ⟨1,false⟩ B0] fun R => .cons R.1 fun X0 X1 => .bool X0 fun A0 => .nil X1 <| .nil R.2 <| K A0
theorem C105_S {f : FuncId} {B0 : List TV} {A0 : Bool} {K : Bool → Nd} (h : tw cx 105 [sl true ⟨1,false⟩ B0] = some ([tb A0], [])) : S cx f (C105 B0 K) = S cx f (K A0) := call_S h rfl
noncomputable def C106 (B0 : List TV) (K : (List TV) → Nd) : Nd := .call 106 [sl true ⟨1,false⟩ B0] fun R => .cons R.1 fun X0 X1 => .slO ⟨1,false⟩ X0 fun A0 => .nil X1 <| .nil R.2 <| K A0
theorem C106_S {f : FuncId} {B0 A0 : List TV} {K : (List TV) → Nd} (h : tw cx 106 [sl true ⟨1,false⟩ B0] = some ([sl false ⟨1,false⟩ A0], [])) : S cx f (C106 B0 K) = S cx f (K A0) := call_S h rfl
noncomputable def C111 (B0 : Bool) (K : Int → Nd) : Nd := .call 111 [tb B0] fun R => .cons R.1 fun X0 X1 => .int .i64 X0 fun A0 => .nil X1 <| .nil R.2 <| K A0
theorem C111_S {f : FuncId} {B0 : Bool} {A0 : Int} {K : Int → Nd} (h : tw cx 111 [tb B0] = some ([i64 A0], [])) : S cx f (C111 B0 K) = S cx f (K A0) := call_S h rfl
noncomputable def C119 (B0 : List TV) (B1 : Int) (K : Bool → Nd) : Nd := .call 119 [sl true ⟨1,false⟩ B0, i64 B1] fun R => .cons R.1 fun X0 X1 => .bool X0 fun A0 => .nil X1 <| .nil R.2 <| K A0
theorem C119_S {f : FuncId} {B0 : List TV} {B1 : Int} {A0 : Bool} {K : Bool → Nd} (h : tw cx 119 [sl true ⟨1,false⟩ B0, i64 B1] = some ([tb A0], [])) : S cx f (C119 B0 B1 K) = S cx f (K A0) := call_S h rfl
noncomputable def C122 (B0 : List TV) (B1 : Int) (K : Bool → Nd) : Nd := .call 122 [sl true ⟨6,false⟩ B0, .cl 123 [.pt true () (i64 B1)]] fun R => .cons R.1 fun X0 X1 => .bool X0 fun A0 => .nil X1 <| .nil R.2 <| K A0
theorem C122_S {f : FuncId} {B0 : List TV} {B1 : Int} {A0 : Bool} {K : Bool → Nd} (h : tw cx 122 [sl true ⟨6,false⟩ B0, .cl 123 [.pt true () (i64 B1)]] = some ([tb A0], [])) : S cx f (C122 B0 B1 K) = S cx f (K A0) := call_S h rfl
noncomputable def C126 (B0 : List TV) (B1 : Int) (K : Bool → Nd) : Nd := .call 126 [sl true ⟨1,false⟩ B0, .cl 127 [.pt true () (i64 B1)]] fun R => .cons R.1 fun X0 X1 => .bool X0 fun A0 => .nil X1 <| .nil R.2 <| K A0
theorem C126_S {f : FuncId} {B0 : List TV} {B1 : Int} {A0 : Bool} {K : Bool → Nd} (h : tw cx 126 [sl true ⟨1,false⟩ B0, .cl 127 [.pt true () (i64 B1)]] = some ([tb A0], [])) : S cx f (C126 B0 B1 K) = S cx f (K A0) := call_S h rfl
noncomputable def C125 (B0 : Int) (K : Bool → Nd) : Nd := .call 125 [i64 B0] fun R => .cons R.1 fun X0 X1 => .bool X0 fun A0 => .nil X1 <| .nil R.2 <| K A0
theorem C125_S {f : FuncId} {B0 : Int} {A0 : Bool} {K : Bool → Nd} (h : tw cx 125 [i64 B0] = some ([tb A0], [])) : S cx f (C125 B0 K) = S cx f (K A0) := call_S h rfl
noncomputable def C128 (B0 : List TV) (B1 : Int) (K : Int → Nd) : Nd := .call 128 [sl true ⟨6,false⟩ B0, i64 B1] fun R => .cons R.1 fun X0 X1 => .int .i64 X0 fun A0 => .nil X1 <| .nil R.2 <| K A0
theorem C128_S {f : FuncId} {B0 : List TV} {B1 A0 : Int} {K : Int → Nd} (h : tw cx 128 [sl true ⟨6,false⟩ B0, i64 B1] = some ([i64 A0], [])) : S cx f (C128 B0 B1 K) = S cx f (K A0) := call_S h rfl
noncomputable def C129 (B0 : List TV) (B1 : Int) (K : Int → Nd) : Nd := .call 129 [sl true ⟨1,true⟩ B0, i64 B1] fun R => .cons R.1 fun X0 X1 => .int .i64 X0 fun A0 => .nil X1 <| .nil R.2 <| K A0
theorem C129_S {f : FuncId} {B0 : List TV} {B1 A0 : Int} {K : Int → Nd} (h : tw cx 129 [sl true ⟨1,true⟩ B0, i64 B1] = some ([i64 A0], [])) : S cx f (C129 B0 B1 K) = S cx f (K A0) := call_S h rfl
noncomputable def C112 (B0 : List TV) (B1 B2 : Int) (B3 : List TV) (B4 : Int) (K : Bool → Nd) : Nd := .call 112 [.st [sl true ⟨6,false⟩ B0, i64 B1, i64 B2, sl true ⟨1,false⟩ B3], i64 B4] fun R => .cons R.1 fun X0 X1 => .bool X0 fun A0 => .nil X1 <| .nil R.2 <| K A0
theorem C112_S {f : FuncId} {B0 : List TV} {B1 B2 : Int} {B3 : List TV} {B4 : Int} {A0 : Bool} {K : Bool → Nd} (h : tw cx 112 [.st [sl true ⟨6,false⟩ B0, i64 B1, i64 B2, sl true ⟨1,false⟩ B3], i64 B4] = some ([tb A0], [])) : S cx f (C112 B0 B1 B2 B3 B4 K) = S cx f (K A0) := call_S h rfl
noncomputable def C130 (B0 B1 : Int) (B2 B3 : Int) (B4 B5 : Int) (K : Bool → Nd) : Nd := .call 130 [.st [i64 B0, i64 B1, i64 B2, i64 B3, i64 B4, i64 B5]] fun R => .cons R.1 fun X0 X1 => .bool X0 fun A0 => .nil X1 <| .nil R.2 <| K A0
theorem C130_S {f : FuncId} {B0 B1 : Int} {B2 B3 : Int} {B4 B5 : Int} {A0 : Bool} {K : Bool → Nd} (h : tw cx 130 [.st [i64 B0, i64 B1, i64 B2, i64 B3, i64 B4, i64 B5]] = some ([tb A0], [])) : S cx f (C130 B0 B1 B2 B3 B4 B5 K) = S cx f (K A0) := call_S h rfl
noncomputable def C120 (B0 : List TV) (B1 : Int) (K : (List TV) → Nd) : Nd := .call 120 [sl false ⟨1,false⟩ B0, i64 B1] fun R => .cons R.1 fun X0 X1 => .slO ⟨1,false⟩ X0 fun A0 => .nil X1 <| .nil R.2 <| K A0
theorem C120_S {f : FuncId} {B0 : List TV} {B1 : Int} {A0 : List TV} {K : (List TV) → Nd} (h : tw cx 120 [sl false ⟨1,false⟩ B0, i64 B1] = some ([sl false ⟨1,false⟩ A0], [])) : S cx f (C120 B0 B1 K) = S cx f (K A0) := call_S h rfl
noncomputable def C131 (B0 : List TV) (B1 : Int) (K : (List TV) → Nd) : Nd := .call 131 [.st [sl true ⟨1,true⟩ B0], i64 B1] fun R => .cons R.1 fun X0 X1 => .slO ⟨1,false⟩ X0 fun A0 => .nil X1 <| .nil R.2 <| K A0
theorem C131_S {f : FuncId} {B0 : List TV} {B1 : Int} {A0 : List TV} {K : (List TV) → Nd} (h : tw cx 131 [.st [sl true ⟨1,true⟩ B0], i64 B1] = some ([sl false ⟨1,false⟩ A0], [])) : S cx f (C131 B0 B1 K) = S cx f (K A0) := call_S h rfl
noncomputable def C116 (B0 : List TV) (B1 : Int) (K : Bool → Nd) : Nd := .call 116 [sl true ⟨1,false⟩ B0, i64 B1] fun R => .cons R.1 fun X0 X1 => .bool X0 fun A0 => .nil X1 <| .nil R.2 <| K A0
theorem C116_S {f : FuncId} {B0 : List TV} {B1 : Int} {A0 : Bool} {K : Bool → Nd} (h : tw cx 116 [sl true ⟨1,false⟩ B0, i64 B1] = some ([tb A0], [])) : S cx f (C116 B0 B1 K) = S cx f (K A0) := call_S h rfl
noncomputable def C133 (B0 : Bool) (K : Int → Nd) : Nd := .call 133 [tb B0] fun R => .cons R.1 fun X0 X1 => .int .i64 X0 fun A0 => .nil X1 <| .nil R.2 <| K A0
theorem C133_S {f : FuncId} {B0 : Bool} {A0 : Int} {K : Int → Nd} (h : tw cx 133 [tb B0] = some ([i64 A0], [])) : S cx f (C133 B0 K) = S cx f (K A0) := call_S h rfl
noncomputable def C134 (B0 : List TV) (K : (List TV) → Nd) : Nd := .call 134 [sl true ⟨6,false⟩ B0] fun R => .cons R.1 fun X0 X1 => .slO ⟨6,false⟩ X0 fun A0 => .nil X1 <| .nil R.2 <| K A0
theorem C134_S {f : FuncId} {B0 A0 : List TV} {K : (List TV) → Nd} (h : tw cx 134 [sl true ⟨6,false⟩ B0] = some ([sl false ⟨6,false⟩ A0], [])) : S cx f (C134 B0 K) = S cx f (K A0) := call_S h rfl
noncomputable def C135 (B0 : List TV) (K : (List TV) → Nd) : Nd := .call 135 [sl true ⟨1,true⟩ B0] fun R => .cons R.1 fun X0 X1 => .slO ⟨1,true⟩ X0 fun A0 => .nil X1 <| .nil R.2 <| K A0
theorem C135_S {f : FuncId} {B0 A0 : List TV} {K : (List TV) → Nd} (h : tw cx 135 [sl true ⟨1,true⟩ B0] = some ([sl false ⟨1,true⟩ A0], [])) : S cx f (C135 B0 K) = S cx f (K A0) := call_S h rfl
noncomputable def C136 (B0 : List TV) (B1 : Int) (K : (List TV) → Nd) : Nd := .call 136 [.st [sl true ⟨6,true⟩ B0, i64 B1]] fun R => .cons R.1 fun X0 X1 => .slO ⟨1,true⟩ X0 fun A0 => .nil X1 <| .nil R.2 <| K A0
theorem C136_S {f : FuncId} {B0 : List TV} {B1 : Int} {A0 : List TV} {K : (List TV) → Nd} (h : tw cx 136 [.st [sl true ⟨6,true⟩ B0, i64 B1]] = some ([sl false ⟨1,true⟩ A0], [])) : S cx f (C136 B0 B1 K) = S cx f (K A0) := call_S h rfl
noncomputable def C114 (B0 : List TV) (B1 : Int) (K : (List TV) → Nd) : Nd := .call 114 [sl true ⟨1,false⟩ B0, i64 B1] fun R => .cons R.1 fun X0 X1 => .slO ⟨1,false⟩ X0 fun A0 => .nil X1 <| .nil R.2 <| K A0
theorem C114_S {f : FuncId} {B0 : List TV} {B1 : Int} {A0 : List TV} {K : (List TV) → Nd} (h : tw cx 114 [sl true ⟨1,false⟩ B0, i64 B1] = some ([sl false ⟨1,false⟩ A0], [])) : S cx f (C114 B0 B1 K) = S cx f (K A0) := call_S h rfl
noncomputable def C137 (B0 : List TV) (B1 : Int) (B2 B3 : List TV) (B4 B5 : List TV) (B6 : Int) (K : Bool → (List TV) → Int → (List TV) → (List TV) → (List TV) → (List TV) → Nd) : Nd := .call 137 [.pt false () (.st [.st [sl true ⟨6,true⟩ B0, i64 B1], sl false ⟨1,true⟩ B2, sl false ⟨1,true⟩ B3, sl false ⟨1,false⟩ B4, sl false ⟨1,false⟩ B5]), i64 B6] fun R => .cons R.1 fun X0 X1 => .bool X0 fun A0 => .nil X1 <| .cons R.2 fun X2 X3 => .ptO X2 .non fun X4 => .st X4 fun X5 => .cons X5 fun X6 X7 => .st X6 fun X8 => .cons X8 fun X9 X10 => .slS ⟨6,true⟩ X9 fun A1 => .cons X10 fun X11 X12 => .int .i64 X11 fun A2 => .nil X12 <| .cons X7 fun X13 X14 => .slO ⟨1,true⟩ X13 fun A3 => .cons X14 fun X15 X16 => .slO ⟨1,true⟩ X15 fun A4 => .cons X16 fun X17 X18 => .slO ⟨1,false⟩ X17 fun A5 => .cons X18 fun X19 X20 => .slO ⟨1,false⟩ X19 fun A6 => .nil X20 <| .nil X3 <| K A0 A1 A2 A3 A4 A5 A6
theorem C137_S {f : FuncId} {B0 : List TV} {B1 : Int} {B2 B3 : List TV} {B4 B5 : List TV} {B6 : Int} {A0 : Bool} {A1 : List TV} {A2 : Int} {A3 A4 : List TV} {A5 A6 : List TV} {K : Bool → (List TV) → Int → (List TV) → (List TV) → (List TV) → (List TV) → Nd} (h : tw cx 137 [.pt false () (.st [.st [sl true ⟨6,true⟩ B0, i64 B1], sl false ⟨1,true⟩ B2, sl false ⟨1,true⟩ B3, sl false ⟨1,false⟩ B4, sl false ⟨1,false⟩ B5]), i64 B6] = some ([tb A0], [.pt false () (.st [.st [sl true ⟨6,true⟩ A1, i64 A2], sl false ⟨1,true⟩ A3, sl false ⟨1,true⟩ A4, sl false ⟨1,false⟩ A5, sl false ⟨1,false⟩ A6])])) : S cx f (C137 B0 B1 B2 B3 B4 B5 B6 K) = S cx f (K A0 A1 A2 A3 A4 A5 A6) := call_S h rfl
noncomputable def C138 (B0 : List TV) (K : (List TV) → Nd) : Nd := .call 138 [sl true ⟨1,true⟩ B0] fun R => .cons R.1 fun X0 X1 => .slO ⟨1,true⟩ X0 fun A0 => .nil X1 <| .nil R.2 <| K A0
theorem C138_S {f : FuncId} {B0 A0 : List TV} {K : (List TV) → Nd} (h : tw cx 138 [sl true ⟨1,true⟩ B0] = some ([sl false ⟨1,true⟩ A0], [])) : S cx f (C138 B0 K) = S cx f (K A0) := call_S h rfl
noncomputable def C69 (B0 : List TV) (B1 : Int) (B2 : List TV) (K : (List TV) → Nd) : Nd := .call 69 [sl true ⟨1,true⟩ B0, i64 B1, sl true ⟨1,false⟩ B2] fun R => .cons R.1 fun X0 X1 => .slO ⟨1,false⟩ X0 fun A0 => .nil X1 <| .nil R.2 <| K A0
theorem C69_S {f : FuncId} {B0 : List TV} {B1 : Int} {B2 A0 : List TV} {K : (List TV) → Nd} (h : tw cx 69 [sl true ⟨1,true⟩ B0, i64 B1, sl true ⟨1,false⟩ B2] = some ([sl false ⟨1,false⟩ A0], [])) : S cx f (C69 B0 B1 B2 K) = S cx f (K A0) := call_S h rfl
noncomputable def C139 (B0 : List TV) (B1 : Bool) (K : Bool → Nd) : Nd := .call 139 [sl true ⟨1,false⟩ B0, tb B1] fun R => .cons R.1 fun X0 X1 => .bool X0 fun A0 => .nil X1 <| .nil R.2 <| K A0
theorem C139_S {f : FuncId} {B0 : List TV} {B1 A0 : Bool} {K : Bool → Nd} (h : tw cx 139 [sl true ⟨1,false⟩ B0, tb B1] = some ([tb A0], [])) : S cx f (C139 B0 B1 K) = S cx f (K A0) := call_S h rfl
noncomputable def C140 (B0 : List TV) (B1 : Int) (B2 B3 : List TV) (B4 B5 : List TV) (B6 : Int) (K : Bool → Nd) : Nd := .call 140 [.pt true () (.st [.st [sl true ⟨6,true⟩ B0, i64 B1], sl false ⟨1,true⟩ B2, sl false ⟨1,true⟩ B3, sl false ⟨1,false⟩ B4, sl false ⟨1,false⟩ B5]), i64 B6] fun R => .cons R.1 fun X0 X1 => .bool X0 fun A0 => .nil X1 <| .nil R.2 <| K A0
theorem C140_S {f : FuncId} {B0 : List TV} {B1 : Int} {B2 B3 : List TV} {B4 B5 : List TV} {B6 : Int} {A0 : Bool} {K : Bool → Nd} (h : tw cx 140 [.pt true () (.st [.st [sl true ⟨6,true⟩ B0, i64 B1], sl false ⟨1,true⟩ B2, sl false ⟨1,true⟩ B3, sl false ⟨1,false⟩ B4, sl false ⟨1,false⟩ B5]), i64 B6] = some ([tb A0], [])) : S cx f (C140 B0 B1 B2 B3 B4 B5 B6 K) = S cx f (K A0) := call_S h rfl
noncomputable def C58 (B0 B1 B2 : List TV) (K : (List TV) → (List TV) → (List TV) → Nd) : Nd := .call 58 [.st [sl true ⟨1,false⟩ B0, sl true ⟨1,false⟩ B1, sl true ⟨1,false⟩ B2]] fun R => .cons R.1 fun X0 X1 => .st X0 fun X2 => .cons X2 fun X3 X4 => .slO ⟨1,false⟩ X3 fun A0 => .cons X4 fun X5 X6 => .slO ⟨1,false⟩ X5 fun A1 => .cons X6 fun X7 X8 => .slO ⟨1,false⟩ X7 fun A2 => .nil X8 <| .nil X1 <| .nil R.2 <| K A0 A1 A2
theorem C58_S {f : FuncId} {B0 B1 : List TV} {B2 A0 : List TV} {A1 A2 : List TV} {K : (List TV) → (List TV) → (List TV) → Nd} (h : tw cx 58 [.st [sl true ⟨1,false⟩ B0, sl true ⟨1,false⟩ B1, sl true ⟨1,false⟩ B2]] = some ([.st [sl false ⟨1,false⟩ A0, sl false ⟨1,false⟩ A1, sl false ⟨1,false⟩ A2]], [])) : S cx f (C58 B0 B1 B2 K) = S cx f (K A0 A1 A2) := call_S h rfl
noncomputable def C141 (B0 B1 : List TV) (B2 B3 : List TV) (B4 B5 : Int) (B6 B7 : Int) (B8 B9 : List TV) (B10 B11 : Int) (B12 B13 : List TV) (K : Bool → (List TV) → (List TV) → (List TV) → (List TV) → Int → Int → Int → Int → Nd) : Nd := .call 141 [.pt false () (.st [.st [sl false ⟨1,false⟩ B0, sl false ⟨1,false⟩ B1, sl false ⟨1,false⟩ B2], sl false ⟨1,false⟩ B3, i64 B4, i64 B5, i64 B6, i64 B7]), .pt true () (.st [sl true ⟨1,false⟩ B8, sl true ⟨6,false⟩ B9, i64 B10, i64 B11, sl true ⟨1,false⟩ B12, sl true ⟨1,true⟩ B13])] fun R => .cons R.1 fun X0 X1 => .bool X0 fun A0 => .nil X1 <| .cons R.2 fun X2 X3 => .ptO X2 .non fun X4 => .st X4 fun X5 => .cons X5 fun X6 X7 => .st X6 fun X8 => .cons X8 fun X9 X10 => .slO ⟨1,false⟩ X9 fun A1 => .cons X10 fun X11 X12 => .slO ⟨1,false⟩ X11 fun A2 => .cons X12 fun X13 X14 => .slO ⟨1,false⟩ X13 fun A3 => .nil X14 <| .cons X7 fun X15 X16 => .slO ⟨1,false⟩ X15 fun A4 => .cons X16 fun X17 X18 => .int .i64 X17 fun A5 => .cons X18 fun X19 X20 => .int .i64 X19 fun A6 => .cons X20 fun X21 X22 => .int .i64 X21 fun A7 => .cons X22 fun X23 X24 => .int .i64 X23 fun A8 => .nil X24 <| .nil X3 <| K A0 A1 A2 A3 A4 A5 A6 A7 A8
theorem C141_S {f : FuncId} {B0 B1 : List TV} {B2 B3 : List TV} {B4 B5 : Int} {B6 B7 : Int} {B8 B9 : List TV} {B10 B11 : Int} {B12 B13 : List TV} {A0 : Bool} {A1 A2 : List TV} {A3 A4 : List TV} {A5 A6 : Int} {A7 A8 : Int} {K : Bool → (List TV) → (List TV) → (List TV) → (List TV) → Int → Int → Int → Int → Nd} (h : tw cx 141 [.pt false () (.st [.st [sl false ⟨1,false⟩ B0, sl false ⟨1,false⟩ B1, sl false ⟨1,false⟩ B2], sl false ⟨1,false⟩ B3, i64 B4, i64 B5, i64 B6, i64 B7]), .pt true () (.st [sl true ⟨1,false⟩ B8, sl true ⟨6,false⟩ B9, i64 B10, i64 B11, sl true ⟨1,false⟩ B12, sl true ⟨1,true⟩ B13])] = some ([tb A0], [.pt false () (.st [.st [sl false ⟨1,false⟩ A1, sl false ⟨1,false⟩ A2, sl false ⟨1,false⟩ A3], sl false ⟨1,false⟩ A4, i64 A5, i64 A6, i64 A7, i64 A8])])) : S cx f (C141 B0 B1 B2 B3 B4 B5 B6 B7 B8 B9 B10 B11 B12 B13 K) = S cx f (K A0 A1 A2 A3 A4 A5 A6 A7 A8) := call_S h rfl
noncomputable def C142 (B0 B1 : List TV) (B2 B3 : List TV) (B4 B5 : Int) (B6 B7 : Int) (B8 B9 : List TV) (B10 B11 : Int) (B12 B13 : List TV) (K : Int → (List TV) → (List TV) → (List TV) → (List TV) → (List TV) → Int → Int → Int → Int → Nd) : Nd := .call 142 [.pt false () (.st [.st [sl false ⟨1,false⟩ B0, sl false ⟨1,false⟩ B1, sl false ⟨1,false⟩ B2], sl false ⟨1,false⟩ B3, i64 B4, i64 B5, i64 B6, i64 B7]), .pt true () (.st [sl true ⟨1,false⟩ B8, sl true ⟨6,false⟩ B9, i64 B10, i64 B11, sl true ⟨1,false⟩ B12, sl true ⟨1,true⟩ B13])] fun R => .cons R.1 fun X0 X1 => .int .i64 X0 fun A0 => .cons X1 fun X2 X3 => .slO ⟨1,false⟩ X2 fun A1 => .nil X3 <| .cons R.2 fun X4 X5 => .ptO X4 .non fun X6 => .st X6 fun X7 => .cons X7 fun X8 X9 => .st X8 fun X10 => .cons X10 fun X11 X12 => .slO ⟨1,false⟩ X11 fun A2 => .cons X12 fun X13 X14 => .slO ⟨1,false⟩ X13 fun A3 => .cons X14 fun X15 X16 => .slO ⟨1,false⟩ X15 fun A4 => .nil X16 <| .cons X9 fun X17 X18 => .slO ⟨1,false⟩ X17 fun A5 => .cons X18 fun X19 X20 => .int .i64 X19 fun A6 => .cons X20 fun X21 X22 => .int .i64 X21 fun A7 => .cons X22 fun X23 X24 => .int .i64 X23 fun A8 => .cons X24 fun X25 X26 => .int .i64 X25 fun A9 => .nil X26 <| .nil X5 <| K A0 A1 A2 A3 A4 A5 A6 A7 A8 A9
theorem C142_S {f : FuncId} {B0 B1 : List TV} {B2 B3 : List TV} {B4 B5 : Int} {B6 B7 : Int} {B8 B9 : List TV} {B10 B11 : Int} {B12 B13 : List TV} {A0 : Int} {A1 A2 : List TV} {A3 A4 A5 : List TV} {A6 A7 : Int} {A8 A9 : Int} {K : Int → (List TV) → (List TV) → (List TV) → (List TV) → (List TV) → Int → Int → Int → Int → Nd} (h : tw cx 142 [.pt false () (.st [.st [sl false ⟨1,false⟩ B0, sl false ⟨1,false⟩ B1, sl false ⟨1,false⟩ B2], sl false ⟨1,false⟩ B3, i64 B4, i64 B5, i64 B6, i64 B7]), .pt true () (.st [sl true ⟨1,false⟩ B8, sl true ⟨6,false⟩ B9, i64 B10, i64 B11, sl true ⟨1,false⟩ B12, sl true ⟨1,true⟩ B13])] = some ([i64 A0, sl false ⟨1,false⟩ A1], [.pt false () (.st [.st [sl false ⟨1,false⟩ A2, sl false ⟨1,false⟩ A3, sl false ⟨1,false⟩ A4], sl false ⟨1,false⟩ A5, i64 A6, i64 A7, i64 A8, i64 A9])])) : S cx f (C142 B0 B1 B2 B3 B4 B5 B6 B7 B8 B9 B10 B11 B12 B13 K) = S cx f (K A0 A1 A2 A3 A4 A5 A6 A7 A8 A9) := call_S h rfl
noncomputable def C143 (B0 B1 : List TV) (K : Bool → Nd) : Nd := .call 143 [sl true ⟨6,false⟩ B0, sl true ⟨6,false⟩ B1] fun R => .cons R.1 fun X0 X1 => .bool X0 fun A0 => .nil X1 <| .nil R.2 <| K A0
theorem C143_S {f : FuncId} {B0 B1 : List TV} {A0 : Bool} {K : Bool → Nd} (h : tw cx 143 [sl true ⟨6,false⟩ B0, sl true ⟨6,false⟩ B1] = some ([tb A0], [])) : S cx f (C143 B0 B1 K) = S cx f (K A0) := call_S h rfl
noncomputable def C144 (B0 B1 : List TV) (K : Bool → Nd) : Nd := .call 144 [sl true ⟨1,true⟩ B0, sl true ⟨1,true⟩ B1] fun R => .cons R.1 fun X0 X1 => .bool X0 fun A0 => .nil X1 <| .nil R.2 <| K A0
theorem C144_S {f : FuncId} {B0 B1 : List TV} {A0 : Bool} {K : Bool → Nd} (h : tw cx 144 [sl true ⟨1,true⟩ B0, sl true ⟨1,true⟩ B1] = some ([tb A0], [])) : S cx f (C144 B0 B1 K) = S cx f (K A0) := call_S h rfl
noncomputable def C126_1 (B0 : List TV) (K : Bool → Nd) : Nd := .call 126 [sl true ⟨1,false⟩ B0, .cl 152 []] fun R => .cons R.1 fun X0 X1 => .bool X0 fun A0 => .nil X1 <| .nil R.2 <| K A0
theorem C126_1_S {f : FuncId} {B0 : List TV} {A0 : Bool} {K : Bool → Nd} (h : tw cx 126 [sl true ⟨1,false⟩ B0, .cl 152 []] = some ([tb A0], [])) : S cx f (C126_1 B0 K) = S cx f (K A0) := call_S h rfl
noncomputable def C154 (B0 : Int) (K : Bool → Nd) : Nd := .call 154 [i64 B0] fun R => .cons R.1 fun X0 X1 => .bool X0 fun A0 => .nil X1 <| .nil R.2 <| K A0
theorem C154_S {f : FuncId} {B0 : Int} {A0 : Bool} {K : Bool → Nd} (h : tw cx 154 [i64 B0] = some ([tb A0], [])) : S cx f (C154 B0 K) = S cx f (K A0) := call_S h rfl
noncomputable def C155 (B0 B1 : Int) (K : Int → Int → Nd) : Nd := .call 155 [.fl (.int .u64 B0), .fl (.int .u64 B1)] fun R => .cons R.1 fun X0 X1 => .int .u64 X0 fun A0 => .cons X1 fun X2 X3 => .int .u64 X2 fun A1 => .nil X3 <| .nil R.2 <| K A0 A1
theorem C155_S {f : FuncId} {B0 B1 : Int} {A0 A1 : Int} {K : Int → Int → Nd} (h : tw cx 155 [.fl (.int .u64 B0), .fl (.int .u64 B1)] = some ([.fl (.int .u64 A0), .fl (.int .u64 A1)], [])) : S cx f (C155 B0 B1 K) = S cx f (K A0 A1) := call_S h rfl
noncomputable def C157 (B0 : List TV) (B1 : Int) (K : Int → Nd) : Nd := .call 157 [sl true ⟨1,false⟩ B0, i64 B1] fun R => .cons R.1 fun X0 X1 => .int .i64 X0 fun A0 => .nil X1 <| .nil R.2 <| K A0
theorem C157_S {f : FuncId} {B0 : List TV} {B1 A0 : Int} {K : Int → Nd} (h : tw cx 157 [sl true ⟨1,false⟩ B0, i64 B1] = some ([i64 A0], [])) : S cx f (C157 B0 B1 K) = S cx f (K A0) := call_S h rfl
noncomputable def C158 (B0 : List TV) (B1 : Int) (K : Int → Nd) : Nd := .call 158 [sl true ⟨6,false⟩ B0, .cl 123 [.pt true () (i64 B1)]] fun R => .cons R.1 fun X0 X1 => .int .i64 X0 fun A0 => .nil X1 <| .nil R.2 <| K A0
theorem C158_S {f : FuncId} {B0 : List TV} {B1 A0 : Int} {K : Int → Nd} (h : tw cx 158 [sl true ⟨6,false⟩ B0, .cl 123 [.pt true () (i64 B1)]] = some ([i64 A0], [])) : S cx f (C158 B0 B1 K) = S cx f (K A0) := call_S h rfl
noncomputable def C124 (B0 B1 : Int) (B2 B3 : Int) (B4 B5 B6 : Int) (K : Bool → Nd) : Nd := .call 124 [.st [i64 B0, i64 B1, i64 B2, i64 B3, i64 B4, i64 B5], i64 B6] fun R => .cons R.1 fun X0 X1 => .bool X0 fun A0 => .nil X1 <| .nil R.2 <| K A0
theorem C124_S {f : FuncId} {B0 B1 : Int} {B2 B3 : Int} {B4 B5 B6 : Int} {A0 : Bool} {K : Bool → Nd} (h : tw cx 124 [.st [i64 B0, i64 B1, i64 B2, i64 B3, i64 B4, i64 B5], i64 B6] = some ([tb A0], [])) : S cx f (C124 B0 B1 B2 B3 B4 B5 B6 K) = S cx f (K A0) := call_S h rfl
noncomputable def C161 (B0 : Int) (K : Bool → Nd) : Nd := .call 161 [i64 B0] fun R => .cons R.1 fun X0 X1 => .bool X0 fun A0 => .nil X1 <| .nil R.2 <| K A0
theorem C161_S {f : FuncId} {B0 : Int} {A0 : Bool} {K : Bool → Nd} (h : tw cx 161 [i64 B0] = some ([tb A0], [])) : S cx f (C161 B0 K) = S cx f (K A0) := call_S h rfl
noncomputable def C159 (B0 : Int) (K : Bool → Bool → Bool → Bool → Bool → Bool → Nd) : Nd := .call 159 [i64 B0] fun R => .cons R.1 fun X0 X1 => .st X0 fun X2 => .cons X2 fun X3 X4 => .bool X3 fun A0 => .cons X4 fun X5 X6 => .bool X5 fun A1 => .cons X6 fun X7 X8 => .bool X7 fun A2 => .cons X8 fun X9 X10 => .bool X9 fun A3 => .cons X10 fun X11 X12 => .bool X11 fun A4 => .nil X12 <| .cons X1 fun X13 X14 => .bool X13 fun A5 => .nil X14 <| .nil R.2 <| K A0 A1 A2 A3 A4 A5
theorem C159_S {f : FuncId} {B0 : Int} {A0 A1 : Bool} {A2 A3 : Bool} {A4 A5 : Bool} {K : Bool → Bool → Bool → Bool → Bool → Bool → Nd} (h : tw cx 159 [i64 B0] = some ([.st [tb A0, tb A1, tb A2, tb A3, tb A4], tb A5], [])) : S cx f (C159 B0 K) = S cx f (K A0 A1 A2 A3 A4 A5) := call_S h rfl
noncomputable def C160 (B0 : Bool) (B1 B2 : Int) (K : Bool → Nd) : Nd := .call 160 [tb B0, i64 B1, .pt true () (i64 B2)] fun R => .cons R.1 fun X0 X1 => .bool X0 fun A0 => .nil X1 <| .nil R.2 <| K A0
theorem C160_S {f : FuncId} {B0 : Bool} {B1 B2 : Int} {A0 : Bool} {K : Bool → Nd} (h : tw cx 160 [tb B0, i64 B1, .pt true () (i64 B2)] = some ([tb A0], [])) : S cx f (C160 B0 B1 B2 K) = S cx f (K A0) := call_S h rfl
noncomputable def C153 (B0 : Int) (K : Bool → Nd) : Nd := .call 153 [i64 B0] fun R => .cons R.1 fun X0 X1 => .bool X0 fun A0 => .nil X1 <| .nil R.2 <| K A0
theorem C153_S {f : FuncId} {B0 : Int} {A0 : Bool} {K : Bool → Nd} (h : tw cx 153 [i64 B0] = some ([tb A0], [])) : S cx f (C153 B0 K) = S cx f (K A0) := call_S h rfl
noncomputable def C162 (B0 : List TV) (K : Int → Nd) : Nd := .call 162 [sl true ⟨1,false⟩ B0, .cl 152 []] fun R => .cons R.1 fun X0 X1 => .int .i64 X0 fun A0 => .nil X1 <| .nil R.2 <| K A0
theorem C162_S {f : FuncId} {B0 : List TV} {A0 : Int} {K : Int → Nd} (h : tw cx 162 [sl true ⟨1,false⟩ B0, .cl 152 []] = some ([i64 A0], [])) : S cx f (C162 B0 K) = S cx f (K A0) := call_S h rfl
noncomputable def C162_1 (B0 : List TV) (B1 : Int) (K : Int → Nd) : Nd := .call 162 [sl true ⟨1,false⟩ B0, .cl 127 [.pt true () (i64 B1)]] fun R => .cons R.1 fun X0 X1 => .int .i64 X0 fun A0 => .nil X1 <| .nil R.2 <| K A0
theorem C162_1_S {f : FuncId} {B0 : List TV} {B1 A0 : Int} {K : Int → Nd} (h : tw cx 162 [sl true ⟨1,false⟩ B0, .cl 127 [.pt true () (i64 B1)]] = some ([i64 A0], [])) : S cx f (C162_1 B0 B1 K) = S cx f (K A0) := call_S h rfl
noncomputable def C163 (B0 B1 : Int) (B2 B3 : Int) (B4 B5 : Int) (K : Int → Int → Int → Int → Int → Int → Nd) : Nd := .call 163 [.st [i64 B0, i64 B1, i64 B2, i64 B3, i64 B4, i64 B5]] fun R => .cons R.1 fun X0 X1 => .st X0 fun X2 => .cons X2 fun X3 X4 => .int .i64 X3 fun A0 => .cons X4 fun X5 X6 => .int .i64 X5 fun A1 => .cons X6 fun X7 X8 => .int .i64 X7 fun A2 => .cons X8 fun X9 X10 => .int .i64 X9 fun A3 => .cons X10 fun X11 X12 => .int .i64 X11 fun A4 => .cons X12 fun X13 X14 => .int .i64 X13 fun A5 => .nil X14 <| .nil X1 <| .nil R.2 <| K A0 A1 A2 A3 A4 A5
theorem C163_S {f : FuncId} {B0 B1 : Int} {B2 B3 : Int} {B4 B5 : Int} {A0 A1 : Int} {A2 A3 : Int} {A4 A5 : Int} {K : Int → Int → Int → Int → Int → Int → Nd} (h : tw cx 163 [.st [i64 B0, i64 B1, i64 B2, i64 B3, i64 B4, i64 B5]] = some ([.st [i64 A0, i64 A1, i64 A2, i64 A3, i64 A4, i64 A5]], [])) : S cx f (C163 B0 B1 B2 B3 B4 B5 K) = S cx f (K A0 A1 A2 A3 A4 A5) := call_S h rfl
noncomputable def C77 (B0 : List TV) (B1 : Int) (K : Bool → Nd) : Nd := .call 77 [sl true ⟨6,false⟩ B0, i64 B1] fun R => .cons R.1 fun X0 X1 => .bool X0 fun A0 => .nil X1 <| .nil R.2 <| K A0
theorem C77_S {f : FuncId} {B0 : List TV} {B1 : Int} {A0 : Bool} {K : Bool → Nd} (h : tw cx 77 [sl true ⟨6,false⟩ B0, i64 B1] = some ([tb A0], [])) : S cx f (C77 B0 B1 K) = S cx f (K A0) := call_S h rfl
noncomputable def C78 (B0 B1 : Int) (B2 : List TV) (B3 B4 : Int) (K : Bool → Nd) : Nd := .call 78 [i64 B0, i64 B1, sl true ⟨1,false⟩ B2, i64 B3, i64 B4] fun R => .cons R.1 fun X0 X1 => .bool X0 fun A0 => .nil X1 <| .nil R.2 <| K A0
theorem C78_S {f : FuncId} {B0 B1 : Int} {B2 : List TV} {B3 B4 : Int} {A0 : Bool} {K : Bool → Nd} (h : tw cx 78 [i64 B0, i64 B1, sl true ⟨1,false⟩ B2, i64 B3, i64 B4] = some ([tb A0], [])) : S cx f (C78 B0 B1 B2 B3 B4 K) = S cx f (K A0) := call_S h rfl
noncomputable def C164 (B0 : List TV) (B1 : Int) (B2 B3 : List TV) (B4 B5 : List TV) (B6 B7 : List TV) (B8 B9 : Int) (B10 B11 : List TV) (K : Bool → Nd) : Nd := .call 164 [.pt true () (.st [.st [sl true ⟨6,true⟩ B0, i64 B1], sl false ⟨1,true⟩ B2, sl false ⟨1,true⟩ B3, sl false ⟨1,false⟩ B4, sl false ⟨1,false⟩ B5]), .pt true () (.st [sl true ⟨1,false⟩ B6, sl true ⟨6,false⟩ B7, i64 B8, i64 B9, sl true ⟨1,false⟩ B10, sl true ⟨1,true⟩ B11])] fun R => .cons R.1 fun X0 X1 => .bool X0 fun A0 => .nil X1 <| .nil R.2 <| K A0
theorem C164_S {f : FuncId} {B0 : List TV} {B1 : Int} {B2 B3 : List TV} {B4 B5 : List TV} {B6 B7 : List TV} {B8 B9 : Int} {B10 B11 : List TV} {A0 : Bool} {K : Bool → Nd} (h : tw cx 164 [.pt true () (.st [.st [sl true ⟨6,true⟩ B0, i64 B1], sl false ⟨1,true⟩ B2, sl false ⟨1,true⟩ B3, sl false ⟨1,false⟩ B4, sl false ⟨1,false⟩ B5]), .pt true () (.st [sl true ⟨1,false⟩ B6, sl true ⟨6,false⟩ B7, i64 B8, i64 B9, sl true ⟨1,false⟩ B10, sl true ⟨1,true⟩ B11])] = some ([tb A0], [])) : S cx f (C164 B0 B1 B2 B3 B4 B5 B6 B7 B8 B9 B10 B11 K) = S cx f (K A0) := call_S h rfl
noncomputable def C165 (B0 : List TV) (B1 : Int) (B2 B3 : List TV) (B4 B5 : List TV) (B6 B7 B8 : Int) (K : Bool → (List TV) → Int → (List TV) → (List TV) → (List TV) → (List TV) → Nd) : Nd := .call 165 [.pt false () (.st [.st [sl true ⟨6,true⟩ B0, i64 B1], sl false ⟨1,true⟩ B2, sl false ⟨1,true⟩ B3, sl false ⟨1,false⟩ B4, sl false ⟨1,false⟩ B5]), i64 B6, i64 B7, i64 B8] fun R => .cons R.1 fun X0 X1 => .bool X0 fun A0 => .nil X1 <| .cons R.2 fun X2 X3 => .ptO X2 .non fun X4 => .st X4 fun X5 => .cons X5 fun X6 X7 => .st X6 fun X8 => .cons X8 fun X9 X10 => .slS ⟨6,true⟩ X9 fun A1 => .cons X10 fun X11 X12 => .int .i64 X11 fun A2 => .nil X12 <| .cons X7 fun X13 X14 => .slO ⟨1,true⟩ X13 fun A3 => .cons X14 fun X15 X16 => .slO ⟨1,true⟩ X15 fun A4 => .cons X16 fun X17 X18 => .slO ⟨1,false⟩ X17 fun A5 => .cons X18 fun X19 X20 => .slO ⟨1,false⟩ X19 fun A6 => .nil X20 <| .nil X3 <| K A0 A1 A2 A3 A4 A5 A6
theorem C165_S {f : FuncId} {B0 : List TV} {B1 : Int} {B2 B3 : List TV} {B4 B5 : List TV} {B6 B7 B8 : Int} {A0 : Bool} {A1 : List TV} {A2 : Int} {A3 A4 : List TV} {A5 A6 : List TV} {K : Bool → (List TV) → Int → (List TV) → (List TV) → (List TV) → (List TV) → Nd} (h : tw cx 165 [.pt false () (.st [.st [sl true ⟨6,true⟩ B0, i64 B1], sl false ⟨1,true⟩ B2, sl false ⟨1,true⟩ B3, sl false ⟨1,false⟩ B4, sl false ⟨1,false⟩ B5]), i64 B6, i64 B7, i64 B8] = some ([tb A0], [.pt false () (.st [.st [sl true ⟨6,true⟩ A1, i64 A2], sl false ⟨1,true⟩ A3, sl false ⟨1,true⟩ A4, sl false ⟨1,false⟩ A5, sl false ⟨1,false⟩ A6])])) : S cx f (C165 B0 B1 B2 B3 B4 B5 B6 B7 B8 K) = S cx f (K A0 A1 A2 A3 A4 A5 A6) := call_S h rfl
noncomputable def C166 (B0 B1 : Int) (B2 B3 : Int) (B4 B5 : Int) (K : Bool → Nd) : Nd := .call 166 [.st [i64 B0, i64 B1, i64 B2, i64 B3, i64 B4, i64 B5]] fun R => .cons R.1 fun X0 X1 => .bool X0 fun A0 => .nil X1 <| .nil R.2 <| K A0
theorem C166_S {f : FuncId} {B0 B1 : Int} {B2 B3 : Int} {B4 B5 : Int} {A0 : Bool} {K : Bool → Nd} (h : tw cx 166 [.st [i64 B0, i64 B1, i64 B2, i64 B3, i64 B4, i64 B5]] = some ([tb A0], [])) : S cx f (C166 B0 B1 B2 B3 B4 B5 K) = S cx f (K A0) := call_S h rfl
noncomputable def C167 (B0 : List TV) (B1 : Bool) (K : Int → Nd) : Nd := .call 167 [sl true ⟨1,false⟩ B0, tb B1] fun R => .cons R.1 fun X0 X1 => .int .i64 X0 fun A0 => .nil X1 <| .nil R.2 <| K A0
theorem C167_S {f : FuncId} {B0 : List TV} {B1 : Bool} {A0 : Int} {K : Int → Nd} (h : tw cx 167 [sl true ⟨1,false⟩ B0, tb B1] = some ([i64 A0], [])) : S cx f (C167 B0 B1 K) = S cx f (K A0) := call_S h rfl
noncomputable def C168 (B0 B1 : Int) (B2 B3 : Int) (B4 B5 : Int) (K : (List TV) → Nd) : Nd := .call 168 [.st [i64 B0, i64 B1, i64 B2, i64 B3, i64 B4, i64 B5]] fun R => .cons R.1 fun X0 X1 => .slO ⟨1,false⟩ X0 fun A0 => .nil X1 <| .nil R.2 <| K A0
theorem C168_S {f : FuncId} {B0 B1 : Int} {B2 B3 : Int} {B4 B5 : Int} {A0 : List TV} {K : (List TV) → Nd} (h : tw cx 168 [.st [i64 B0, i64 B1, i64 B2, i64 B3, i64 B4, i64 B5]] = some ([sl false ⟨1,false⟩ A0], [])) : S cx f (C168 B0 B1 B2 B3 B4 B5 K) = S cx f (K A0) := call_S h rfl
noncomputable def C169 (B0 : List TV) (B1 : Int) (B2 B3 : List TV) (B4 B5 : List TV) (B6 B7 B8 : Int) (K : Bool → Nd) : Nd := .call 169 [.pt true () (.st [.st [sl true ⟨6,true⟩ B0, i64 B1], sl false ⟨1,true⟩ B2, sl false ⟨1,true⟩ B3, sl false ⟨1,false⟩ B4, sl false ⟨1,false⟩ B5]), i64 B6, i64 B7, i64 B8] fun R => .cons R.1 fun X0 X1 => .bool X0 fun A0 => .nil X1 <| .nil R.2 <| K A0
theorem C169_S {f : FuncId} {B0 : List TV} {B1 : Int} {B2 B3 : List TV} {B4 B5 : List TV} {B6 B7 B8 : Int} {A0 : Bool} {K : Bool → Nd} (h : tw cx 169 [.pt true () (.st [.st [sl true ⟨6,true⟩ B0, i64 B1], sl false ⟨1,true⟩ B2, sl false ⟨1,true⟩ B3, sl false ⟨1,false⟩ B4, sl false ⟨1,false⟩ B5]), i64 B6, i64 B7, i64 B8] = some ([tb A0], [])) : S cx f (C169 B0 B1 B2 B3 B4 B5 B6 B7 B8 K) = S cx f (K A0) := call_S h rfl
noncomputable def C170 (B0 : List TV) (K : (List TV) → Nd) : Nd := .call 170 [sl true ⟨1,true⟩ B0] fun R => .cons R.1 fun X0 X1 => .slO ⟨1,false⟩ X0 fun A0 => .nil X1 <| .nil R.2 <| K A0
theorem C170_S {f : FuncId} {B0 A0 : List TV} {K : (List TV) → Nd} (h : tw cx 170 [sl true ⟨1,true⟩ B0] = some ([sl false ⟨1,false⟩ A0], [])) : S cx f (C170 B0 K) = S cx f (K A0) := call_S h rfl
noncomputable def C107 (B0 B1 B2 : Int) (K : Int → Bool → Nd) : Nd := .call 107 [i64 B0, i64 B1, i64 B2] fun R => .cons R.1 fun X0 X1 => .int .i64 X0 fun A0 => .cons X1 fun X2 X3 => .bool X2 fun A1 => .nil X3 <| .nil R.2 <| K A0 A1
theorem C107_S {f : FuncId} {B0 B1 : Int} {B2 A0 : Int} {A1 : Bool} {K : Int → Bool → Nd} (h : tw cx 107 [i64 B0, i64 B1, i64 B2] = some ([i64 A0, tb A1], [])) : S cx f (C107 B0 B1 B2 K) = S cx f (K A0 A1) := call_S h rfl
noncomputable def C108 (B0 B1 B2 : List TV) (B3 : Int) (K : Int → Bool → Nd) : Nd := .call 108 [.pt true () (.st [sl false ⟨1,false⟩ B0, sl false ⟨1,false⟩ B1, sl false ⟨1,false⟩ B2]), i64 B3] fun R => .cons R.1 fun X0 X1 => .int .i64 X0 fun A0 => .cons X1 fun X2 X3 => .bool X2 fun A1 => .nil X3 <| .nil R.2 <| K A0 A1
theorem C108_S {f : FuncId} {B0 B1 B2 : List TV} {B3 A0 : Int} {A1 : Bool} {K : Int → Bool → Nd} (h : tw cx 108 [.pt true () (.st [sl false ⟨1,false⟩ B0, sl false ⟨1,false⟩ B1, sl false ⟨1,false⟩ B2]), i64 B3] = some ([i64 A0, tb A1], [])) : S cx f (C108 B0 B1 B2 B3 K) = S cx f (K A0 A1) := call_S h rfl
noncomputable def C171 (B0 B1 : List TV) (B2 B3 : List TV) (B4 B5 : Int) (B6 B7 : Int) (B8 : List TV) (K : (List TV) → Nd) : Nd := .call 171 [.pt true () (.st [.st [sl false ⟨1,false⟩ B0, sl false ⟨1,false⟩ B1, sl false ⟨1,false⟩ B2], sl false ⟨1,false⟩ B3, i64 B4, i64 B5, i64 B6, i64 B7]), sl true ⟨1,false⟩ B8] fun R => .cons R.1 fun X0 X1 => .slO ⟨1,false⟩ X0 fun A0 => .nil X1 <| .nil R.2 <| K A0
theorem C171_S {f : FuncId} {B0 B1 : List TV} {B2 B3 : List TV} {B4 B5 : Int} {B6 B7 : Int} {B8 A0 : List TV} {K : (List TV) → Nd} (h : tw cx 171 [.pt true () (.st [.st [sl false ⟨1,false⟩ B0, sl false ⟨1,false⟩ B1, sl false ⟨1,false⟩ B2], sl false ⟨1,false⟩ B3, i64 B4, i64 B5, i64 B6, i64 B7]), sl true ⟨1,false⟩ B8] = some ([sl false ⟨1,false⟩ A0], [])) : S cx f (C171 B0 B1 B2 B3 B4 B5 B6 B7 B8 K) = S cx f (K A0) := call_S h rfl
noncomputable def C60 (B0 B1 B2 : Int) (K : Int → Nd) : Nd := .call 60 [i64 B0, i64 B1, i64 B2] fun R => .cons R.1 fun X0 X1 => .int .i64 X0 fun A0 => .nil X1 <| .nil R.2 <| K A0
theorem C60_S {f : FuncId} {B0 B1 : Int} {B2 A0 : Int} {K : Int → Nd} (h : tw cx 60 [i64 B0, i64 B1, i64 B2] = some ([i64 A0], [])) : S cx f (C60 B0 B1 B2 K) = S cx f (K A0) := call_S h rfl
noncomputable def C172 (B0 B1 : Int) (B2 B3 : Int) (B4 B5 : Int) (B6 B7 : Int) (B8 B9 : Int) (B10 B11 : Int) (K : Bool → Nd) : Nd := .call 172 [.st [i64 B0, i64 B1, i64 B2, i64 B3, i64 B4, i64 B5], .st [i64 B6, i64 B7, i64 B8, i64 B9, i64 B10, i64 B11]] fun R => .cons R.1 fun X0 X1 => .bool X0 fun A0 => .nil X1 <| .nil R.2 <| K A0
theorem C172_S {f : FuncId} {B0 B1 : Int} {B2 B3 : Int} {B4 B5 : Int} {B6 B7 : Int} {B8 B9 : Int} {B10 B11 : Int} {A0 : Bool} {K : Bool → Nd} (h : tw cx 172 [.st [i64 B0, i64 B1, i64 B2, i64 B3, i64 B4, i64 B5], .st [i64 B6, i64 B7, i64 B8, i64 B9, i64 B10, i64 B11]] = some ([tb A0], [])) : S cx f (C172 B0 B1 B2 B3 B4 B5 B6 B7 B8 B9 B10 B11 K) = S cx f (K A0) := call_S h rfl
noncomputable def C184 (B0 B1 : Int) (K : Int → Int → Nd) : Nd := .call 184 [.fl (.int .u64 B0), .fl (.int .u64 B1)] fun R => .cons R.1 fun X0 X1 => .int .u64 X0 fun A0 => .cons X1 fun X2 X3 => .int .u64 X2 fun A1 => .nil X3 <| .nil R.2 <| K A0 A1
theorem C184_S {f : FuncId} {B0 B1 : Int} {A0 A1 : Int} {K : Int → Int → Nd} (h : tw cx 184 [.fl (.int .u64 B0), .fl (.int .u64 B1)] = some ([.fl (.int .u64 A0), .fl (.int .u64 A1)], [])) : S cx f (C184 B0 B1 K) = S cx f (K A0 A1) := call_S h rfl
noncomputable def C123 (B0 B1 : Int) (B2 B3 : Int) (B4 B5 B6 : Int) (K : Bool → Nd) : Nd := .call 123 [.st [i64 B0, i64 B1, i64 B2, i64 B3, i64 B4, i64 B5], .pt true () (i64 B6)] fun R => .cons R.1 fun X0 X1 => .bool X0 fun A0 => .nil X1 <| .nil R.2 <| K A0
theorem C123_S {f : FuncId} {B0 B1 : Int} {B2 B3 : Int} {B4 B5 B6 : Int} {A0 : Bool} {K : Bool → Nd} (h : tw cx 123 [.st [i64 B0, i64 B1, i64 B2, i64 B3, i64 B4, i64 B5], .pt true () (i64 B6)] = some ([tb A0], [])) : S cx f (C123 B0 B1 B2 B3 B4 B5 B6 K) = S cx f (K A0) := call_S h rfl
noncomputable def C152 (B0 : Int) (K : Bool → Nd) : Nd := .call 152 [i64 B0] fun R => .cons R.1 fun X0 X1 => .bool X0 fun A0 => .nil X1 <| .nil R.2 <| K A0
theorem C152_S {f : FuncId} {B0 : Int} {A0 : Bool} {K : Bool → Nd} (h : tw cx 152 [i64 B0] = some ([tb A0], [])) : S cx f (C152 B0 K) = S cx f (K A0) := call_S h rfl
noncomputable def C127 (B0 B1 : Int) (K : Bool → Nd) : Nd := .call 127 [i64 B0, .pt true () (i64 B1)] fun R => .cons R.1 fun X0 X1 => .bool X0 fun A0 => .nil X1 <| .nil R.2 <| K A0
theorem C127_S {f : FuncId} {B0 B1 : Int} {A0 : Bool} {K : Bool → Nd} (h : tw cx 127 [i64 B0, .pt true () (i64 B1)] = some ([tb A0], [])) : S cx f (C127 B0 B1 K) = S cx f (K A0) := call_S h rfl
noncomputable def C185 (B0 : Int) (K : (List TV) → Nd) : Nd := .call 185 [.fl (.slice none 0 0), i64 B0] fun R => .cons R.1 fun X0 X1 => .slO ⟨1,false⟩ X0 fun A0 => .nil X1 <| .nil R.2 <| K A0
theorem C185_S {f : FuncId} {B0 : Int} {A0 : List TV} {K : (List TV) → Nd} (h : tw cx 185 [.fl (.slice none 0 0), i64 B0] = some ([sl false ⟨1,false⟩ A0], [])) : S cx f (C185 B0 K) = S cx f (K A0) := call_S h rfl
end Go.Tree.Q

/- Trees of values: program points of functions. -/
namespace Go.Tree.Q
open Go.Proofs
set_option linter.unusedVariables false
set_option maxRecDepth 20000
noncomputable def EG3_0 (a : Int) (b : List TV) (c : Int) (d f g : List TV) (h : Int) (i : Bool) : Env := [.un, .un, w6 a, w0 b c, w1 d f g, .un, .un, .un, w6 h, .val [] (tb i)] ++ uns 55
noncomputable abbrev G3_0 (a : Int) (b : List TV) (c : Int) (d f g : List TV) (h : Int) (i : Bool) : Nd := .go [1, 1, 1, 1, 1, 1, 1] (EG3_0 a b c d f g h i)
noncomputable def N3_s0 (a : List TV) (b : Int) (c d f : List TV) (g : Int) : Nd :=
 C10 a b fun h i =>
 C11 c d f fun j k l =>
 C9 h i j k l g fun m n =>
 G3_0 g a b c d f m n
noncomputable def N3 (a : List TV) (b : Int) (c d f : List TV) (g : Int) : Nd :=
 C7 a b 1048576 fun h =>
 .bif (decide (h < 0))
 (.ret [tb true] [])
 (C8 c d f h fun i =>
 .bif (decide (i < 0))
 (.ret [tb true] [])
 (.amb2
 (N3_s0 a b c d f g)
 (N3_s0 a b c d f g)))
theorem e3 {a : List TV} {b : Int} {c d f : List TV} {g : Int} {r : Res} (h : S cx 3 (N3 a b c d f g) = some r) : tw cx 3 [.st [sl true ⟨6,true⟩ a, i64 b], .st [sl true ⟨1,false⟩ c, sl true ⟨1,false⟩ d, sl true ⟨1,false⟩ f], i64 g] = some r :=
 tw_of (fun call hd hb pt rg => by kernel_rfl) h
noncomputable def NG3_0_s0 (a b : List TV) (c d : List TV) (f g : List TV) : Nd :=
 C11 a b c fun h i j =>
 C14 d f g h i j fun k =>
 .bif ((!k))
 (.ret [tb false] [])
 (.ret [tb true] [])
noncomputable def NG3_0_s1 (h : List TV) (i : Int) (a b : List TV) (c j : List TV) (k : Int) (d f g : List TV) : Nd :=
 C10 h i fun l m =>
 C13 j k l m fun n =>
 .bif ((!n))
 (.ret [tb false] [])
 (.amb2
 (NG3_0_s0 a b c d f g)
 (NG3_0_s0 a b c d f g))
noncomputable def NG3_0 (l : Int) (a : List TV) (b : Int) (c d f : List TV) (m : Int) (n : Bool) : Nd :=
 C10 a b fun g h =>
 C11 c d f fun i j k =>
 C12 g h i j k l fun o p =>
 .bif ((o != m))
 (.ret [tb false] [])
 (.bif ((!(p == n)))
 (.ret [tb false] [])
 (.amb2
 (NG3_0_s1 a b c d f g h i j k)
 (NG3_0_s1 a b c d f g h i j k)))
theorem eG3_0 {a : Int} {b : List TV} {c : Int} {d f g : List TV} {i : Int} {j : Bool} {r : Res} (h : S cx 3 (NG3_0 a b c d f g i j) = some r) : S cx 3 (G3_0 a b c d f g i j) = some r :=
 pw_of (fun call hd hb pt rg => by kernel_rfl) h
noncomputable def EG4_0 (a : Int) (b : List TV) (c : Int) (d f : List TV) (g h : List TV) (i : Int) (j : Bool) : Env := [.un, .un, w6 a, w0 b c, w1 d f g, .un, .un, .un, w10 h, w6 i, .val [] (tb j)] ++ uns 137
noncomputable abbrev G4_0 (a : Int) (b : List TV) (c : Int) (d f : List TV) (g h : List TV) (i : Int) (j : Bool) : Nd := .go [1, 1, 1, 1, 1, 1, 1] (EG4_0 a b c d f g h i j)
noncomputable def EG4_1 (a : List TV) (b : Int) (c : Bool) (d : List TV) (f : Int) (g : List TV) (h : Int) (i : Bool) : Env := uns 8 ++ [w10 a, w6 b, .val [] (tb c), .un, .un, w10 d, .un, .un, .un, w6 f, .un, w10 g, w6 h, .val [] (tb i)] ++ uns 126
noncomputable abbrev G4_1 (a : List TV) (b : Int) (c : Bool) (d : List TV) (f : Int) (g : List TV) (h : Int) (i : Bool) : Nd := .go [1, 1, 1, 1, 1, 1, 1, 1, 1, 1, 1, 1, 1, 1, 1, 1, 1, 1, 1, 1, 1, 1, 1, 1] (EG4_1 a b c d f g h i)
noncomputable def N4_s0 (a : List TV) (b : Int) (c d f : List TV) (g : Int) : Nd :=
 C10 a b fun h i =>
 C11 c d f fun j k l =>
 C15 h i j k l g fun m n o =>
 G4_0 g a b c d f m n o
noncomputable def N4 (a : List TV) (b : Int) (c d f : List TV) (g : Int) : Nd :=
 C7 a b 1048576 fun h =>
 .bif (decide (h < 0))
 (.ret [tb true] [])
 (C8 c d f h fun i =>
 .bif (decide (i < 0))
 (.ret [tb true] [])
 (.amb2
 (N4_s0 a b c d f g)
 (N4_s0 a b c d f g)))
theorem e4 {a : List TV} {b : Int} {c d f : List TV} {g : Int} {r : Res} (h : S cx 4 (N4 a b c d f g) = some r) : tw cx 4 [.st [sl true ⟨6,true⟩ a, i64 b], .st [sl true ⟨1,false⟩ c, sl true ⟨1,false⟩ d, sl true ⟨1,false⟩ f], i64 g] = some r :=
 tw_of (fun call hd hb pt rg => by kernel_rfl) h
noncomputable def NG4_0_s0 (a : Int) (b : List TV) (c : Int) (d f : List TV) (g h : List TV) (i : Int) (j : Bool) (k : Int) (l : List TV) : Nd :=
 C10 b c fun m n =>
 C11 d f g fun o p q =>
 C16 m n o p q a fun r s t =>
 G4_1 h i j l k r s t
noncomputable def NG4_0_s1 (j : Int) (k : List TV) (l : Int) (a b : List TV) (c d : List TV) (f : Int) (g : Bool) (r : List TV) (s : Int) (m n : List TV) (o p : List TV) (t : Int) (u : Bool) : Nd :=
 C11 a b c fun v w x =>
 C14 m n o v w x fun y =>
 .bif ((!y))
 (.ret [tb false] [])
 (C18 r s 1 fun z ac ad =>
 C19 m n o z fun aa ae af ag =>
 .bif (decide (aa < 0))
 (.ret [tb false] [])
 (C17 p d fun ab =>
 .bif ((!ab))
 (.ret [tb false] [])
 (.bif ((t != f))
 (.ret [tb false] [])
 (.bif ((!(u == g)))
 (.ret [tb false] [])
 (C20 p 1 fun h i =>
 C21 i 1 fun q =>
 .bif (decide (q < 0))
 (.ret [tb false] [])
 (.bif ((q != h))
 (.ret [tb false] [])
 (.amb2
 (NG4_0_s0 j k l a b c d f g h i)
 (NG4_0_s0 j k l a b c d f g h i))))))))
noncomputable def NG4_0_s2 (f : Int) (a : List TV) (b : Int) (g h : List TV) (i j : List TV) (k : Int) (l : Bool) (c : List TV) (d : Int) (m n : List TV) (o p : List TV) (q : Int) (r : Bool) : Nd :=
 C10 a b fun s t =>
 C13 c d s t fun u =>
 .bif ((!u))
 (.ret [tb false] [])
 (.amb2
 (NG4_0_s1 f a b g h i j k l c d m n o p q r)
 (NG4_0_s1 f a b g h i j k l c d m n o p q r))
noncomputable def NG4_0 (a : Int) (b : List TV) (c : Int) (d f : List TV) (g h : List TV) (i : Int) (j : Bool) : Nd :=
 C10 b c fun k l =>
 C11 d f g fun m n o =>
 C16 k l m n o a fun p q r =>
 C17 p h fun s =>
 .bif ((!s))
 (.ret [tb false] [])
 (.bif ((q != i))
 (.ret [tb false] [])
 (.bif ((!(r == j)))
 (.ret [tb false] [])
 (.amb2
 (NG4_0_s2 a b c d f g h i j k l m n o p q r)
 (NG4_0_s2 a b c d f g h i j k l m n o p q r))))
theorem eG4_0 {a : Int} {b : List TV} {c : Int} {d f : List TV} {g i : List TV} {j : Int} {k : Bool} {r : Res} (h : S cx 4 (NG4_0 a b c d f g i j k) = some r) : S cx 4 (G4_0 a b c d f g i j k) = some r :=
 pw_of (fun call hd hb pt rg => by kernel_rfl) h
noncomputable def NG4_1 (b : List TV) (c : Int) (d : Bool) (f : List TV) (g : Int) (h : List TV) (i : Int) (j : Bool) : Nd :=
 C17 h b fun k =>
 .bif ((!k))
 (.ret [tb false] [])
 (.bif ((i != c))
 (.ret [tb false] [])
 (.bif ((!(j == d)))
 (.ret [tb false] [])
 (C21 f 1 fun a =>
 .bif (decide (a < 0))
 (.ret [tb false] [])
 (.bif ((a != g))
 (.ret [tb false] [])
 (.ret [tb true] [])))))
theorem eG4_1 {a : List TV} {b : Int} {c : Bool} {d : List TV} {f : Int} {g : List TV} {i : Int} {j : Bool} {r : Res} (h : S cx 4 (NG4_1 a b c d f g i j) = some r) : S cx 4 (G4_1 a b c d f g i j) = some r :=
 pw_of (fun call hd hb pt rg => by kernel_rfl) h
noncomputable def EG5_0 (a : Int) (b : List TV) (c : Int) (d f : List TV) (g h : List TV) (i j : List TV) (k l : Int) (m : Bool) : Env := [.un, .un, w6 a, w0 b c, w1 d f g, .un, .un, .un, w27 h i j, w6 k, w6 l, .val [] (tb m)] ++ uns 157
noncomputable abbrev G5_0 (a : Int) (b : List TV) (c : Int) (d f : List TV) (g h : List TV) (i j : List TV) (k l : Int) (m : Bool) : Nd := .go [1, 1, 1, 1, 1, 1, 1] (EG5_0 a b c d f g h i j k l m)
noncomputable def N5_s0 (b : List TV) (c : Int) (d f g : List TV) (a : Int) (h : List TV) (i : Int) (j k l : List TV) : Nd :=
 C22 h i j k l a fun m n o p q r =>
 G5_0 a b c d f g m n o p q r
noncomputable def N5_s1 (d : List TV) (f : Int) (a b c : List TV) (g : Int) (h : List TV) (i : Int) : Nd :=
 C11 a b c fun j k l =>
 N5_s0 d f a b c g h i j k l
noncomputable def N5_s2 (a : List TV) (b : Int) (c d f : List TV) (g : Int) : Nd :=
 C10 a b fun h i =>
 .amb2
 (C11 c d f fun j k l =>
 .amb2
 (N5_s0 a b c d f g h i j k l)
 (N5_s0 a b c d f g h i j k l))
 (N5_s1 a b c d f g h i)
noncomputable def N5_s3 (a : List TV) (b : Int) (c d f : List TV) (g : Int) : Nd :=
 C10 a b fun h i =>
 N5_s1 a b c d f g h i
noncomputable def N5 (a : List TV) (b : Int) (c d f : List TV) (g : Int) : Nd :=
 C7 a b 1048576 fun h =>
 .bif (decide (h < 0))
 (.ret [tb true] [])
 (C8 c d f h fun i =>
 .bif (decide (i < 0))
 (.ret [tb true] [])
 (.amb3
 (N5_s2 a b c d f g)
 (.amb2
 (N5_s2 a b c d f g)
 (N5_s3 a b c d f g))
 (.amb2
 (N5_s3 a b c d f g)
 (N5_s3 a b c d f g))))
theorem e5 {a : List TV} {b : Int} {c d f : List TV} {g : Int} {r : Res} (h : S cx 5 (N5 a b c d f g) = some r) : tw cx 5 [.st [sl true ⟨6,true⟩ a, i64 b], .st [sl true ⟨1,false⟩ c, sl true ⟨1,false⟩ d, sl true ⟨1,false⟩ f], i64 g] = some r :=
 tw_of (fun call hd hb pt rg => by kernel_rfl) h
noncomputable def N7 (b : List TV) (d c : Int) : Nd :=
 C41 b c fun a =>
 .bif (decide (a < 0))
 (.ret [i64 (-1)] [])
 (.ret [i64 a] [])
theorem e7 {a : List TV} {b c : Int} {r : Res} (h : S cx 7 (N7 a b c) = some r) : tw cx 7 [.st [sl true ⟨6,true⟩ a, i64 b], i64 c] = some r :=
 tw_of (fun call hd hb pt rg => by kernel_rfl) h
noncomputable def N8 (d f g : List TV) (h : Int) : Nd :=
 C42 d h fun a =>
 .bif (decide (a < 0))
 (.ret [i64 (-1)] [])
 (C42 f a fun b =>
 .bif (decide (b < 0))
 (.ret [i64 (-1)] [])
 (C42 g b fun c =>
 .bif (decide (c < 0))
 (.ret [i64 (-1)] [])
 (.ret [i64 c] [])))
theorem e8 {a b c : List TV} {d : Int} {r : Res} (h : S cx 8 (N8 a b c d) = some r) : tw cx 8 [.st [sl true ⟨1,false⟩ a, sl true ⟨1,false⟩ b, sl true ⟨1,false⟩ c], i64 d] = some r :=
 tw_of (fun call hd hb pt rg => by kernel_rfl) h
noncomputable def N9 (a : List TV) (b : Int) (c d f : List TV) (g : Int) : Nd :=
 C43 a b fun h =>
 .bif ((!h))
 (.ret [i64 0, tb false] [])
 (C44 c d f fun i =>
 .bif ((!i))
 (.ret [i64 0, tb false] [])
 (C45 g fun j =>
 .bif ((!j))
 (.ret [i64 0, tb false] [])
 (C46 a b c d f g fun m n o k p q r l =>
 .bif ((k == 3))
 (.ret [i64 0, tb false] [])
 (.ret [i64 l, tb true] []))))
theorem e9 {a : List TV} {b : Int} {c d f : List TV} {g : Int} {r : Res} (h : S cx 9 (N9 a b c d f g) = some r) : tw cx 9 [.st [sl true ⟨6,true⟩ a, i64 b], .st [sl true ⟨1,false⟩ c, sl true ⟨1,false⟩ d, sl true ⟨1,false⟩ f], i64 g] = some r :=
 tw_of (fun call hd hb pt rg => by kernel_rfl) h
noncomputable def N10 (a : List TV) (b : Int) : Nd :=
 C47 a fun c =>
 .ret [.st [sl false ⟨6,true⟩ c, i64 b]] []
theorem e10 {a : List TV} {b : Int} {r : Res} (h : S cx 10 (N10 a b) = some r) : tw cx 10 [.st [sl true ⟨6,true⟩ a, i64 b]] = some r :=
 tw_of (fun call hd hb pt rg => by kernel_rfl) h
noncomputable def N11 (a b c : List TV) : Nd :=
 C48 a fun d =>
 C48 b fun f =>
 C48 c fun g =>
 .ret [.st [sl false ⟨1,false⟩ d, sl false ⟨1,false⟩ f, sl false ⟨1,false⟩ g]] []
theorem e11 {a b c : List TV} {r : Res} (h : S cx 11 (N11 a b c) = some r) : tw cx 11 [.st [sl true ⟨1,false⟩ a, sl true ⟨1,false⟩ b, sl true ⟨1,false⟩ c]] = some r :=
 tw_of (fun call hd hb pt rg => by kernel_rfl) h
noncomputable def N12 (c : List TV) (d : Int) (f g h : List TV) (i : Int) : Nd :=
 .call 49 [.st [sl true ⟨6,true⟩ c, i64 d], .st [sl true ⟨1,false⟩ f, sl true ⟨1,false⟩ g, sl true ⟨1,false⟩ h], i64 i] fun a =>
 .cons a.1 fun j b =>
 .ptO j (.nil b <|
 .nil a.2 <|
 .ret [i64 0, tb false] []) fun k =>
 .st k fun l =>
 .cons l fun m n =>
 V3 m fun aa ab ac =>
 .cons n fun o p =>
 .slO ⟨1,false⟩ o fun ad =>
 .cons p fun q r =>
 .int .i64 q fun s =>
 .cons r fun t u =>
 .int .i64 t fun ae =>
 .cons u fun v w =>
 .int .i64 v fun af =>
 .cons w fun x y =>
 .int .i64 x fun z =>
 .nil y <|
 .nil b <|
 .nil a.2 <|
 .bif ((s == 3))
 (.ret [i64 0, tb false] [])
 (.ret [i64 z, tb true] [])
theorem e12 {a : List TV} {b : Int} {c d f : List TV} {g : Int} {r : Res} (h : S cx 12 (N12 a b c d f g) = some r) : tw cx 12 [.st [sl true ⟨6,true⟩ a, i64 b], .st [sl true ⟨1,false⟩ c, sl true ⟨1,false⟩ d, sl true ⟨1,false⟩ f], i64 g] = some r :=
 tw_of (fun call hd hb pt rg => by kernel_rfl) h
noncomputable def N13 (a : List TV) (b : Int) (c : List TV) (d : Int) : Nd :=
 C50 a c fun f =>
 .bif ((!f))
 (.ret [tb false] [])
 (.bif ((b != d))
 (.ret [tb false] [])
 (.ret [tb true] []))
theorem e13 {a : List TV} {b : Int} {c : List TV} {d : Int} {r : Res} (h : S cx 13 (N13 a b c d) = some r) : tw cx 13 [.st [sl true ⟨6,true⟩ a, i64 b], .st [sl true ⟨6,true⟩ c, i64 d]] = some r :=
 tw_of (fun call hd hb pt rg => by kernel_rfl) h
noncomputable def N14 (a b : List TV) (c d : List TV) (f g : List TV) : Nd :=
 C17 a d fun h =>
 .bif ((!h))
 (.ret [tb false] [])
 (C17 b f fun i =>
 .bif ((!i))
 (.ret [tb false] [])
 (C17 c g fun j =>
 .bif ((!j))
 (.ret [tb false] [])
 (.ret [tb true] [])))
theorem e14 {a b : List TV} {c d : List TV} {f g : List TV} {r : Res} (h : S cx 14 (N14 a b c d f g) = some r) : tw cx 14 [.st [sl true ⟨1,false⟩ a, sl true ⟨1,false⟩ b, sl true ⟨1,false⟩ c], .st [sl true ⟨1,false⟩ d, sl true ⟨1,false⟩ f, sl true ⟨1,false⟩ g]] = some r :=
 tw_of (fun call hd hb pt rg => by kernel_rfl) h
noncomputable def N15 (a : List TV) (b : Int) (c d f : List TV) (g : Int) : Nd :=
 C43 a b fun h =>
 .bif ((!h))
 (.ret [sl false ⟨1,false⟩ ([]), i64 0, tb false] [])
 (C44 c d f fun i =>
 .bif ((!i))
 (.ret [sl false ⟨1,false⟩ ([]), i64 0, tb false] [])
 (C45 g fun j =>
 .bif ((!j))
 (.ret [sl false ⟨1,false⟩ ([]), i64 0, tb false] [])
 (C46 a b c d f g fun m n o p q k l r =>
 .ret [sl false ⟨1,false⟩ k, i64 l, tb true] [])))
theorem e15 {a : List TV} {b : Int} {c d f : List TV} {g : Int} {r : Res} (h : S cx 15 (N15 a b c d f g) = some r) : tw cx 15 [.st [sl true ⟨6,true⟩ a, i64 b], .st [sl true ⟨1,false⟩ c, sl true ⟨1,false⟩ d, sl true ⟨1,false⟩ f], i64 g] = some r :=
 tw_of (fun call hd hb pt rg => by kernel_rfl) h
noncomputable def N16 (c : List TV) (d : Int) (f g h : List TV) (i : Int) : Nd :=
 .call 49 [.st [sl true ⟨6,true⟩ c, i64 d], .st [sl true ⟨1,false⟩ f, sl true ⟨1,false⟩ g, sl true ⟨1,false⟩ h], i64 i] fun a =>
 .cons a.1 fun j b =>
 .ptO j (.nil b <|
 .nil a.2 <|
 .ret [sl false ⟨1,false⟩ ([]), i64 0, tb false] []) fun k =>
 .st k fun l =>
 .cons l fun m n =>
 V3 m fun aa ab ac =>
 .cons n fun o p =>
 .slO ⟨1,false⟩ o fun q =>
 .cons p fun r s =>
 .int .i64 r fun ad =>
 .cons s fun t u =>
 .int .i64 t fun ae =>
 .cons u fun v w =>
 .int .i64 v fun x =>
 .cons w fun y z =>
 .int .i64 y fun af =>
 .nil z <|
 .nil b <|
 .nil a.2 <|
 .ret [sl false ⟨1,false⟩ q, i64 x, tb true] []
theorem e16 {a : List TV} {b : Int} {c d f : List TV} {g : Int} {r : Res} (h : S cx 16 (N16 a b c d f g) = some r) : tw cx 16 [.st [sl true ⟨6,true⟩ a, i64 b], .st [sl true ⟨1,false⟩ c, sl true ⟨1,false⟩ d, sl true ⟨1,false⟩ f], i64 g] = some r :=
 tw_of (fun call hd hb pt rg => by kernel_rfl) h
noncomputable def EH17_0 (a b : List TV) (c : Int) : Env := [w3 a, w3 b, .un, .un, .un, w6 c] ++ uns 22
noncomputable abbrev H17_0 (a b : List TV) (c : Int) : Nd := .head [1, 1, 0, 1, 2] (EH17_0 a b c)
noncomputable abbrev B17_0 (a b : List TV) (c : Int) : Nd := .back [1, 1, 0, 1, 2] (EH17_0 a b c)
noncomputable def N17 (a b : List TV) : Nd :=
 .bif ((((a.length : Nat) : Int) != ((b.length : Nat) : Int)))
 (.ret [tb false] [])
 (H17_0 a b 0)
theorem e17 {a b : List TV} {r : Res} (h : S cx 17 (N17 a b) = some r) : tw cx 17 [sl true ⟨1,false⟩ a, sl true ⟨1,false⟩ b] = some r :=
 tw_of (fun call hd hb pt rg => by kernel_rfl) h
noncomputable def NH17_0 (b c : List TV) (a : Int) : Nd :=
 .bif (decide (a < ((b.length : Nat) : Int)))
 (.ck (decide ((0 : Int) ≤ a) && decide (a < ((b.length : Nat) : Int))) <|
 .int .i64 (b.getD (0 + a.toNat) (.dead ())) fun d =>
 .ck (decide ((0 : Int) ≤ a) && decide (a < ((c.length : Nat) : Int))) <|
 .int .i64 (c.getD (0 + a.toNat) (.dead ())) fun f =>
 .bif ((d != f))
 (.ret [tb false] [])
 (B17_0 b c (w64 (a + 1))))
 (.ret [tb true] [])
theorem eH17_0 {a b : List TV} {c : Int} {r : Res} (h : S cx 17 (NH17_0 a b c) = some r) : S cx 17 (H17_0 a b c) = some r :=
 hw_of (fun call hd hb pt rg => by kernel_rfl) h
noncomputable def EH20_0 (a b : Int) (c : List TV) : Env := [.ref 19 [] none 25 false, w6 a, .un, .un, .un, w6 b] ++ uns 13 ++ [w10 c, .un]
noncomputable abbrev H20_0 (a b : Int) (c : List TV) : Nd := .head [1, 0, 1, 2] (EH20_0 a b c)
noncomputable abbrev B20_0 (a b : Int) (c : List TV) : Nd := .back [1, 0, 1, 2] (EH20_0 a b c)
noncomputable def N20 (a : List TV) (b : Int) : Nd :=
 H20_0 b 0 a
theorem e20 {a : List TV} {b : Int} {r : Res} (h : S cx 20 (N20 a b) = some r) : tw cx 20 [sl false ⟨1,false⟩ a, i64 b] = some r :=
 tw_of (fun call hd hb pt rg => by kernel_rfl) h
noncomputable def NH20_0 (c a : Int) (b : List TV) : Nd :=
 .bif (decide (a < ((b.length : Nat) : Int)))
 (.ck (decide ((0 : Int) ≤ a) && decide (a < ((b.length : Nat) : Int))) <|
 B20_0 (w64 (c + 1)) (w64 (a + 1)) (b.set (0 + a.toNat) (i64 c)))
 (.ret [i64 c] [sl false ⟨1,false⟩ b])
theorem eH20_0 {a b : Int} {c : List TV} {r : Res} (h : S cx 20 (NH20_0 a b c) = some r) : S cx 20 (H20_0 a b c) = some r :=
 hw_of (fun call hd hb pt rg => by kernel_rfl) h
noncomputable def EH21_0 (a : List TV) (b c : Int) : Env := [w3 a, w6 b, .un, .un, .un, w6 c] ++ uns 17
noncomputable abbrev H21_0 (a : List TV) (b c : Int) : Nd := .head [1, 0, 1, 2] (EH21_0 a b c)
noncomputable abbrev B21_0 (a : List TV) (b c : Int) : Nd := .back [1, 0, 1, 2] (EH21_0 a b c)
noncomputable def N21 (a : List TV) (b : Int) : Nd :=
 H21_0 a b 0
theorem e21 {a : List TV} {b : Int} {r : Res} (h : S cx 21 (N21 a b) = some r) : tw cx 21 [sl true ⟨1,false⟩ a, i64 b] = some r :=
 tw_of (fun call hd hb pt rg => by kernel_rfl) h
noncomputable def NH21_0 (b : List TV) (c a : Int) : Nd :=
 .bif (decide (a < ((b.length : Nat) : Int)))
 (.ck (decide ((0 : Int) ≤ a) && decide (a < ((b.length : Nat) : Int))) <|
 .int .i64 (b.getD (0 + a.toNat) (.dead ())) fun d =>
 .bif ((d != c))
 (.ret [i64 (-1)] [])
 (B21_0 b (w64 (c + 1)) (w64 (a + 1))))
 (.ret [i64 c] [])
theorem eH21_0 {a : List TV} {b c : Int} {r : Res} (h : S cx 21 (NH21_0 a b c) = some r) : S cx 21 (H21_0 a b c) = some r :=
 hw_of (fun call hd hb pt rg => by kernel_rfl) h
noncomputable def EH41_0 (a : List TV) (b c : Int) : Env := [w24 a, w6 b, .un, .un, .un, w6 c] ++ uns 23
noncomputable abbrev H41_0 (a : List TV) (b c : Int) : Nd := .head [1, 1, 1, 0, 1, 2] (EH41_0 a b c)
noncomputable abbrev B41_0 (a : List TV) (b c : Int) : Nd := .back [1, 1, 1, 0, 1, 2] (EH41_0 a b c)
noncomputable def N41 (a : List TV) (b : Int) : Nd :=
 .bif (decide (w64 (b - ((a.length : Nat) : Int)) < 0))
 (.ret [i64 (-1)] [])
 (H41_0 a (w64 (b - ((a.length : Nat) : Int))) 0)
theorem e41 {a : List TV} {b : Int} {r : Res} (h : S cx 41 (N41 a b) = some r) : tw cx 41 [sl true ⟨6,true⟩ a, i64 b] = some r :=
 tw_of (fun call hd hb pt rg => by kernel_rfl) h
noncomputable def NH41_0 (b : List TV) (c a : Int) : Nd :=
 .bif (decide (a < ((b.length : Nat) : Int)))
 (.ck (decide ((0 : Int) ≤ a) && decide (a < ((b.length : Nat) : Int))) <|
 V6 (b.getD (0 + a.toNat) (.dead ())) fun f g h i j k =>
 C79 f g h i j k c fun d =>
 .bif (decide (d < 0))
 (.ret [i64 (-1)] [])
 (B41_0 b d (w64 (a + 1))))
 (.ret [i64 c] [])
theorem eH41_0 {a : List TV} {b c : Int} {r : Res} (h : S cx 41 (NH41_0 a b c) = some r) : S cx 41 (H41_0 a b c) = some r :=
 hw_of (fun call hd hb pt rg => by kernel_rfl) h
noncomputable def N42 (a : List TV) (b : Int) : Nd :=
 .bif (decide (w64 (b - ((a.length : Nat) : Int)) < 0))
 (.ret [i64 (-1)] [])
 (.ret [i64 (w64 (b - ((a.length : Nat) : Int)))] [])
theorem e42 {a : List TV} {b : Int} {r : Res} (h : S cx 42 (N42 a b) = some r) : tw cx 42 [sl true ⟨1,false⟩ a, i64 b] = some r :=
 tw_of (fun call hd hb pt rg => by kernel_rfl) h
noncomputable def EH43_0 (a : List TV) (b c : Int) : Env := [.un, w0 a b] ++ uns 28 ++ [w24 a, w8 a, w6 c] ++ uns 111
noncomputable abbrev H43_0 (a : List TV) (b c : Int) : Nd := .head [1, 1, 0, 1, 2] (EH43_0 a b c)
noncomputable abbrev B43_0 (a : List TV) (b c : Int) : Nd := .back [1, 1, 0, 1, 2] (EH43_0 a b c)
noncomputable def EH43_1 (a : List TV) (c d : Int) (b : List TV) (f : Int) : Env := [.un, w0 a c] ++ uns 28 ++ [w24 a, w8 a, w6 d, .un, .un, .un, .un, w3 b, w8 b, w6 f] ++ uns 104
noncomputable abbrev H43_1 (a : List TV) (b c : Int) (d : List TV) (f : Int) : Nd := .head [1, 1, 0, 1, 2, 5, 1, 1, 0, 2, 1, 1, 2] (EH43_1 a b c d f)
noncomputable abbrev B43_1 (a : List TV) (b c : Int) (d : List TV) (f : Int) : Nd := .back [1, 1, 0, 1, 2, 5, 1, 1, 0, 2, 1, 1, 2] (EH43_1 a b c d f)
noncomputable def EH43_2 (a : List TV) (b c : Int) : Env := [.un, w0 a b] ++ uns 53 ++ [w24 a, w8 a, w6 c] ++ uns 86
noncomputable abbrev H43_2 (a : List TV) (b c : Int) : Nd := .head [1, 1, 1, 0, 1, 2] (EH43_2 a b c)
noncomputable abbrev B43_2 (a : List TV) (b c : Int) : Nd := .back [1, 1, 1, 0, 1, 2] (EH43_2 a b c)
noncomputable def EH43_3 (b c : List TV) (d a : List TV) (f : Int) : Env := uns 9 ++ [w10 b, .un, w31 c, .val [11] (sl false ⟨1,true⟩ d)] ++ uns 74 ++ [w24 a, w8 a, w6 f] ++ uns 54
noncomputable abbrev H43_3 (a b : List TV) (c d : List TV) (f : Int) : Nd := .head [1, 1, 1, 1, 1, 1, 1, 1, 0, 1, 2] (EH43_3 a b c d f)
noncomputable abbrev B43_3 (a b : List TV) (c d : List TV) (f : Int) : Nd := .back [1, 1, 1, 1, 1, 1, 1, 1, 0, 1, 2] (EH43_3 a b c d f)
noncomputable def EH43_4 (c d f : List TV) (g : Int) (h a : List TV) (i j : Int) (k l : List TV) (m b : List TV) (n o : Int) : Env := uns 9 ++ [w10 c, .un, w31 d, .val [11] (sl false ⟨1,true⟩ f), w6 g, w20 h a i j k l, w10 m] ++ uns 71 ++ [w24 b, w8 b, w6 n] ++ uns 15 ++ [w25 a, w8 a, w6 o] ++ uns 36
noncomputable abbrev H43_4 (a b c : List TV) (d : Int) (f g : List TV) (h i : Int) (j k : List TV) (l m : List TV) (n o : Int) : Nd := .head [1, 1, 1, 1, 1, 1, 1, 1, 0, 1, 2, 5, 1, 1, 0, 2, 1, 1, 1, 0, 1, 2] (EH43_4 a b c d f g h i j k l m n o)
noncomputable abbrev B43_4 (a b c : List TV) (d : Int) (f g : List TV) (h i : Int) (j k : List TV) (l m : List TV) (n o : Int) : Nd := .back [1, 1, 1, 1, 1, 1, 1, 1, 0, 1, 2, 5, 1, 1, 0, 2, 1, 1, 1, 0, 1, 2] (EH43_4 a b c d f g h i j k l m n o)
noncomputable def N43 (a : List TV) (b : Int) : Nd :=
 C80 ((a.length : Nat) : Int) 1 11 fun c =>
 .bif ((!c))
 (.ret [tb false] [])
 (C80 b 12 250 fun d =>
 .bif ((!d))
 (.ret [tb false] [])
 (H43_0 a b 0))
theorem e43 {a : List TV} {b : Int} {r : Res} (h : S cx 43 (N43 a b) = some r) : tw cx 43 [.st [sl true ⟨6,true⟩ a, i64 b]] = some r :=
 tw_of (fun call hd hb pt rg => by kernel_rfl) h
noncomputable def NH43_0 (a : List TV) (c b : Int) : Nd :=
 .bif (decide (b < ((a.length : Nat) : Int)))
 (.ck (decide ((0 : Int) ≤ b) && decide (b < ((a.length : Nat) : Int))) <|
 V6 (a.getD (0 + b.toNat) (.dead ())) fun f g h i d j =>
 H43_1 a c b d 0)
 (H43_2 a c 0)
theorem eH43_0 {a : List TV} {b c : Int} {r : Res} (h : S cx 43 (NH43_0 a b c) = some r) : S cx 43 (H43_0 a b c) = some r :=
 hw_of (fun call hd hb pt rg => by kernel_rfl) h
noncomputable def NH43_1 (c : List TV) (d f : Int) (b : List TV) (a : Int) : Nd :=
 .bif (decide (a < ((b.length : Nat) : Int)))
 (.ck (decide ((0 : Int) ≤ a) && decide (a < ((b.length : Nat) : Int))) <|
 .int .i64 (b.getD (0 + a.toNat) (.dead ())) fun g =>
 .bif (decide (g ≤ 0))
 (.ret [tb false] [])
 (.bif (decide (g ≥ ((c.length : Nat) : Int)))
 (.ret [tb false] [])
 (B43_1 c d f b (w64 (a + 1)))))
 (B43_0 c d (w64 (f + 1)))
theorem eH43_1 {a : List TV} {b c : Int} {d : List TV} {f : Int} {r : Res} (h : S cx 43 (NH43_1 a b c d f) = some r) : S cx 43 (H43_1 a b c d f) = some r :=
 hw_of (fun call hd hb pt rg => by kernel_rfl) h
noncomputable def NH43_2 (a : List TV) (c b : Int) : Nd :=
 .bif (decide (b < ((a.length : Nat) : Int)))
 (.ck (decide ((0 : Int) ≤ b) && decide (b < ((a.length : Nat) : Int))) <|
 V6 (a.getD (0 + b.toNat) (.dead ())) fun f g h i j k =>
 C81 a c f g h i j k fun l =>
 .bif ((!l))
 (.ret [tb false] [])
 (B43_2 a c (w64 (b + 1))))
 (C82 a c fun m n =>
 .bif ((!n))
 (.ret [tb false] [])
 (.ck (decide ((0 : Int) < ((a.length : Nat) : Int))) <|
 V6 (a.getD 0 (.dead ())) fun o q r s t u =>
 .bif (decide (((o.length : Nat) : Int) > 0))
 (.ret [tb false] [])
 (C83 a c fun d =>
 C84 d fun p =>
 H43_3 m d p a 0)))
theorem eH43_2 {a : List TV} {b c : Int} {r : Res} (h : S cx 43 (NH43_2 a b c) = some r) : S cx 43 (H43_2 a b c) = some r :=
 hw_of (fun call hd hb pt rg => by kernel_rfl) h
noncomputable def NH43_3_s0 (c d : List TV) (f g : List TV) (b : Int) (a h : List TV) (i j : Int) (k l m : List TV) : Nd :=
 .bif ((((m.length : Nat) : Int) == 0))
 (.ret [tb false] [])
 (.ck (decide ((0 + a.length) * 8 < lim)) <|
 H43_4 c d f b a h i j k l (([]) ++ a) g b 0)
noncomputable def NH43_3 (d f : List TV) (b c : List TV) (a : Int) : Nd :=
 .bif (decide (a < ((c.length : Nat) : Int)))
 (.ck (decide ((0 : Int) ≤ a) && decide (a < ((c.length : Nat) : Int))) <|
 V6 (c.getD (0 + a.toNat) (.dead ())) fun g h i j k l =>
 .ck (decide ((0 : Int) ≤ a) && decide (a < ((b.length : Nat) : Int))) <|
 .slO ⟨1,false⟩ (b.getD (0 + a.toNat) (.dead ())) fun n =>
 .slB ⟨1,false⟩ (b.getD (0 + a.toNat) (.dead ())) fun r m => bif r then
 (NH43_3_s0 d f b c a g h i j k l m)
 else (NH43_3_s0 d f b c a g h i j k l m))
 (.ret [tb true] [])
theorem eH43_3 {a b : List TV} {c d : List TV} {f : Int} {r : Res} (h : S cx 43 (NH43_3 a b c d f) = some r) : S cx 43 (H43_3 a b c d f) = some r :=
 hw_of (fun call hd hb pt rg => by kernel_rfl) h
noncomputable def NH43_4_s0 (c f d : List TV) (a : Int) (g h : List TV) (i j : Int) (k l : List TV) (b m : List TV) (n o : Int) (q p : Int) (r : List TV) : Nd :=
 .slO ⟨1,false⟩ (d.getD (0 + a.toNat) (.dead ())) fun s =>
 C85 r c s b a fun t =>
 .bif ((!t))
 (.ret [tb false] [])
 (C87 q fun u =>
 .bif (u)
 (.ck (decide ((b.length + ([i64 p] : List TV).length) * 8 < lim)) <|
 B43_4 c f d a g h i j k l (b ++ ([i64 p])) m n (w64 (o + 1)))
 (B43_4 c f d a g h i j k l b m n (w64 (o + 1))))
noncomputable def NH43_4_s1 (a d b : List TV) (c : Int) (f g : List TV) (h : Int) (i : List TV) : Nd :=
 .slO ⟨1,false⟩ (b.getD (0 + c.toNat) (.dead ())) fun j =>
 C85 i a j f c fun k =>
 .bif ((!k))
 (.ret [tb false] [])
 (B43_3 a d b g (w64 (h + 1)))
noncomputable def NH43_4 (f g b : List TV) (a : Int) (h c : List TV) (i j : Int) (k l : List TV) (m n : List TV) (o d : Int) : Nd :=
 .bif (decide (d < ((c.length : Nat) : Int)))
 (.ck (decide ((0 : Int) ≤ d) && decide (d < ((c.length : Nat) : Int))) <|
 V6_1 (c.getD (0 + d.toNat) (.dead ())) fun p u q v w x =>
 .ck (decide ((0 : Int) ≤ a) && decide (a < ((b.length : Nat) : Int))) <|
 .amb2
 (C86 p u q v w x fun r =>
 .slO ⟨1,false⟩ (b.getD (0 + a.toNat) (.dead ())) fun s =>
 NH43_4_s0 f g b a h c i j k l m n o d p q r)
 (.slO ⟨1,false⟩ (b.getD (0 + a.toNat) (.dead ())) fun s =>
 C86 p u q v w x fun r =>
 NH43_4_s0 f g b a h c i j k l m n o d p q r))
 (.ck (decide ((0 : Int) ≤ a) && decide (a < ((b.length : Nat) : Int))) <|
 .amb2
 (C88 h c i j k l fun t =>
 .slO ⟨1,false⟩ (b.getD (0 + a.toNat) (.dead ())) fun s =>
 NH43_4_s1 f g b a m n o t)
 (.slO ⟨1,false⟩ (b.getD (0 + a.toNat) (.dead ())) fun s =>
 C88 h c i j k l fun t =>
 NH43_4_s1 f g b a m n o t))
theorem eH43_4 {a b c : List TV} {d : Int} {f g : List TV} {i j : Int} {k l : List TV} {m n : List TV} {o p : Int} {r : Res} (h : S cx 43 (NH43_4 a b c d f g i j k l m n o p) = some r) : S cx 43 (H43_4 a b c d f g i j k l m n o p) = some r :=
 hw_of (fun call hd hb pt rg => by kernel_rfl) h
noncomputable def N44 (b c a : List TV) : Nd :=
 C89 b 8 fun d =>
 .bif (d)
 (C89 c 16 fun f =>
 .bif (f)
 (.bif (decide (((a.length : Nat) : Int) ≤ 100))
 (C89 a ((a.length : Nat) : Int) fun g =>
 .ret [tb g] [])
 (.ret [tb false] []))
 (.ret [tb false] []))
 (.ret [tb false] [])
theorem e44 {a b c : List TV} {r : Res} (h : S cx 44 (N44 a b c) = some r) : tw cx 44 [.st [sl true ⟨1,false⟩ a, sl true ⟨1,false⟩ b, sl true ⟨1,false⟩ c]] = some r :=
 tw_of (fun call hd hb pt rg => by kernel_rfl) h
noncomputable def N45 (a : Int) : Nd :=
 C80 a 0 2000 fun b =>
 .ret [tb b] []
theorem e45 {a : Int} {r : Res} (h : S cx 45 (N45 a) = some r) : tw cx 45 [i64 a] = some r :=
 tw_of (fun call hd hb pt rg => by kernel_rfl) h
end Go.Tree.Q

/- Trees of values: program points of functions. -/
namespace Go.Tree.Q
open Go.Proofs
set_option linter.unusedVariables false
set_option maxRecDepth 20000
noncomputable def EH46_0 (a : Int) (b : List TV) (c : Int) (d f g : List TV) (h i : Int) (j : List TV) (k l : Int) (m : List TV) (n : Int) : Env := [.un, .un, w6 a, w0 b c, .un, .un, w14, w19 d f g h i j k l, w10 m, w6 n] ++ uns 132
noncomputable abbrev H46_0 (a : Int) (b : List TV) (c : Int) (d f g : List TV) (h i : Int) (j : List TV) (k l : Int) (m : List TV) (n : Int) : Nd := .head [1, 1, 1, 1, 2] (EH46_0 a b c d f g h i j k l m n)
noncomputable abbrev B46_0 (a : Int) (b : List TV) (c : Int) (d f g : List TV) (h i : Int) (j : List TV) (k l : Int) (m : List TV) (n : Int) : Nd := .back [1, 1, 1, 1, 2] (EH46_0 a b c d f g h i j k l m n)
noncomputable def EH46_1 (b : Int) (c : List TV) (d : Int) (f g h : List TV) (i j : Int) (k : List TV) (l m : Int) (n a o : List TV) (p q : Int) (r s : List TV) (t : Int) : Env := [.un, .un, w6 b, w0 c d, .un, .un, w14, w19 f g h i j k l m, w10 n, .un, w20 a o p q r s] ++ uns 30 ++ [w3 a, w8 a, w6 t] ++ uns 98
noncomputable abbrev H46_1 (a : Int) (b : List TV) (c : Int) (d f g : List TV) (h i : Int) (j : List TV) (k l : Int) (m n o : List TV) (p q : Int) (r s : List TV) (t : Int) : Nd := .head [1, 1, 1, 1, 2, 5, 2, 1, 1, 1, 1, 0, 1, 2] (EH46_1 a b c d f g h i j k l m n o p q r s t)
noncomputable abbrev B46_1 (a : Int) (b : List TV) (c : Int) (d f g : List TV) (h i : Int) (j : List TV) (k l : Int) (m n o : List TV) (p q : Int) (r s : List TV) (t : Int) : Nd := .back [1, 1, 1, 1, 2, 5, 2, 1, 1, 1, 1, 0, 1, 2] (EH46_1 a b c d f g h i j k l m n o p q r s t)
noncomputable def EH46_2 (b : Int) (c : List TV) (d : Int) (f g h : List TV) (i j : Int) (k : List TV) (l m : Int) (n a : List TV) (o p : Int) (q r : List TV) (s : Int) : Env := [.un, .un, w6 b, w0 c d, .un, .un, w14, w19 f g h i j k l m, .un, .un, w20 n a o p q r] ++ uns 47 ++ [w25 a, w8 a, w6 s] ++ uns 81
noncomputable abbrev H46_2 (a : Int) (b : List TV) (c : Int) (d f g : List TV) (h i : Int) (j : List TV) (k l : Int) (m n : List TV) (o p : Int) (q r : List TV) (s : Int) : Nd := .head [1, 1, 1, 1, 2, 5, 2, 1, 1, 1, 1, 1, 0, 1, 2] (EH46_2 a b c d f g h i j k l m n o p q r s)
noncomputable abbrev B46_2 (a : Int) (b : List TV) (c : Int) (d f g : List TV) (h i : Int) (j : List TV) (k l : Int) (m n : List TV) (o p : Int) (q r : List TV) (s : Int) : Nd := .back [1, 1, 1, 1, 2, 5, 2, 1, 1, 1, 1, 1, 0, 1, 2] (EH46_2 a b c d f g h i j k l m n o p q r s)
noncomputable def EG46_3 (b : Int) (c : List TV) (d : Int) (f g h : List TV) (i j : Int) (k : List TV) (l m : Int) (n a : List TV) (o p : Int) (q r : List TV) (s t : Int) (u v : Int) (w x y : Int) : Env := [.un, .un, w6 b, w0 c d, .un, .un, w14, w19 f g h i j k l m, .un, .un, w20 n a o p q r, .un, .un, .un, w28 s t u v w x] ++ uns 43 ++ [w25 a, w8 a, w6 y] ++ uns 81
noncomputable abbrev G46_3 (a : Int) (b : List TV) (c : Int) (d f g : List TV) (h i : Int) (j : List TV) (k l : Int) (m n : List TV) (o p : Int) (q r : List TV) (s t : Int) (u v : Int) (w x y : Int) : Nd := .go [1, 1, 1, 1, 2, 5, 2, 1, 1, 1, 1, 1, 0, 1, 2, 5, 1, 1, 0, 2, 1, 1] (EG46_3 a b c d f g h i j k l m n o p q r s t u v w x y)
noncomputable def EH46_4 (b c d : List TV) (f g : Int) (h : List TV) (i j : Int) (a : List TV) (k : Int) : Env := [.un, .un, .un, .un, .un, .un, w14, w19 b c d f g h i j] ++ uns 78 ++ [w3 a, w8 a, w6 k] ++ uns 53
noncomputable abbrev H46_4 (a b c : List TV) (d f : Int) (g : List TV) (h i : Int) (j : List TV) (k : Int) : Nd := .head [1, 1, 1, 1, 2, 5, 2, 1, 1, 1, 1, 1, 1, 0, 1, 3, 0, 1, 2] (EH46_4 a b c d f g h i j k)
noncomputable abbrev B46_4 (a b c : List TV) (d f : Int) (g : List TV) (h i : Int) (j : List TV) (k : Int) : Nd := .back [1, 1, 1, 1, 2, 5, 2, 1, 1, 1, 1, 1, 1, 0, 1, 3, 0, 1, 2] (EH46_4 a b c d f g h i j k)
noncomputable def EH46_5 (b : Int) (c : List TV) (d : Int) (f g h : List TV) (i j : Int) (k : List TV) (l m : Int) (n : List TV) (o : Int) (a : List TV) (p : Int) : Env := [.un, .un, w6 b, w0 c d, .un, .un, w14, w19 f g h i j k l m, w10 n, w6 o] ++ uns 114 ++ [w3 a, w8 a, w6 p] ++ uns 15
noncomputable abbrev H46_5 (a : Int) (b : List TV) (c : Int) (d f g : List TV) (h i : Int) (j : List TV) (k l : Int) (m : List TV) (n : Int) (o : List TV) (p : Int) : Nd := .head [1, 1, 1, 1, 2, 5, 2, 1, 1, 1, 1, 1, 1, 1, 1, 1, 1, 1, 1, 2] (EH46_5 a b c d f g h i j k l m n o p)
noncomputable abbrev B46_5 (a : Int) (b : List TV) (c : Int) (d f g : List TV) (h i : Int) (j : List TV) (k l : Int) (m : List TV) (n : Int) (o : List TV) (p : Int) : Nd := .back [1, 1, 1, 1, 2, 5, 2, 1, 1, 1, 1, 1, 1, 1, 1, 1, 1, 1, 1, 2] (EH46_5 a b c d f g h i j k l m n o p)
noncomputable def N46 (a : List TV) (b : Int) (c d f : List TV) (g : Int) : Nd :=
 C90 a b c d f fun h i j k l m n o =>
 H46_0 g a b h i j k l m n o ([]) 0
theorem e46 {a : List TV} {b : Int} {c d f : List TV} {g : Int} {r : Res} (h : S cx 46 (N46 a b c d f g) = some r) : tw cx 46 [.st [sl true ⟨6,true⟩ a, i64 b], .st [sl true ⟨1,false⟩ c, sl true ⟨1,false⟩ d, sl true ⟨1,false⟩ f], i64 g] = some r :=
 tw_of (fun call hd hb pt rg => by kernel_rfl) h
noncomputable def NH46_0 (d : Int) (b : List TV) (k : Int) (f g h : List TV) (l c : Int) (i : List TV) (m j : Int) (n : List TV) (a : Int) : Nd :=
 .bif ((c == d))
 (.ret [.st [.st [sl false ⟨1,false⟩ f, sl false ⟨1,false⟩ g, sl false ⟨1,false⟩ h], i64 3, i64 c, sl false ⟨1,false⟩ i, i64 m, i64 j]] [])
 (.ck (decide ((0 : Int) ≤ a) && decide (a < ((b.length : Nat) : Int))) <|
 V6 (b.getD (0 + a.toNat) (.dead ())) fun o p q r s t =>
 H46_1 d b k f g h l (w64 (c + 1)) i a j n o p q r s t 0)
theorem eH46_0 {a : Int} {b : List TV} {c : Int} {d f g : List TV} {i j : Int} {k : List TV} {l m : Int} {n : List TV} {o : Int} {r : Res} (h : S cx 46 (NH46_0 a b c d f g i j k l m n o) = some r) : S cx 46 (H46_0 a b c d f g i j k l m n o) = some r :=
 hw_of (fun call hd hb pt rg => by kernel_rfl) h
noncomputable def NH46_1 (g : Int) (h : List TV) (i : Int) (j k l : List TV) (m n : Int) (c : List TV) (o p : Int) (d b q : List TV) (r s : Int) (t u : List TV) (a : Int) : Nd :=
 .bif (decide (a < ((b.length : Nat) : Int)))
 (.ck (decide ((0 : Int) ≤ a) && decide (a < ((b.length : Nat) : Int))) <|
 .int .i64 (b.getD (0 + a.toNat) (.dead ())) fun f =>
 .ck (decide ((0 : Int) ≤ a) && decide (a < ((d.length : Nat) : Int))) <|
 .int .i64 (d.getD (0 + a.toNat) (.dead ())) fun v =>
 .ck (decide ((0 : Int) ≤ f) && decide (f < ((c.length : Nat) : Int))) <|
 B46_1 g h i j k l m n (c.set (0 + f.toNat) (i64 v)) o p d b q r s t u (w64 (a + 1)))
 (H46_2 g h i j k l m n c o p b q r s t u 0)
theorem eH46_1 {a : Int} {b : List TV} {c : Int} {d f g : List TV} {i j : Int} {k : List TV} {l m : Int} {n o p : List TV} {q s : Int} {t u : List TV} {v : Int} {r : Res} (h : S cx 46 (NH46_1 a b c d f g i j k l m n o p q s t u v) = some r) : S cx 46 (H46_1 a b c d f g i j k l m n o p q s t u v) = some r :=
 hw_of (fun call hd hb pt rg => by kernel_rfl) h
noncomputable def NH46_2 (p : Int) (q : List TV) (r : Int) (g h i : List TV) (o j : Int) (b : List TV) (k l : Int) (s c : List TV) (m t : Int) (n a : List TV) (d : Int) : Nd :=
 .bif (decide (d < ((c.length : Nat) : Int)))
 (.ck (decide ((0 : Int) ≤ d) && decide (d < ((c.length : Nat) : Int))) <|
 V6_1 (c.getD (0 + d.toNat) (.dead ())) fun u v w x y z =>
 .bif ((u == 3))
 (G46_3 p q r g h i o j b k (w64 (l + 1)) s c m t n a u v w x y z d)
 (G46_3 p q r g h i o j b k l s c m t n a u v w x y z d))
 (.bif ((m == 3))
 (.ck (decide ((0 : Int) < ((a.length : Nat) : Int))) <|
 .slR ⟨1,false⟩ (a.getD 0 (.dead ())) fun aa =>
 H46_4 g h i o j b k l aa 0)
 (.bif ((m == 4))
 (.ret [.st [.st [sl false ⟨1,false⟩ g, sl false ⟨1,false⟩ h, sl false ⟨1,false⟩ i], i64 2, i64 j, sl false ⟨1,false⟩ b, i64 k, i64 l]] [])
 (C92 s c m t n a b fun f =>
 .ck (decide ((0 : Int) ≤ f) && decide (f < ((n.length : Nat) : Int))) <|
 .int .i64 (n.getD (0 + f.toNat) (.dead ())) fun ab =>
 .ck (decide ((0 : Int) ≤ f) && decide (f < ((a.length : Nat) : Int))) <|
 .slR ⟨1,false⟩ (a.getD (0 + f.toNat) (.dead ())) fun ac =>
 H46_5 p q r g h i o j b k l ([]) ab ac 0)))
theorem eH46_2 {a : Int} {b : List TV} {c : Int} {d f g : List TV} {i j : Int} {k : List TV} {l m : Int} {n o : List TV} {p q : Int} {s t : List TV} {u : Int} {r : Res} (h : S cx 46 (NH46_2 a b c d f g i j k l m n o p q s t u) = some r) : S cx 46 (H46_2 a b c d f g i j k l m n o p q s t u) = some r :=
 hw_of (fun call hd hb pt rg => by kernel_rfl) h
noncomputable def NG46_3 (m : Int) (n : List TV) (o : Int) (g c d : List TV) (p h : Int) (a : List TV) (i j : Int) (q r : List TV) (s t : Int) (u v : List TV) (y aa : Int) (f b : Int) (w ab x : Int) : Nd :=
 .bif ((y == 1))
 (.ck (decide ((0 : Int) ≤ f) && decide (f < ((a.length : Nat) : Int))) <|
 B46_2 m n o g c d p h (a.set (0 + f.toNat) (i64 ab)) i j q r s t u v (w64 (x + 1)))
 (.bif ((y == 2))
 (.ck (decide ((0 : Int) ≤ b) && decide (b < ((a.length : Nat) : Int))) <|
 .int .i64 (a.getD (0 + b.toNat) (.dead ())) fun k =>
 .ck (decide ((0 : Int) ≤ f) && decide (f < ((a.length : Nat) : Int))) <|
 B46_2 m n o g c d p h (a.set (0 + f.toNat) (i64 k)) i j q r s t u v (w64 (x + 1)))
 (.bif ((y == 3))
 (.ck (decide ((0 : Int) ≤ b) && decide (b < ((a.length : Nat) : Int))) <|
 .int .i64 (a.getD (0 + b.toNat) (.dead ())) fun k =>
 .ck (decide ((0 : Int) ≤ w) && decide (w < ((a.length : Nat) : Int))) <|
 .int .i64 (a.getD (0 + w.toNat) (.dead ())) fun z =>
 C132 aa k z fun ac ad =>
 .bif ((!ad))
 (.ret [.st [.st [sl false ⟨1,false⟩ g, sl false ⟨1,false⟩ c, sl false ⟨1,false⟩ d], i64 2, i64 h, sl false ⟨1,false⟩ a, i64 i, i64 j]] [])
 (.ck (decide ((0 : Int) ≤ f) && decide (f < ((a.length : Nat) : Int))) <|
 B46_2 m n o g c d p h (a.set (0 + f.toNat) (i64 ac)) i j q r s t u v (w64 (x + 1))))
 (.bif ((y == 4))
 (.ck (decide ((0 : Int) ≤ b) && decide (b < ((a.length : Nat) : Int))) <|
 .int .i64 (a.getD (0 + b.toNat) (.dead ())) fun k =>
 .bif (decide (k ≥ 16))
 (.ret [.st [.st [sl false ⟨1,false⟩ g, sl false ⟨1,false⟩ c, sl false ⟨1,false⟩ d], i64 2, i64 h, sl false ⟨1,false⟩ a, i64 i, i64 j]] [])
 (.ck (decide ((0 : Int) ≤ b) && decide (b < ((a.length : Nat) : Int))) <|
 .int .i64 (a.getD (0 + b.toNat) (.dead ())) fun l =>
 .ck (decide ((0 : Int) ≤ l) && decide (l < ((c.length : Nat) : Int))) <|
 .int .i64 (c.getD (0 + l.toNat) (.dead ())) fun ae =>
 .ck (decide ((0 : Int) ≤ f) && decide (f < ((a.length : Nat) : Int))) <|
 B46_2 m n o g c d p h (a.set (0 + f.toNat) (i64 ae)) i j q r s t u v (w64 (x + 1))))
 (.bif ((y == 5))
 (.ck (decide ((0 : Int) ≤ b) && decide (b < ((a.length : Nat) : Int))) <|
 .int .i64 (a.getD (0 + b.toNat) (.dead ())) fun k =>
 .bif (decide (k ≥ 16))
 (.ret [.st [.st [sl false ⟨1,false⟩ g, sl false ⟨1,false⟩ c, sl false ⟨1,false⟩ d], i64 2, i64 h, sl false ⟨1,false⟩ a, i64 i, i64 j]] [])
 (.ck (decide ((0 : Int) ≤ b) && decide (b < ((a.length : Nat) : Int))) <|
 .int .i64 (a.getD (0 + b.toNat) (.dead ())) fun l =>
 .ck (decide ((0 : Int) ≤ w) && decide (w < ((a.length : Nat) : Int))) <|
 .int .i64 (a.getD (0 + w.toNat) (.dead ())) fun z =>
 .ck (decide ((0 : Int) ≤ l) && decide (l < ((c.length : Nat) : Int))) <|
 B46_2 m n o g (c.set (0 + l.toNat) (i64 z)) d p h a i j q r s t u v (w64 (x + 1))))
 (.bif ((((d.length : Nat) : Int) == 100))
 (.ret [.st [.st [sl false ⟨1,false⟩ g, sl false ⟨1,false⟩ c, sl false ⟨1,false⟩ d], i64 2, i64 h, sl false ⟨1,false⟩ a, i64 i, i64 j]] [])
 (.ck (decide ((0 : Int) ≤ b) && decide (b < ((a.length : Nat) : Int))) <|
 .int .i64 (a.getD (0 + b.toNat) (.dead ())) fun k =>
 .ck (decide ((d.length + ([i64 k] : List TV).length) * 8 < lim)) <|
 B46_2 m n o g c (d ++ ([i64 k])) p h a i j q r s t u v (w64 (x + 1))))))))
theorem eG46_3 {a : Int} {b : List TV} {c : Int} {d f g : List TV} {i j : Int} {k : List TV} {l m : Int} {n o : List TV} {p q : Int} {s t : List TV} {u v : Int} {w x : Int} {y z aa : Int} {r : Res} (h : S cx 46 (NG46_3 a b c d f g i j k l m n o p q s t u v w x y z aa) = some r) : S cx 46 (G46_3 a b c d f g i j k l m n o p q s t u v w x y z aa) = some r :=
 pw_of (fun call hd hb pt rg => by kernel_rfl) h
noncomputable def NH46_4 (d g h : List TV) (l i : Int) (b : List TV) (j k : Int) (c : List TV) (a : Int) : Nd :=
 .bif (decide (a < ((c.length : Nat) : Int)))
 (.ck (decide ((0 : Int) ≤ a) && decide (a < ((c.length : Nat) : Int))) <|
 .int .i64 (c.getD (0 + a.toNat) (.dead ())) fun f =>
 .ck (decide ((0 : Int) ≤ f) && decide (f < ((b.length : Nat) : Int))) <|
 .int .i64 (b.getD (0 + f.toNat) (.dead ())) fun m =>
 .ck (decide ((0 : Int) ≤ a) && decide (a < ((d.length : Nat) : Int))) <|
 B46_4 (d.set (0 + a.toNat) (i64 m)) g h l i b j k c (w64 (a + 1)))
 (.ret [.st [.st [sl false ⟨1,false⟩ d, sl false ⟨1,false⟩ g, sl false ⟨1,false⟩ h], i64 1, i64 i, sl false ⟨1,false⟩ b, i64 j, i64 k]] [])
theorem eH46_4 {a b c : List TV} {d f : Int} {g : List TV} {i j : Int} {k : List TV} {l : Int} {r : Res} (h : S cx 46 (NH46_4 a b c d f g i j k l) = some r) : S cx 46 (H46_4 a b c d f g i j k l) = some r :=
 hw_of (fun call hd hb pt rg => by kernel_rfl) h
noncomputable def NH46_5 (g : Int) (h : List TV) (i : Int) (j k l : List TV) (m n : Int) (b : List TV) (o p : Int) (d : List TV) (q : Int) (c : List TV) (a : Int) : Nd :=
 .bif (decide (a < ((c.length : Nat) : Int)))
 (.ck (decide ((0 : Int) ≤ a) && decide (a < ((c.length : Nat) : Int))) <|
 .int .i64 (c.getD (0 + a.toNat) (.dead ())) fun f =>
 .ck (decide ((0 : Int) ≤ f) && decide (f < ((b.length : Nat) : Int))) <|
 .int .i64 (b.getD (0 + f.toNat) (.dead ())) fun r =>
 .ck (decide ((d.length + ([i64 r] : List TV).length) * 8 < lim)) <|
 B46_5 g h i j k l m n b o p (d ++ ([i64 r])) q c (w64 (a + 1)))
 (B46_0 g h i j k l m n b o p d q)
theorem eH46_5 {a : Int} {b : List TV} {c : Int} {d f g : List TV} {i j : Int} {k : List TV} {l m : Int} {n : List TV} {o : Int} {p : List TV} {q : Int} {r : Res} (h : S cx 46 (NH46_5 a b c d f g i j k l m n o p q) = some r) : S cx 46 (H46_5 a b c d f g i j k l m n o p q) = some r :=
 hw_of (fun call hd hb pt rg => by kernel_rfl) h
noncomputable def EH47_0 (a b : List TV) (c : Int) : Env := [w24 a, .un, .un, .val [] (sl false ⟨6,true⟩ b), w6 c] ++ uns 19
noncomputable abbrev H47_0 (a b : List TV) (c : Int) : Nd := .head [1, 1, 0, 1, 2] (EH47_0 a b c)
noncomputable abbrev B47_0 (a b : List TV) (c : Int) : Nd := .back [1, 1, 0, 1, 2] (EH47_0 a b c)
noncomputable def N47 (a : List TV) : Nd :=
 .ck (decide ((0 : Int) ≤ ((a.length : Nat) : Int)) && decide (((a.length : Nat) : Int) ≤ ((a.length : Nat) : Int)) && decide (((a.length : Nat) : Int) * 112 < (lim : Int)) && decide (((a.length : Nat) : Int) < 9223372036854775807) && true && true) <|
 H47_0 a (List.replicate (((a.length : Nat) : Int).toNat) (.st [sl false ⟨1,false⟩ ([]), sl false ⟨6,false⟩ ([]), i64 0, i64 0, sl false ⟨1,false⟩ ([]), sl false ⟨1,true⟩ ([])])) 0
theorem e47 {a : List TV} {r : Res} (h : S cx 47 (N47 a) = some r) : tw cx 47 [sl true ⟨6,true⟩ a] = some r :=
 tw_of (fun call hd hb pt rg => by kernel_rfl) h
noncomputable def NH47_0 (b c : List TV) (a : Int) : Nd :=
 .bif (decide (a < ((b.length : Nat) : Int)))
 (.ck (decide ((0 : Int) ≤ a) && decide (a < ((b.length : Nat) : Int))) <|
 V6 (b.getD (0 + a.toNat) (.dead ())) fun d f g h i j =>
 C93 d f g h i j fun k l m n o p =>
 .ck (decide ((0 : Int) ≤ a) && decide (a < ((c.length : Nat) : Int))) <|
 B47_0 b (c.set (0 + a.toNat) (.st [sl false ⟨1,false⟩ k, sl false ⟨6,false⟩ l, i64 m, i64 n, sl false ⟨1,false⟩ o, sl false ⟨1,true⟩ p])) (w64 (a + 1)))
 (.ret [sl false ⟨6,true⟩ c] [])
theorem eH47_0 {a b : List TV} {c : Int} {r : Res} (h : S cx 47 (NH47_0 a b c) = some r) : S cx 47 (H47_0 a b c) = some r :=
 hw_of (fun call hd hb pt rg => by kernel_rfl) h
noncomputable def EH48_0 (a b : List TV) (c : Int) : Env := [w3 a, .un, .un, w10 b, w6 c] ++ uns 18
noncomputable abbrev H48_0 (a b : List TV) (c : Int) : Nd := .head [1, 1, 0, 1, 2] (EH48_0 a b c)
noncomputable abbrev B48_0 (a b : List TV) (c : Int) : Nd := .back [1, 1, 0, 1, 2] (EH48_0 a b c)
noncomputable def N48 (a : List TV) : Nd :=
 .ck (decide ((0 : Int) ≤ ((a.length : Nat) : Int)) && decide (((a.length : Nat) : Int) ≤ ((a.length : Nat) : Int)) && decide (((a.length : Nat) : Int) * 8 < (lim : Int)) && decide (((a.length : Nat) : Int) < 9223372036854775807) && true && true) <|
 H48_0 a (List.replicate (((a.length : Nat) : Int).toNat) (i64 0)) 0
theorem e48 {a : List TV} {r : Res} (h : S cx 48 (N48 a) = some r) : tw cx 48 [sl true ⟨1,false⟩ a] = some r :=
 tw_of (fun call hd hb pt rg => by kernel_rfl) h
noncomputable def NH48_0 (b c : List TV) (a : Int) : Nd :=
 .bif (decide (a < ((b.length : Nat) : Int)))
 (.ck (decide ((0 : Int) ≤ a) && decide (a < ((b.length : Nat) : Int))) <|
 .int .i64 (b.getD (0 + a.toNat) (.dead ())) fun d =>
 .ck (decide ((0 : Int) ≤ a) && decide (a < ((c.length : Nat) : Int))) <|
 B48_0 b (c.set (0 + a.toNat) (i64 d)) (w64 (a + 1)))
 (.ret [sl false ⟨1,false⟩ c] [])
theorem eH48_0 {a b : List TV} {c : Int} {r : Res} (h : S cx 48 (NH48_0 a b c) = some r) : S cx 48 (H48_0 a b c) = some r :=
 hw_of (fun call hd hb pt rg => by kernel_rfl) h
noncomputable def N49 (j : List TV) (k : Int) (c d f : List TV) (g : Int) : Nd :=
 .call 94 [.st [sl true ⟨6,true⟩ j, i64 k]] fun a =>
 .cons a.1 fun l h =>
 .ptO l (.nil h <|
 .nil a.2 <|
 .ret [tnil] []) fun m =>
 .st m fun n =>
 .cons n fun o p =>
 V2 o fun q r =>
 .cons p fun s t =>
 .slO ⟨1,true⟩ s fun u =>
 .cons t fun v w =>
 .slO ⟨1,true⟩ v fun x =>
 .cons w fun y z =>
 .slO ⟨1,false⟩ y fun aa =>
 .cons z fun ab ac =>
 .slO ⟨1,false⟩ ab fun ad =>
 .nil ac <|
 .nil h <|
 .nil a.2 <|
 C56 c d f fun ae =>
 .bif ((!ae))
 (.ret [tnil] [])
 (C57 g 0 2000 fun af =>
 .bif ((!af))
 (.ret [tnil] [])
 (.call 95 [.pt true () (.st [.st [sl true ⟨6,true⟩ q, i64 r], sl false ⟨1,true⟩ u, sl false ⟨1,true⟩ x, sl false ⟨1,false⟩ aa, sl false ⟨1,false⟩ ad]), .st [sl true ⟨1,false⟩ c, sl true ⟨1,false⟩ d, sl true ⟨1,false⟩ f], i64 g] fun b =>
 .cons b.1 fun ag i =>
 .ptO ag (.nil i <|
 .nil b.2 <|
 .ret [tnil] []) fun ah =>
 .st ah fun ai =>
 .cons ai fun aj ak =>
 V3 aj fun al am an =>
 .cons ak fun ao ap =>
 .slO ⟨1,false⟩ ao fun aq =>
 .cons ap fun ar au =>
 .int .i64 ar fun av =>
 .cons au fun aw ax =>
 .int .i64 aw fun ay =>
 .cons ax fun az a0 =>
 .int .i64 az fun a1 =>
 .cons a0 fun a2 a3 =>
 .int .i64 a2 fun a4 =>
 .nil a3 <|
 .nil i <|
 .nil b.2 <|
 .ret [.pt false () (.st [.st [sl false ⟨1,false⟩ al, sl false ⟨1,false⟩ am, sl false ⟨1,false⟩ an], sl false ⟨1,false⟩ aq, i64 av, i64 ay, i64 a1, i64 a4])] []))
theorem e49 {a : List TV} {b : Int} {c d f : List TV} {g : Int} {r : Res} (h : S cx 49 (N49 a b c d f g) = some r) : tw cx 49 [.st [sl true ⟨6,true⟩ a, i64 b], .st [sl true ⟨1,false⟩ c, sl true ⟨1,false⟩ d, sl true ⟨1,false⟩ f], i64 g] = some r :=
 tw_of (fun call hd hb pt rg => by kernel_rfl) h
noncomputable def EH50_0 (a b : List TV) (c : Int) : Env := [w24 a, w24 b, .un, .un, .un, w6 c] ++ uns 23
noncomputable abbrev H50_0 (a b : List TV) (c : Int) : Nd := .head [1, 1, 0, 1, 2] (EH50_0 a b c)
noncomputable abbrev B50_0 (a b : List TV) (c : Int) : Nd := .back [1, 1, 0, 1, 2] (EH50_0 a b c)
noncomputable def N50 (a b : List TV) : Nd :=
 .bif ((((a.length : Nat) : Int) != ((b.length : Nat) : Int)))
 (.ret [tb false] [])
 (H50_0 a b 0)
theorem e50 {a b : List TV} {r : Res} (h : S cx 50 (N50 a b) = some r) : tw cx 50 [sl true ⟨6,true⟩ a, sl true ⟨6,true⟩ b] = some r :=
 tw_of (fun call hd hb pt rg => by kernel_rfl) h
noncomputable def NH50_0 (b c : List TV) (a : Int) : Nd :=
 .bif (decide (a < ((b.length : Nat) : Int)))
 (.ck (decide ((0 : Int) ≤ a) && decide (a < ((b.length : Nat) : Int))) <|
 V6 (b.getD (0 + a.toNat) (.dead ())) fun d f g h i j =>
 .ck (decide ((0 : Int) ≤ a) && decide (a < ((c.length : Nat) : Int))) <|
 V6 (c.getD (0 + a.toNat) (.dead ())) fun k l m n o p =>
 C96 d f g h i j k l m n o p fun q =>
 .bif ((!q))
 (.ret [tb false] [])
 (B50_0 b c (w64 (a + 1))))
 (.ret [tb true] [])
theorem eH50_0 {a b : List TV} {c : Int} {r : Res} (h : S cx 50 (NH50_0 a b c) = some r) : S cx 50 (H50_0 a b c) = some r :=
 hw_of (fun call hd hb pt rg => by kernel_rfl) h
noncomputable def ER52_0 (a b c : List TV) : Env := [w4 a b c, w1 a b c, w2, w9, w15, w3 a, .un, .un, w16, .un, .un, .un, w17, .un, .un, .un, .un]
noncomputable abbrev R52_0 (a b c : List TV) : Nd := .rg [1, 0] [true, true, true, false, false, true, false, false, false, true, false, false, false, false] (ER52_0 a b c)
noncomputable def ER52_1 (a b c : List TV) : Env := [w4 a b c, w1 a b c, w2, .un, w15, w3 a, .un, w9, w16, .un, .un, .un, w17, .un, .un, .un, .un]
noncomputable abbrev R52_1 (a b c : List TV) : Nd := .rg [1, 0] [false, true, true, false, true, true, false, false, false, true, false, false, false, false] (ER52_1 a b c)
noncomputable def ER52_2 (a b c : List TV) : Env := [w4 a b c, w1 a b c, w2, .un, w15, w3 a, .un, .un, w16, w3 b, .un, .un, w17, .un, .un, .un, .un]
noncomputable abbrev R52_2 (a b c : List TV) : Nd := .rg [1, 0] [false, true, true, false, false, true, true, false, false, true, false, false, false, false] (ER52_2 a b c)
noncomputable def ER52_3 (a b c : List TV) : Env := [w4 a b c, w1 a b c, w2, .un, w15, w3 a, .un, .un, w16, .un, .un, w9, w17, .un, .un, .un, .un]
noncomputable abbrev R52_3 (a b c : List TV) : Nd := .rg [1, 0] [false, true, true, false, false, true, false, false, true, true, false, false, false, false] (ER52_3 a b c)
noncomputable def ER52_4 (a c b : List TV) : Env := [w4 a c b, w1 a c b, w2, .un, w15, w3 a, .un, .un, w16, .un, .un, .un, w17, w3 b, .un, .un, .un]
noncomputable abbrev R52_4 (a b c : List TV) : Nd := .rg [1, 0] [false, true, true, false, false, true, false, false, false, true, true, false, false, false] (ER52_4 a b c)
noncomputable def ER52_5 (a b c : List TV) : Env := [w4 a b c, w1 a b c, w2, .un, w15, w3 a, w21 a, .un, w16, .un, .un, .un, w17, .un, .un, .un, .un]
noncomputable abbrev R52_5 (a b c : List TV) : Nd := .rg [1, 0] [true, true, true, true, false, true, false, false, false, true, false, false, false, false] (ER52_5 a b c)
noncomputable def ER52_6 (a b c : List TV) : Env := [w4 a b c, w1 a b c, w2, w9, w15, w3 a, .un, w9, w16, .un, .un, .un, w17, .un, .un, .un, .un]
noncomputable abbrev R52_6 (a b c : List TV) : Nd := .rg [1, 0] [true, true, true, false, true, true, false, false, false, true, false, false, false, false] (ER52_6 a b c)
noncomputable def ER52_7 (a b c : List TV) : Env := [w4 a b c, w1 a b c, w2, w9, w15, w3 a, .un, .un, w16, w3 b, .un, .un, w17, .un, .un, .un, .un]
noncomputable abbrev R52_7 (a b c : List TV) : Nd := .rg [1, 0] [true, true, true, false, false, true, true, false, false, true, false, false, false, false] (ER52_7 a b c)
noncomputable def ER52_8 (a b c : List TV) : Env := [w4 a b c, w1 a b c, w2, w9, w15, w3 a, .un, .un, w16, .un, .un, w9, w17, .un, .un, .un, .un]
noncomputable abbrev R52_8 (a b c : List TV) : Nd := .rg [1, 0] [true, true, true, false, false, true, false, false, true, true, false, false, false, false] (ER52_8 a b c)
noncomputable def ER52_9 (a c b : List TV) : Env := [w4 a c b, w1 a c b, w2, w9, w15, w3 a, .un, .un, w16, .un, .un, .un, w17, w3 b, .un, .un, .un]
noncomputable abbrev R52_9 (a b c : List TV) : Nd := .rg [1, 0] [true, true, true, false, false, true, false, false, false, true, true, false, false, false] (ER52_9 a b c)
noncomputable def ER52_10 (a b c : List TV) : Env := [w4 a b c, w1 a b c, w2, .un, w15, w3 a, .un, w9, w16, w3 b, .un, .un, w17, .un, .un, .un, .un]
noncomputable abbrev R52_10 (a b c : List TV) : Nd := .rg [1, 0] [false, true, true, false, true, true, true, false, false, true, false, false, false, false] (ER52_10 a b c)
noncomputable def ER52_11 (a b c : List TV) : Env := [w4 a b c, w1 a b c, w2, .un, w15, w3 a, .un, w9, w16, .un, .un, w9, w17, .un, .un, .un, .un]
noncomputable abbrev R52_11 (a b c : List TV) : Nd := .rg [1, 0] [false, true, true, false, true, true, false, false, true, true, false, false, false, false] (ER52_11 a b c)
noncomputable def ER52_12 (a c b : List TV) : Env := [w4 a c b, w1 a c b, w2, .un, w15, w3 a, .un, w9, w16, .un, .un, .un, w17, w3 b, .un, .un, .un]
noncomputable abbrev R52_12 (a b c : List TV) : Nd := .rg [1, 0] [false, true, true, false, true, true, false, false, false, true, true, false, false, false] (ER52_12 a b c)
noncomputable def ER52_13 (a b c : List TV) : Env := [w4 a b c, w1 a b c, w2, .un, w15, w3 a, .un, .un, w16, w3 b, .un, w9, w17, .un, .un, .un, .un]
noncomputable abbrev R52_13 (a b c : List TV) : Nd := .rg [1, 0] [false, true, true, false, false, true, true, false, true, true, false, false, false, false] (ER52_13 a b c)
noncomputable def ER52_14 (a b c : List TV) : Env := [w4 a b c, w1 a b c, w2, .un, w15, w3 a, .un, .un, w16, w3 b, .un, .un, w17, w3 c, .un, .un, .un]
noncomputable abbrev R52_14 (a b c : List TV) : Nd := .rg [1, 0] [false, true, true, false, false, true, true, false, false, true, true, false, false, false] (ER52_14 a b c)
noncomputable def ER52_15 (a c b : List TV) : Env := [w4 a c b, w1 a c b, w2, .un, w15, w3 a, .un, .un, w16, .un, .un, w9, w17, w3 b, .un, .un, .un]
noncomputable abbrev R52_15 (a b c : List TV) : Nd := .rg [1, 0] [false, true, true, false, false, true, false, false, true, true, true, false, false, false] (ER52_15 a b c)
noncomputable def ER52_16 (a b c : List TV) : Env := [w4 a b c, w1 a b c, w2, .un, w15, w3 a, w21 a, w9, w16, w3 b, .un, .un, w17, .un, .un, .un, .un]
noncomputable abbrev R52_16 (a b c : List TV) : Nd := .rg [1, 0] [true, true, true, true, true, true, true, false, false, true, false, false, false, false] (ER52_16 a b c)
noncomputable def ER52_17 (a b c : List TV) : Env := [w4 a b c, w1 a b c, w2, .un, w15, w3 a, w21 a, .un, w16, w3 b, .un, w9, w17, .un, .un, .un, .un]
noncomputable abbrev R52_17 (a b c : List TV) : Nd := .rg [1, 0] [true, true, true, true, false, true, true, false, true, true, false, false, false, false] (ER52_17 a b c)
noncomputable def ER52_18 (a b c : List TV) : Env := [w4 a b c, w1 a b c, w2, .un, w15, w3 a, w21 a, .un, w16, w3 b, .un, .un, w17, w3 c, .un, .un, .un]
noncomputable abbrev R52_18 (a b c : List TV) : Nd := .rg [1, 0] [true, true, true, true, false, true, true, false, false, true, true, false, false, false] (ER52_18 a b c)
noncomputable def ER52_19 (a b c : List TV) : Env := [w4 a b c, w1 a b c, w2, .un, w15, w3 a, w21 a, w9, w16, .un, .un, .un, w17, .un, .un, .un, .un]
noncomputable abbrev R52_19 (a b c : List TV) : Nd := .rg [1, 0] [true, true, true, true, true, true, false, false, false, true, false, false, false, false] (ER52_19 a b c)
noncomputable def ER52_20 (a b c : List TV) : Env := [w4 a b c, w1 a b c, w2, w9, w15, w3 a, .un, w9, w16, w3 b, .un, .un, w17, .un, .un, .un, .un]
noncomputable abbrev R52_20 (a b c : List TV) : Nd := .rg [1, 0] [true, true, true, false, true, true, true, false, false, true, false, false, false, false] (ER52_20 a b c)
noncomputable def ER52_21 (a b c : List TV) : Env := [w4 a b c, w1 a b c, w2, w9, w15, w3 a, .un, w9, w16, .un, .un, w9, w17, .un, .un, .un, .un]
noncomputable abbrev R52_21 (a b c : List TV) : Nd := .rg [1, 0] [true, true, true, false, true, true, false, false, true, true, false, false, false, false] (ER52_21 a b c)
noncomputable def ER52_22 (a c b : List TV) : Env := [w4 a c b, w1 a c b, w2, w9, w15, w3 a, .un, w9, w16, .un, .un, .un, w17, w3 b, .un, .un, .un]
noncomputable abbrev R52_22 (a b c : List TV) : Nd := .rg [1, 0] [true, true, true, false, true, true, false, false, false, true, true, false, false, false] (ER52_22 a b c)
noncomputable def ER52_23 (a b c : List TV) : Env := [w4 a b c, w1 a b c, w2, .un, w15, w3 a, w21 a, .un, w16, w3 b, .un, .un, w17, .un, .un, .un, .un]
noncomputable abbrev R52_23 (a b c : List TV) : Nd := .rg [1, 0] [true, true, true, true, false, true, true, false, false, true, false, false, false, false] (ER52_23 a b c)
noncomputable def ER52_24 (a b c : List TV) : Env := [w4 a b c, w1 a b c, w2, w9, w15, w3 a, .un, .un, w16, w3 b, .un, w9, w17, .un, .un, .un, .un]
noncomputable abbrev R52_24 (a b c : List TV) : Nd := .rg [1, 0] [true, true, true, false, false, true, true, false, true, true, false, false, false, false] (ER52_24 a b c)
noncomputable def ER52_25 (a b c : List TV) : Env := [w4 a b c, w1 a b c, w2, w9, w15, w3 a, .un, .un, w16, w3 b, .un, .un, w17, w3 c, .un, .un, .un]
noncomputable abbrev R52_25 (a b c : List TV) : Nd := .rg [1, 0] [true, true, true, false, false, true, true, false, false, true, true, false, false, false] (ER52_25 a b c)
noncomputable def ER52_26 (a b c : List TV) : Env := [w4 a b c, w1 a b c, w2, .un, w15, w3 a, w21 a, .un, w16, .un, .un, w9, w17, .un, .un, .un, .un]
noncomputable abbrev R52_26 (a b c : List TV) : Nd := .rg [1, 0] [true, true, true, true, false, true, false, false, true, true, false, false, false, false] (ER52_26 a b c)
noncomputable def ER52_27 (a c b : List TV) : Env := [w4 a c b, w1 a c b, w2, w9, w15, w3 a, .un, .un, w16, .un, .un, w9, w17, w3 b, .un, .un, .un]
noncomputable abbrev R52_27 (a b c : List TV) : Nd := .rg [1, 0] [true, true, true, false, false, true, false, false, true, true, true, false, false, false] (ER52_27 a b c)
noncomputable def ER52_28 (a c b : List TV) : Env := [w4 a c b, w1 a c b, w2, .un, w15, w3 a, w21 a, .un, w16, .un, .un, .un, w17, w3 b, .un, .un, .un]
noncomputable abbrev R52_28 (a b c : List TV) : Nd := .rg [1, 0] [true, true, true, true, false, true, false, false, false, true, true, false, false, false] (ER52_28 a b c)
noncomputable def ER52_29 (a b c : List TV) : Env := [w4 a b c, w1 a b c, w2, .un, w15, w3 a, .un, w9, w16, w3 b, .un, w9, w17, .un, .un, .un, .un]
noncomputable abbrev R52_29 (a b c : List TV) : Nd := .rg [1, 0] [false, true, true, false, true, true, true, false, true, true, false, false, false, false] (ER52_29 a b c)
noncomputable def ER52_30 (a b c : List TV) : Env := [w4 a b c, w1 a b c, w2, .un, w15, w3 a, .un, w9, w16, w3 b, .un, .un, w17, w3 c, .un, .un, .un]
noncomputable abbrev R52_30 (a b c : List TV) : Nd := .rg [1, 0] [false, true, true, false, true, true, true, false, false, true, true, false, false, false] (ER52_30 a b c)
noncomputable def ER52_31 (a c b : List TV) : Env := [w4 a c b, w1 a c b, w2, .un, w15, w3 a, .un, w9, w16, .un, .un, w9, w17, w3 b, .un, .un, .un]
noncomputable abbrev R52_31 (a b c : List TV) : Nd := .rg [1, 0] [false, true, true, false, true, true, false, false, true, true, true, false, false, false] (ER52_31 a b c)
noncomputable def ER52_32 (a b c : List TV) : Env := [w4 a b c, w1 a b c, w2, .un, w15, w3 a, .un, .un, w16, w3 b, .un, w9, w17, w3 c, .un, .un, .un]
noncomputable abbrev R52_32 (a b c : List TV) : Nd := .rg [1, 0] [false, true, true, false, false, true, true, false, true, true, true, false, false, false] (ER52_32 a b c)
noncomputable def ER52_33 (a b c : List TV) : Env := [w4 a b c, w1 a b c, w2, .un, w15, w3 a, w21 a, .un, w16, w3 b, w21 b, .un, w17, .un, .un, .un, .un]
noncomputable abbrev R52_33 (a b c : List TV) : Nd := .rg [1, 0] [true, true, true, true, true, true, true, true, false, true, false, false, false, false] (ER52_33 a b c)
noncomputable def ER52_34 (a b c : List TV) : Env := [w4 a b c, w1 a b c, w2, .un, w15, w3 a, w21 a, w9, w16, w3 b, .un, w9, w17, .un, .un, .un, .un]
noncomputable abbrev R52_34 (a b c : List TV) : Nd := .rg [1, 0] [true, true, true, true, true, true, true, false, true, true, false, false, false, false] (ER52_34 a b c)
noncomputable def ER52_35 (a b c : List TV) : Env := [w4 a b c, w1 a b c, w2, .un, w15, w3 a, w21 a, w9, w16, w3 b, .un, .un, w17, w3 c, .un, .un, .un]
noncomputable abbrev R52_35 (a b c : List TV) : Nd := .rg [1, 0] [true, true, true, true, true, true, true, false, false, true, true, false, false, false] (ER52_35 a b c)
noncomputable def ER52_36 (a b c : List TV) : Env := [w4 a b c, w1 a b c, w2, .un, w15, w3 a, w21 a, .un, w16, w3 b, .un, w9, w17, w3 c, .un, .un, .un]
noncomputable abbrev R52_36 (a b c : List TV) : Nd := .rg [1, 0] [true, true, true, true, false, true, true, false, true, true, true, false, false, false] (ER52_36 a b c)
noncomputable def ER52_37 (a b c : List TV) : Env := [w4 a b c, w1 a b c, w2, w9, w15, w3 a, .un, w9, w16, w3 b, .un, w9, w17, .un, .un, .un, .un]
noncomputable abbrev R52_37 (a b c : List TV) : Nd := .rg [1, 0] [true, true, true, false, true, true, true, false, true, true, false, false, false, false] (ER52_37 a b c)
noncomputable def ER52_38 (a b c : List TV) : Env := [w4 a b c, w1 a b c, w2, w9, w15, w3 a, .un, w9, w16, w3 b, .un, .un, w17, w3 c, .un, .un, .un]
noncomputable abbrev R52_38 (a b c : List TV) : Nd := .rg [1, 0] [true, true, true, false, true, true, true, false, false, true, true, false, false, false] (ER52_38 a b c)
noncomputable def ER52_39 (a b c : List TV) : Env := [w4 a b c, w1 a b c, w2, .un, w15, w3 a, w21 a, w9, w16, .un, .un, w9, w17, .un, .un, .un, .un]
noncomputable abbrev R52_39 (a b c : List TV) : Nd := .rg [1, 0] [true, true, true, true, true, true, false, false, true, true, false, false, false, false] (ER52_39 a b c)
noncomputable def ER52_40 (a c b : List TV) : Env := [w4 a c b, w1 a c b, w2, w9, w15, w3 a, .un, w9, w16, .un, .un, w9, w17, w3 b, .un, .un, .un]
noncomputable abbrev R52_40 (a b c : List TV) : Nd := .rg [1, 0] [true, true, true, false, true, true, false, false, true, true, true, false, false, false] (ER52_40 a b c)
noncomputable def ER52_41 (a c b : List TV) : Env := [w4 a c b, w1 a c b, w2, .un, w15, w3 a, w21 a, w9, w16, .un, .un, .un, w17, w3 b, .un, .un, .un]
noncomputable abbrev R52_41 (a b c : List TV) : Nd := .rg [1, 0] [true, true, true, true, true, true, false, false, false, true, true, false, false, false] (ER52_41 a b c)
noncomputable def ER52_42 (a b c : List TV) : Env := [w4 a b c, w1 a b c, w2, w9, w15, w3 a, .un, .un, w16, w3 b, .un, w9, w17, w3 c, .un, .un, .un]
noncomputable abbrev R52_42 (a b c : List TV) : Nd := .rg [1, 0] [true, true, true, false, false, true, true, false, true, true, true, false, false, false] (ER52_42 a b c)
noncomputable def ER52_43 (a c b : List TV) : Env := [w4 a c b, w1 a c b, w2, .un, w15, w3 a, w21 a, .un, w16, .un, .un, w9, w17, w3 b, .un, .un, .un]
noncomputable abbrev R52_43 (a b c : List TV) : Nd := .rg [1, 0] [true, true, true, true, false, true, false, false, true, true, true, false, false, false] (ER52_43 a b c)
noncomputable def ER52_44 (a b c : List TV) : Env := [w4 a b c, w1 a b c, w2, .un, w15, w3 a, .un, w9, w16, w3 b, .un, w9, w17, w3 c, .un, .un, .un]
noncomputable abbrev R52_44 (a b c : List TV) : Nd := .rg [1, 0] [false, true, true, false, true, true, true, false, true, true, true, false, false, false] (ER52_44 a b c)
noncomputable def ER52_45 (a b c : List TV) : Env := [w4 a b c, w1 a b c, w2, .un, w15, w3 a, w21 a, .un, w16, w3 b, w21 b, w9, w17, .un, .un, .un, .un]
noncomputable abbrev R52_45 (a b c : List TV) : Nd := .rg [1, 0] [true, true, true, true, true, true, true, true, true, true, false, false, false, false] (ER52_45 a b c)
noncomputable def ER52_46 (a b c : List TV) : Env := [w4 a b c, w1 a b c, w2, .un, w15, w3 a, w21 a, w9, w16, w3 b, .un, w9, w17, w3 c, .un, .un, .un]
noncomputable abbrev R52_46 (a b c : List TV) : Nd := .rg [1, 0] [true, true, true, true, true, true, true, false, true, true, true, false, false, false] (ER52_46 a b c)
noncomputable def ER52_47 (a b c : List TV) : Env := [w4 a b c, w1 a b c, w2, .un, w15, w3 a, w21 a, .un, w16, w3 b, w21 b, .un, w17, w3 c, .un, .un, .un]
noncomputable abbrev R52_47 (a b c : List TV) : Nd := .rg [1, 0] [true, true, true, true, true, true, true, true, false, true, true, false, false, false] (ER52_47 a b c)
noncomputable def ER52_48 (a b c : List TV) : Env := [w4 a b c, w1 a b c, w2, w9, w15, w3 a, .un, w9, w16, w3 b, .un, w9, w17, w3 c, .un, .un, .un]
noncomputable abbrev R52_48 (a b c : List TV) : Nd := .rg [1, 0] [true, true, true, false, true, true, true, false, true, true, true, false, false, false] (ER52_48 a b c)
noncomputable def ER52_49 (a c b : List TV) : Env := [w4 a c b, w1 a c b, w2, .un, w15, w3 a, w21 a, w9, w16, .un, .un, w9, w17, w3 b, .un, .un, .un]
noncomputable abbrev R52_49 (a b c : List TV) : Nd := .rg [1, 0] [true, true, true, true, true, true, false, false, true, true, true, false, false, false] (ER52_49 a b c)
noncomputable def Z52_0 (a b c : List TV) : Nd :=
 .amb3
 (R52_16 a b c)
 (R52_17 a b c)
 (R52_18 a b c)
noncomputable def Z52_1 (b a c : List TV) : Nd :=
 .amb3
 (.ck (decide ((0 + a.length) * 8 < lim)) <|
 R52_33 b a c)
 (R52_34 b a c)
 (R52_35 b a c)
noncomputable def Z52_2 (a b c : List TV) : Nd :=
 .amb2
 (R52_34 a b c)
 (R52_36 a b c)
noncomputable def Z52_3 (a b c : List TV) : Nd :=
 .amb2
 (R52_35 a b c)
 (R52_36 a b c)
noncomputable def Z52_4 (b c a : List TV) : Nd :=
 .ck (decide ((0 + a.length) * 8 < lim)) <|
 .ret [.st [sl false ⟨1,false⟩ (([]) ++ b), sl false ⟨1,false⟩ (([]) ++ c), sl false ⟨1,false⟩ (([]) ++ a)]] []
noncomputable def Z52_5 (b a c : List TV) : Nd :=
 .amb2
 (.ck (decide ((0 + a.length) * 8 < lim)) <|
 R52_45 b a c)
 (R52_46 b a c)
noncomputable def Z52_6 (b a c : List TV) : Nd :=
 .amb2
 (.ck (decide ((0 + a.length) * 8 < lim)) <|
 R52_47 b a c)
 (R52_46 b a c)
noncomputable def Z52_7 (b a c : List TV) : Nd :=
 .ck (decide ((0 + a.length) * 8 < lim)) <|
 Z52_4 b a c
noncomputable def Z52_8 (a b c : List TV) : Nd :=
 .ck (decide ((0 + a.length) * 8 < lim)) <|
 Z52_7 a b c
noncomputable def N52 (a b c : List TV) : Nd :=
 .amb5
 (R52_0 a b c)
 (R52_1 a b c)
 (R52_2 a b c)
 (R52_3 a b c)
 (R52_4 a b c)
theorem e52 {a b c : List TV} {r : Res} (h : S cx 52 (N52 a b c) = some r) : tw cx 52 [.st [sl true ⟨1,false⟩ a, sl true ⟨1,false⟩ b, sl true ⟨1,false⟩ c]] = some r :=
 tw_of (fun call hd hb pt rg => by kernel_rfl) h
noncomputable def NR52_0 (a b c : List TV) : Nd :=
 .amb5
 (.ck (decide ((0 + a.length) * 8 < lim)) <|
 R52_5 a b c)
 (R52_6 a b c)
 (R52_7 a b c)
 (R52_8 a b c)
 (R52_9 a b c)
theorem eR52_0 {a b c : List TV} {r : Res} (h : S cx 52 (NR52_0 a b c) = some r) : S cx 52 (R52_0 a b c) = some r :=
 gw_of (fun call hd hb pt rg => by kernel_rfl) h
noncomputable def NR52_1 (a b c : List TV) : Nd :=
 .amb4
 (R52_6 a b c)
 (R52_10 a b c)
 (R52_11 a b c)
 (R52_12 a b c)
theorem eR52_1 {a b c : List TV} {r : Res} (h : S cx 52 (NR52_1 a b c) = some r) : S cx 52 (R52_1 a b c) = some r :=
 gw_of (fun call hd hb pt rg => by kernel_rfl) h
noncomputable def NR52_2 (a b c : List TV) : Nd :=
 .amb4
 (R52_7 a b c)
 (R52_10 a b c)
 (R52_13 a b c)
 (R52_14 a b c)
theorem eR52_2 {a b c : List TV} {r : Res} (h : S cx 52 (NR52_2 a b c) = some r) : S cx 52 (R52_2 a b c) = some r :=
 gw_of (fun call hd hb pt rg => by kernel_rfl) h
noncomputable def NR52_3 (a b c : List TV) : Nd :=
 .amb4
 (R52_8 a b c)
 (R52_11 a b c)
 (R52_13 a b c)
 (R52_15 a b c)
theorem eR52_3 {a b c : List TV} {r : Res} (h : S cx 52 (NR52_3 a b c) = some r) : S cx 52 (R52_3 a b c) = some r :=
 gw_of (fun call hd hb pt rg => by kernel_rfl) h
noncomputable def NR52_4 (a b c : List TV) : Nd :=
 .amb4
 (R52_9 a b c)
 (R52_12 a b c)
 (R52_14 a b c)
 (R52_15 a b c)
theorem eR52_4 {a b c : List TV} {r : Res} (h : S cx 52 (NR52_4 a b c) = some r) : S cx 52 (R52_4 a b c) = some r :=
 gw_of (fun call hd hb pt rg => by kernel_rfl) h
noncomputable def NR52_5 (a b c : List TV) : Nd :=
 Z52_0 a b c
theorem eR52_5 {a b c : List TV} {r : Res} (h : S cx 52 (NR52_5 a b c) = some r) : S cx 52 (R52_5 a b c) = some r :=
 gw_of (fun call hd hb pt rg => by kernel_rfl) h
noncomputable def NR52_6 (a b c : List TV) : Nd :=
 .amb4
 (.ck (decide ((0 + a.length) * 8 < lim)) <|
 R52_19 a b c)
 (R52_20 a b c)
 (R52_21 a b c)
 (R52_22 a b c)
theorem eR52_6 {a b c : List TV} {r : Res} (h : S cx 52 (NR52_6 a b c) = some r) : S cx 52 (R52_6 a b c) = some r :=
 gw_of (fun call hd hb pt rg => by kernel_rfl) h
noncomputable def NR52_7 (a b c : List TV) : Nd :=
 .amb4
 (.ck (decide ((0 + a.length) * 8 < lim)) <|
 R52_23 a b c)
 (R52_20 a b c)
 (R52_24 a b c)
 (R52_25 a b c)
theorem eR52_7 {a b c : List TV} {r : Res} (h : S cx 52 (NR52_7 a b c) = some r) : S cx 52 (R52_7 a b c) = some r :=
 gw_of (fun call hd hb pt rg => by kernel_rfl) h
noncomputable def NR52_8 (a b c : List TV) : Nd :=
 .amb4
 (.ck (decide ((0 + a.length) * 8 < lim)) <|
 R52_26 a b c)
 (R52_21 a b c)
 (R52_24 a b c)
 (R52_27 a b c)
theorem eR52_8 {a b c : List TV} {r : Res} (h : S cx 52 (NR52_8 a b c) = some r) : S cx 52 (R52_8 a b c) = some r :=
 gw_of (fun call hd hb pt rg => by kernel_rfl) h
noncomputable def NR52_9 (a b c : List TV) : Nd :=
 .amb4
 (.ck (decide ((0 + a.length) * 8 < lim)) <|
 R52_28 a b c)
 (R52_22 a b c)
 (R52_25 a b c)
 (R52_27 a b c)
theorem eR52_9 {a b c : List TV} {r : Res} (h : S cx 52 (NR52_9 a b c) = some r) : S cx 52 (R52_9 a b c) = some r :=
 gw_of (fun call hd hb pt rg => by kernel_rfl) h
noncomputable def NR52_10 (a b c : List TV) : Nd :=
 .amb3
 (R52_20 a b c)
 (R52_29 a b c)
 (R52_30 a b c)
theorem eR52_10 {a b c : List TV} {r : Res} (h : S cx 52 (NR52_10 a b c) = some r) : S cx 52 (R52_10 a b c) = some r :=
 gw_of (fun call hd hb pt rg => by kernel_rfl) h
noncomputable def NR52_11 (a b c : List TV) : Nd :=
 .amb3
 (R52_21 a b c)
 (R52_29 a b c)
 (R52_31 a b c)
theorem eR52_11 {a b c : List TV} {r : Res} (h : S cx 52 (NR52_11 a b c) = some r) : S cx 52 (R52_11 a b c) = some r :=
 gw_of (fun call hd hb pt rg => by kernel_rfl) h
noncomputable def NR52_12 (a b c : List TV) : Nd :=
 .amb3
 (R52_22 a b c)
 (R52_30 a b c)
 (R52_31 a b c)
theorem eR52_12 {a b c : List TV} {r : Res} (h : S cx 52 (NR52_12 a b c) = some r) : S cx 52 (R52_12 a b c) = some r :=
 gw_of (fun call hd hb pt rg => by kernel_rfl) h
noncomputable def NR52_13 (a b c : List TV) : Nd :=
 .amb3
 (R52_24 a b c)
 (R52_29 a b c)
 (R52_32 a b c)
theorem eR52_13 {a b c : List TV} {r : Res} (h : S cx 52 (NR52_13 a b c) = some r) : S cx 52 (R52_13 a b c) = some r :=
 gw_of (fun call hd hb pt rg => by kernel_rfl) h
noncomputable def NR52_14 (a b c : List TV) : Nd :=
 .amb3
 (R52_25 a b c)
 (R52_30 a b c)
 (R52_32 a b c)
theorem eR52_14 {a b c : List TV} {r : Res} (h : S cx 52 (NR52_14 a b c) = some r) : S cx 52 (R52_14 a b c) = some r :=
 gw_of (fun call hd hb pt rg => by kernel_rfl) h
noncomputable def NR52_15 (a b c : List TV) : Nd :=
 .amb3
 (R52_27 a b c)
 (R52_31 a b c)
 (R52_32 a b c)
theorem eR52_15 {a b c : List TV} {r : Res} (h : S cx 52 (NR52_15 a b c) = some r) : S cx 52 (R52_15 a b c) = some r :=
 gw_of (fun call hd hb pt rg => by kernel_rfl) h
noncomputable def NR52_16 (a b c : List TV) : Nd :=
 Z52_1 a b c
theorem eR52_16 {a b c : List TV} {r : Res} (h : S cx 52 (NR52_16 a b c) = some r) : S cx 52 (R52_16 a b c) = some r :=
 gw_of (fun call hd hb pt rg => by kernel_rfl) h
noncomputable def NR52_17 (a b c : List TV) : Nd :=
 Z52_2 a b c
theorem eR52_17 {a b c : List TV} {r : Res} (h : S cx 52 (NR52_17 a b c) = some r) : S cx 52 (R52_17 a b c) = some r :=
 gw_of (fun call hd hb pt rg => by kernel_rfl) h
noncomputable def NR52_18 (a b c : List TV) : Nd :=
 Z52_3 a b c
theorem eR52_18 {a b c : List TV} {r : Res} (h : S cx 52 (NR52_18 a b c) = some r) : S cx 52 (R52_18 a b c) = some r :=
 gw_of (fun call hd hb pt rg => by kernel_rfl) h
noncomputable def NR52_19 (a b c : List TV) : Nd :=
 Z52_1 a b c
theorem eR52_19 {a b c : List TV} {r : Res} (h : S cx 52 (NR52_19 a b c) = some r) : S cx 52 (R52_19 a b c) = some r :=
 gw_of (fun call hd hb pt rg => by kernel_rfl) h
noncomputable def NR52_20 (a b c : List TV) : Nd :=
 .amb3
 (.ck (decide ((0 + a.length) * 8 < lim)) <|
 R52_16 a b c)
 (R52_37 a b c)
 (R52_38 a b c)
theorem eR52_20 {a b c : List TV} {r : Res} (h : S cx 52 (NR52_20 a b c) = some r) : S cx 52 (R52_20 a b c) = some r :=
 gw_of (fun call hd hb pt rg => by kernel_rfl) h
noncomputable def NR52_21 (a b c : List TV) : Nd :=
 .amb3
 (.ck (decide ((0 + a.length) * 8 < lim)) <|
 R52_39 a b c)
 (R52_37 a b c)
 (R52_40 a b c)
theorem eR52_21 {a b c : List TV} {r : Res} (h : S cx 52 (NR52_21 a b c) = some r) : S cx 52 (R52_21 a b c) = some r :=
 gw_of (fun call hd hb pt rg => by kernel_rfl) h
noncomputable def NR52_22 (a b c : List TV) : Nd :=
 .amb3
 (.ck (decide ((0 + a.length) * 8 < lim)) <|
 R52_41 a b c)
 (R52_38 a b c)
 (R52_40 a b c)
theorem eR52_22 {a b c : List TV} {r : Res} (h : S cx 52 (NR52_22 a b c) = some r) : S cx 52 (R52_22 a b c) = some r :=
 gw_of (fun call hd hb pt rg => by kernel_rfl) h
noncomputable def NR52_23 (a b c : List TV) : Nd :=
 Z52_0 a b c
theorem eR52_23 {a b c : List TV} {r : Res} (h : S cx 52 (NR52_23 a b c) = some r) : S cx 52 (R52_23 a b c) = some r :=
 gw_of (fun call hd hb pt rg => by kernel_rfl) h
noncomputable def NR52_24 (a b c : List TV) : Nd :=
 .amb3
 (.ck (decide ((0 + a.length) * 8 < lim)) <|
 R52_17 a b c)
 (R52_37 a b c)
 (R52_42 a b c)
theorem eR52_24 {a b c : List TV} {r : Res} (h : S cx 52 (NR52_24 a b c) = some r) : S cx 52 (R52_24 a b c) = some r :=
 gw_of (fun call hd hb pt rg => by kernel_rfl) h
noncomputable def NR52_25 (a b c : List TV) : Nd :=
 .amb3
 (.ck (decide ((0 + a.length) * 8 < lim)) <|
 R52_18 a b c)
 (R52_38 a b c)
 (R52_42 a b c)
theorem eR52_25 {a b c : List TV} {r : Res} (h : S cx 52 (NR52_25 a b c) = some r) : S cx 52 (R52_25 a b c) = some r :=
 gw_of (fun call hd hb pt rg => by kernel_rfl) h
noncomputable def NR52_26 (a b c : List TV) : Nd :=
 Z52_2 a b c
theorem eR52_26 {a b c : List TV} {r : Res} (h : S cx 52 (NR52_26 a b c) = some r) : S cx 52 (R52_26 a b c) = some r :=
 gw_of (fun call hd hb pt rg => by kernel_rfl) h
noncomputable def NR52_27 (a b c : List TV) : Nd :=
 .amb3
 (.ck (decide ((0 + a.length) * 8 < lim)) <|
 R52_43 a b c)
 (R52_40 a b c)
 (R52_42 a b c)
theorem eR52_27 {a b c : List TV} {r : Res} (h : S cx 52 (NR52_27 a b c) = some r) : S cx 52 (R52_27 a b c) = some r :=
 gw_of (fun call hd hb pt rg => by kernel_rfl) h
noncomputable def NR52_28 (a b c : List TV) : Nd :=
 Z52_3 a b c
theorem eR52_28 {a b c : List TV} {r : Res} (h : S cx 52 (NR52_28 a b c) = some r) : S cx 52 (R52_28 a b c) = some r :=
 gw_of (fun call hd hb pt rg => by kernel_rfl) h
noncomputable def NR52_29 (a b c : List TV) : Nd :=
 .amb2
 (R52_37 a b c)
 (R52_44 a b c)
theorem eR52_29 {a b c : List TV} {r : Res} (h : S cx 52 (NR52_29 a b c) = some r) : S cx 52 (R52_29 a b c) = some r :=
 gw_of (fun call hd hb pt rg => by kernel_rfl) h
noncomputable def NR52_30 (a b c : List TV) : Nd :=
 .amb2
 (R52_38 a b c)
 (R52_44 a b c)
theorem eR52_30 {a b c : List TV} {r : Res} (h : S cx 52 (NR52_30 a b c) = some r) : S cx 52 (R52_30 a b c) = some r :=
 gw_of (fun call hd hb pt rg => by kernel_rfl) h
noncomputable def NR52_31 (a b c : List TV) : Nd :=
 .amb2
 (R52_40 a b c)
 (R52_44 a b c)
theorem eR52_31 {a b c : List TV} {r : Res} (h : S cx 52 (NR52_31 a b c) = some r) : S cx 52 (R52_31 a b c) = some r :=
 gw_of (fun call hd hb pt rg => by kernel_rfl) h
noncomputable def NR52_32 (a b c : List TV) : Nd :=
 .amb2
 (R52_42 a b c)
 (R52_44 a b c)
theorem eR52_32 {a b c : List TV} {r : Res} (h : S cx 52 (NR52_32 a b c) = some r) : S cx 52 (R52_32 a b c) = some r :=
 gw_of (fun call hd hb pt rg => by kernel_rfl) h
noncomputable def NR52_33 (a b c : List TV) : Nd :=
 Z52_4 a b c
theorem eR52_33 {a b c : List TV} {r : Res} (h : S cx 52 (NR52_33 a b c) = some r) : S cx 52 (R52_33 a b c) = some r :=
 gw_of (fun call hd hb pt rg => by kernel_rfl) h
noncomputable def NR52_34 (a b c : List TV) : Nd :=
 Z52_5 a b c
theorem eR52_34 {a b c : List TV} {r : Res} (h : S cx 52 (NR52_34 a b c) = some r) : S cx 52 (R52_34 a b c) = some r :=
 gw_of (fun call hd hb pt rg => by kernel_rfl) h
noncomputable def NR52_35 (a b c : List TV) : Nd :=
 Z52_6 a b c
theorem eR52_35 {a b c : List TV} {r : Res} (h : S cx 52 (NR52_35 a b c) = some r) : S cx 52 (R52_35 a b c) = some r :=
 gw_of (fun call hd hb pt rg => by kernel_rfl) h
noncomputable def NR52_36 (a b c : List TV) : Nd :=
 Z52_7 a b c
theorem eR52_36 {a b c : List TV} {r : Res} (h : S cx 52 (NR52_36 a b c) = some r) : S cx 52 (R52_36 a b c) = some r :=
 gw_of (fun call hd hb pt rg => by kernel_rfl) h
noncomputable def NR52_37 (a b c : List TV) : Nd :=
 .amb2
 (.ck (decide ((0 + a.length) * 8 < lim)) <|
 R52_34 a b c)
 (R52_48 a b c)
theorem eR52_37 {a b c : List TV} {r : Res} (h : S cx 52 (NR52_37 a b c) = some r) : S cx 52 (R52_37 a b c) = some r :=
 gw_of (fun call hd hb pt rg => by kernel_rfl) h
noncomputable def NR52_38 (a b c : List TV) : Nd :=
 .amb2
 (.ck (decide ((0 + a.length) * 8 < lim)) <|
 R52_35 a b c)
 (R52_48 a b c)
theorem eR52_38 {a b c : List TV} {r : Res} (h : S cx 52 (NR52_38 a b c) = some r) : S cx 52 (R52_38 a b c) = some r :=
 gw_of (fun call hd hb pt rg => by kernel_rfl) h
noncomputable def NR52_39 (a b c : List TV) : Nd :=
 Z52_5 a b c
theorem eR52_39 {a b c : List TV} {r : Res} (h : S cx 52 (NR52_39 a b c) = some r) : S cx 52 (R52_39 a b c) = some r :=
 gw_of (fun call hd hb pt rg => by kernel_rfl) h
noncomputable def NR52_40 (a b c : List TV) : Nd :=
 .amb2
 (.ck (decide ((0 + a.length) * 8 < lim)) <|
 R52_49 a b c)
 (R52_48 a b c)
theorem eR52_40 {a b c : List TV} {r : Res} (h : S cx 52 (NR52_40 a b c) = some r) : S cx 52 (R52_40 a b c) = some r :=
 gw_of (fun call hd hb pt rg => by kernel_rfl) h
noncomputable def NR52_41 (a b c : List TV) : Nd :=
 Z52_6 a b c
theorem eR52_41 {a b c : List TV} {r : Res} (h : S cx 52 (NR52_41 a b c) = some r) : S cx 52 (R52_41 a b c) = some r :=
 gw_of (fun call hd hb pt rg => by kernel_rfl) h
noncomputable def NR52_42 (a b c : List TV) : Nd :=
 .amb2
 (.ck (decide ((0 + a.length) * 8 < lim)) <|
 R52_36 a b c)
 (R52_48 a b c)
theorem eR52_42 {a b c : List TV} {r : Res} (h : S cx 52 (NR52_42 a b c) = some r) : S cx 52 (R52_42 a b c) = some r :=
 gw_of (fun call hd hb pt rg => by kernel_rfl) h
noncomputable def NR52_43 (a b c : List TV) : Nd :=
 Z52_7 a b c
theorem eR52_43 {a b c : List TV} {r : Res} (h : S cx 52 (NR52_43 a b c) = some r) : S cx 52 (R52_43 a b c) = some r :=
 gw_of (fun call hd hb pt rg => by kernel_rfl) h
noncomputable def NR52_44 (a b c : List TV) : Nd :=
 Z52_8 a b c
theorem eR52_44 {a b c : List TV} {r : Res} (h : S cx 52 (NR52_44 a b c) = some r) : S cx 52 (R52_44 a b c) = some r :=
 gw_of (fun call hd hb pt rg => by kernel_rfl) h
noncomputable def NR52_45 (a b c : List TV) : Nd :=
 Z52_4 a b c
theorem eR52_45 {a b c : List TV} {r : Res} (h : S cx 52 (NR52_45 a b c) = some r) : S cx 52 (R52_45 a b c) = some r :=
 gw_of (fun call hd hb pt rg => by kernel_rfl) h
noncomputable def NR52_46 (a b c : List TV) : Nd :=
 Z52_7 a b c
theorem eR52_46 {a b c : List TV} {r : Res} (h : S cx 52 (NR52_46 a b c) = some r) : S cx 52 (R52_46 a b c) = some r :=
 gw_of (fun call hd hb pt rg => by kernel_rfl) h
noncomputable def NR52_47 (a b c : List TV) : Nd :=
 Z52_4 a b c
theorem eR52_47 {a b c : List TV} {r : Res} (h : S cx 52 (NR52_47 a b c) = some r) : S cx 52 (R52_47 a b c) = some r :=
 gw_of (fun call hd hb pt rg => by kernel_rfl) h
noncomputable def NR52_48 (a b c : List TV) : Nd :=
 Z52_8 a b c
theorem eR52_48 {a b c : List TV} {r : Res} (h : S cx 52 (NR52_48 a b c) = some r) : S cx 52 (R52_48 a b c) = some r :=
 gw_of (fun call hd hb pt rg => by kernel_rfl) h
noncomputable def NR52_49 (a b c : List TV) : Nd :=
 Z52_7 a b c
theorem eR52_49 {a b c : List TV} {r : Res} (h : S cx 52 (NR52_49 a b c) = some r) : S cx 52 (R52_49 a b c) = some r :=
 gw_of (fun call hd hb pt rg => by kernel_rfl) h
end Go.Tree.Q

/- Trees of values: program points of functions. -/
namespace Go.Tree.Q
open Go.Proofs
set_option linter.unusedVariables false
set_option maxRecDepth 20000
noncomputable def N56 (a b c : List TV) : Nd :=
 .bif ((((a.length : Nat) : Int) == 8))
 (.bif ((((b.length : Nat) : Int) == 16))
 (.bif (decide (((c.length : Nat) : Int) ≤ 100))
 (C105 a fun d =>
 .bif (d)
 (C105 b fun f =>
 .bif (f)
 (C105 c fun g =>
 .ret [tb g] [])
 (.ret [tb false] []))
 (.ret [tb false] []))
 (.ret [tb false] []))
 (.ret [tb false] []))
 (.ret [tb false] [])
theorem e56 {a b c : List TV} {r : Res} (h : S cx 56 (N56 a b c) = some r) : tw cx 56 [.st [sl true ⟨1,false⟩ a, sl true ⟨1,false⟩ b, sl true ⟨1,false⟩ c]] = some r :=
 tw_of (fun call hd hb pt rg => by kernel_rfl) h
noncomputable def N57 (a b c : Int) : Nd :=
 .bif (decide (a ≥ b))
 (.ret [tb (decide (a ≤ c))] [])
 (.ret [tb false] [])
theorem e57 {a b c : Int} {r : Res} (h : S cx 57 (N57 a b c) = some r) : tw cx 57 [i64 a, i64 b, i64 c] = some r :=
 tw_of (fun call hd hb pt rg => by kernel_rfl) h
noncomputable def N58_s0 (a b c : List TV) : Nd :=
 C106 a fun d =>
 C106 b fun f =>
 .ret [.st [sl false ⟨1,false⟩ c, sl false ⟨1,false⟩ d, sl false ⟨1,false⟩ f]] []
noncomputable def N58_s1 (d a b : List TV) : Nd :=
 C106 d fun c =>
 .amb2
 (N58_s0 a b c)
 (N58_s0 a b c)
noncomputable def N58_s2 (a b c : List TV) : Nd :=
 C106 a fun d =>
 N58_s0 b c d
noncomputable def N58 (a b c : List TV) : Nd :=
 .amb3
 (N58_s1 a b c)
 (.amb2
 (N58_s1 a b c)
 (N58_s2 a b c))
 (.amb2
 (N58_s2 a b c)
 (N58_s2 a b c))
theorem e58 {a b c : List TV} {r : Res} (h : S cx 58 (N58 a b c) = some r) : tw cx 58 [.st [sl true ⟨1,false⟩ a, sl true ⟨1,false⟩ b, sl true ⟨1,false⟩ c]] = some r :=
 tw_of (fun call hd hb pt rg => by kernel_rfl) h
noncomputable def N60 (b a c : Int) : Nd :=
 .bif ((b == 2))
 (C111 (a != 0) fun d =>
 .ret [i64 (w64 ((1 : Int) - d))] [])
 (.bif ((b == 5))
 (.ret [i64 (if w64 (c - 1) < a then w64 (c - 1) else a)] [])
 (.ret [i64 0] []))
theorem e60 {a b c : Int} {r : Res} (h : S cx 60 (N60 a b c) = some r) : tw cx 60 [i64 a, i64 b, i64 c] = some r :=
 tw_of (fun call hd hb pt rg => by kernel_rfl) h
noncomputable def EH69_0 (a b : List TV) (c d : List TV) : Env := [w26 a, .un, w3 b, .un, .un, .un, .un, w10 c, w10 d] ++ uns 53
noncomputable abbrev H69_0 (a b : List TV) (c d : List TV) : Nd := .head [1, 1, 1, 1, 0, 1, 2] (EH69_0 a b c d)
noncomputable abbrev B69_0 (a b : List TV) (c d : List TV) : Nd := .back [1, 1, 1, 1, 0, 1, 2] (EH69_0 a b c d)
noncomputable def EH69_1 (b c : List TV) (d f a : List TV) (g : Int) : Env := [w26 b, .un, w3 c, .un, .un, .un, .un, w10 d, w10 f] ++ uns 24 ++ [w3 a, w8 a, w6 g] ++ uns 26
noncomputable abbrev H69_1 (a b : List TV) (c d f : List TV) (g : Int) : Nd := .head [1, 1, 1, 1, 0, 1, 2, 5, 1, 0, 2, 1, 2] (EH69_1 a b c d f g)
noncomputable abbrev B69_1 (a b : List TV) (c d f : List TV) (g : Int) : Nd := .back [1, 1, 1, 1, 0, 1, 2, 5, 1, 0, 2, 1, 2] (EH69_1 a b c d f g)
noncomputable def EG69_2 (b c : List TV) (d f : List TV) (g : Int) (a : List TV) (h : Int) (i : Bool) : Env := [w26 b, .un, w3 c, .un, .un, .un, .un, w10 d, w10 f, .un, w6 g] ++ uns 22 ++ [w3 a, w8 a, w6 h] ++ uns 13 ++ [.val [] (tb i)] ++ uns 12
noncomputable abbrev G69_2 (a b : List TV) (c d : List TV) (f : Int) (g : List TV) (h : Int) (i : Bool) : Nd := .go [1, 1, 1, 1, 0, 1, 2, 5, 1, 0, 2, 1, 2, 5, 1, 1, 0, 2, 1, 1] (EG69_2 a b c d f g h i)
noncomputable def N69 (a : List TV) (b : Int) (c : List TV) : Nd :=
 .ck (decide ((0 : Int) ≤ ((a.length : Nat) : Int)) && decide (((a.length : Nat) : Int) ≤ ((a.length : Nat) : Int)) && decide (((a.length : Nat) : Int) * 1 < (lim : Int)) && decide (((a.length : Nat) : Int) < 9223372036854775807) && true && true) <|
 C119 c b fun d =>
 .bif (d)
 (.ret [sl false ⟨1,false⟩ (List.replicate (((a.length : Nat) : Int).toNat) (tb false))] [])
 (.ck (decide ((0 : Int) ≤ b) && decide (b < (((List.replicate (((a.length : Nat) : Int).toNat) (tb false)).length : Nat) : Int))) <|
 H69_0 a c ((List.replicate (((a.length : Nat) : Int).toNat) (tb false)).set (0 + b.toNat) (tb true)) ([i64 b]))
theorem e69 {a : List TV} {b : Int} {c : List TV} {r : Res} (h : S cx 69 (N69 a b c) = some r) : tw cx 69 [sl true ⟨1,true⟩ a, i64 b, sl true ⟨1,false⟩ c] = some r :=
 tw_of (fun call hd hb pt rg => by kernel_rfl) h
noncomputable def NH69_0 (b f : List TV) (d a : List TV) : Nd :=
 .bif (decide (((a.length : Nat) : Int) > 0))
 (.ck (decide ((0 : Int) < ((a.length : Nat) : Int))) <|
 .int .i64 (a.getD 0 (.dead ())) fun c =>
 .ck (decide ((0 : Int) ≤ c) && decide (c < ((b.length : Nat) : Int))) <|
 .slR ⟨1,false⟩ (b.getD (0 + c.toNat) (.dead ())) fun g =>
 H69_1 b f d a g 0)
 (.ret [sl false ⟨1,false⟩ d] [])
theorem eH69_0 {a b : List TV} {c d : List TV} {r : Res} (h : S cx 69 (NH69_0 a b c d) = some r) : S cx 69 (H69_0 a b c d) = some r :=
 hw_of (fun call hd hb pt rg => by kernel_rfl) h
noncomputable def NH69_1 (h g : List TV) (d a f : List TV) (b : Int) : Nd :=
 .bif (decide (b < ((f.length : Nat) : Int)))
 (.ck (decide ((0 : Int) ≤ b) && decide (b < ((f.length : Nat) : Int))) <|
 .int .i64 (f.getD (0 + b.toNat) (.dead ())) fun c =>
 .ck (decide ((0 : Int) ≤ c) && decide (c < ((d.length : Nat) : Int))) <|
 .bool (d.getD (0 + c.toNat) (.dead ())) fun i =>
 .bif ((!i))
 (C119 g c fun j =>
 G69_2 h g d a c f b (!j))
 (G69_2 h g d a c f b false))
 (.ck (decide ((1 : Int) ≤ ((a.length : Nat) : Int)) && decide (((a.length : Nat) : Int) ≤ ((a.length : Nat) : Int))) <|
 B69_0 h g d ((a.drop 1).take ((((a.length : Nat) : Int) - 1).toNat)))
theorem eH69_1 {a b : List TV} {c d f : List TV} {g : Int} {r : Res} (h : S cx 69 (NH69_1 a b c d f g) = some r) : S cx 69 (H69_1 a b c d f g) = some r :=
 hw_of (fun call hd hb pt rg => by kernel_rfl) h
noncomputable def NG69_2 (d f : List TV) (b c : List TV) (a : Int) (g : List TV) (h : Int) (i : Bool) : Nd :=
 .bif (i)
 (.ck (decide ((0 : Int) ≤ a) && decide (a < ((b.length : Nat) : Int))) <|
 .ck (decide ((c.length + ([i64 a] : List TV).length) * 8 < lim)) <|
 B69_1 d f (b.set (0 + a.toNat) (tb true)) (c ++ ([i64 a])) g (w64 (h + 1)))
 (B69_1 d f b c g (w64 (h + 1)))
theorem eG69_2 {a b : List TV} {c d : List TV} {f : Int} {g : List TV} {i : Int} {j : Bool} {r : Res} (h : S cx 69 (NG69_2 a b c d f g i j) = some r) : S cx 69 (G69_2 a b c d f g i j) = some r :=
 pw_of (fun call hd hb pt rg => by kernel_rfl) h
noncomputable def N77 (a : List TV) (b : Int) : Nd :=
 .bif (decide (((a.length : Nat) : Int) ≤ 60))
 (C122 a b fun c =>
 .ret [tb (!c)] [])
 (.ret [tb false] [])
theorem e77 {a : List TV} {b : Int} {r : Res} (h : S cx 77 (N77 a b) = some r) : tw cx 77 [sl true ⟨6,false⟩ a, i64 b] = some r :=
 tw_of (fun call hd hb pt rg => by kernel_rfl) h
noncomputable def N78_s0 (b : Int) (a : List TV) (c : Int) : Nd :=
 C126 a c fun d =>
 .bif (d)
 (.ret [tb false] [])
 (.bif ((b == 1))
 (.ret [tb (((a.length : Nat) : Int) == 1)] [])
 (.bif ((b == 2))
 (.ret [tb (((a.length : Nat) : Int) == 2)] [])
 (.bif ((b == 5))
 (C57 ((a.length : Nat) : Int) 2 6 fun f =>
 .ret [tb f] [])
 (.bif ((b == 3))
 (.ret [tb (((a.length : Nat) : Int) == 0)] [])
 (.bif ((b == 4))
 (.ret [tb (((a.length : Nat) : Int) == 0)] [])
 (.ret [tb false] []))))))
noncomputable def N78_s1 (a d : Int) (b : List TV) (c : Int) : Nd :=
 C125 a fun f =>
 .bif ((!f))
 (.bif ((d != 0))
 (.ret [tb false] [])
 (N78_s0 a b c))
 (N78_s0 a b c)
noncomputable def N78 (a b : Int) (c : List TV) (f d : Int) : Nd :=
 C125 a fun g =>
 .bif (g)
 (C57 b 0 (w64 (f - 1)) fun h =>
 .bif ((!h))
 (.ret [tb false] [])
 (N78_s1 a b c d))
 (N78_s1 a b c d)
theorem e78 {a b : Int} {c : List TV} {d f : Int} {r : Res} (h : S cx 78 (N78 a b c d f) = some r) : tw cx 78 [i64 a, i64 b, sl true ⟨1,false⟩ c, i64 d, i64 f] = some r :=
 tw_of (fun call hd hb pt rg => by kernel_rfl) h
noncomputable def N79 (f g : List TV) (k l : Int) (h i : List TV) (j : Int) : Nd :=
 C42 f j fun a =>
 .bif (decide (a < 0))
 (.ret [i64 (-1)] [])
 (C128 g a fun b =>
 .bif (decide (b < 0))
 (.ret [i64 (-1)] [])
 (C42 h b fun c =>
 .bif (decide (c < 0))
 (.ret [i64 (-1)] [])
 (C129 i c fun d =>
 .bif (decide (d < 0))
 (.ret [i64 (-1)] [])
 (.ret [i64 d] []))))
theorem e79 {a b : List TV} {c d : Int} {f g : List TV} {i : Int} {r : Res} (h : S cx 79 (N79 a b c d f g i) = some r) : tw cx 79 [.st [sl true ⟨1,false⟩ a, sl true ⟨6,false⟩ b, i64 c, i64 d, sl true ⟨1,false⟩ f, sl true ⟨1,true⟩ g], i64 i] = some r :=
 tw_of (fun call hd hb pt rg => by kernel_rfl) h
noncomputable def N80 (a b c : Int) : Nd :=
 .bif (decide (a ≥ b))
 (.ret [tb (decide (a ≤ c))] [])
 (.ret [tb false] [])
theorem e80 {a b c : Int} {r : Res} (h : S cx 80 (N80 a b c) = some r) : tw cx 80 [i64 a, i64 b, i64 c] = some r :=
 tw_of (fun call hd hb pt rg => by kernel_rfl) h
noncomputable def EH81_0 (b : List TV) (c : Int) (d a : List TV) (f g : Int) (h i : List TV) (j : Int) : Env := [.un, .un, w0 b c, w20 d a f g h i] ++ uns 8 ++ [w25 a, w8 a, w6 j] ++ uns 172
noncomputable abbrev H81_0 (a : List TV) (b : Int) (c d : List TV) (f g : Int) (h i : List TV) (j : Int) : Nd := .head [1, 0, 1, 2] (EH81_0 a b c d f g h i j)
noncomputable abbrev B81_0 (a : List TV) (b : Int) (c d : List TV) (f g : Int) (h i : List TV) (j : Int) : Nd := .back [1, 0, 1, 2] (EH81_0 a b c d f g h i j)
noncomputable def EH81_1 (b : List TV) (c : Int) (d f : List TV) (g h : Int) (a i : List TV) (j : Int) : Env := [.un, .un, w0 b c, w20 d f g h a i] ++ uns 159 ++ [w3 a, w8 a, w6 j] ++ uns 21
noncomputable abbrev H81_1 (a : List TV) (b : Int) (c d : List TV) (f g : Int) (h i : List TV) (j : Int) : Nd := .head [1, 1, 1, 1, 1, 1, 0, 1, 2] (EH81_1 a b c d f g h i j)
noncomputable abbrev B81_1 (a : List TV) (b : Int) (c d : List TV) (f g : Int) (h i : List TV) (j : Int) : Nd := .back [1, 1, 1, 1, 1, 1, 0, 1, 2] (EH81_1 a b c d f g h i j)
noncomputable def N81 (a : List TV) (b : Int) (c d : List TV) (f g : Int) (h i : List TV) : Nd :=
 H81_0 a b c d f g h i 0
theorem e81 {a : List TV} {b : Int} {c d : List TV} {f g : Int} {i j : List TV} {r : Res} (h : S cx 81 (N81 a b c d f g i j) = some r) : tw cx 81 [.st [sl true ⟨6,true⟩ a, i64 b], .st [sl true ⟨1,false⟩ c, sl true ⟨6,false⟩ d, i64 f, i64 g, sl true ⟨1,false⟩ i, sl true ⟨1,true⟩ j]] = some r :=
 tw_of (fun call hd hb pt rg => by kernel_rfl) h
noncomputable def NH81_0_s0 (a : List TV) (b : Int) (c d : List TV) (f g : Int) (h i : List TV) (j k l : Int) : Nd :=
 .bif ((k != 3))
 (.bif ((k != 5))
 (.bif ((l != 0))
 (.ret [tb false] [])
 (B81_0 a b c d f g h i (w64 (j + 1))))
 (B81_0 a b c d f g h i (w64 (j + 1))))
 (B81_0 a b c d f g h i (w64 (j + 1)))
noncomputable def NH81_0_s1 (b : List TV) (c : Int) (d f : List TV) (g h : Int) (i j : List TV) (k a : Int) (m l : Int) : Nd :=
 .bif ((a == 1))
 (.bif ((m != 0))
 (.ret [tb false] [])
 (NH81_0_s0 b c d f g h i j k a l))
 (NH81_0_s0 b c d f g h i j k a l)
noncomputable def NH81_0_s2 (d : List TV) (g : Int) (h f : List TV) (b i : Int) (c a : List TV) : Nd :=
 C112 ([]) b 0 c ((d.length : Nat) : Int) fun j =>
 .bif ((!j))
 (.ret [tb false] [])
 (.bif (decide (((f.length : Nat) : Int) > 60))
 (.ret [tb false] [])
 (.bif ((b == 3))
 (.bif ((((a.length : Nat) : Int) == 1))
 (.ck (decide ((0 : Int) < ((a.length : Nat) : Int))) <|
 .slR ⟨1,false⟩ (a.getD 0 (.dead ())) fun k =>
 .ret [tb (((k.length : Nat) : Int) == 3)] [])
 (.ret [tb false] []))
 (.bif ((((a.length : Nat) : Int) != ((c.length : Nat) : Int)))
 (.ret [tb false] [])
 (H81_1 d g h f b i c a 0))))
noncomputable def NH81_0_s3 (c : List TV) (d : Int) (f g : List TV) (a b : Int) (h i : List TV) : Nd :=
 .bif ((a != 2))
 (.bif ((a != 5))
 (.bif ((b != 0))
 (.ret [tb false] [])
 (NH81_0_s2 c d f g a b h i))
 (NH81_0_s2 c d f g a b h i))
 (NH81_0_s2 c d f g a b h i)
noncomputable def NH81_0_s4 (c : List TV) (a : Int) (d f : List TV) (g b : Int) (h i : List TV) : Nd :=
 C80 b 0 (w64 (a - 1)) fun j =>
 .bif ((!j))
 (.ret [tb false] [])
 (NH81_0_s3 c a d f g b h i)
noncomputable def NH81_0 (f : List TV) (a : Int) (g b : List TV) (c h : Int) (i j : List TV) (d : Int) : Nd :=
 .bif (decide (d < ((b.length : Nat) : Int)))
 (.ck (decide ((0 : Int) ≤ d) && decide (d < ((b.length : Nat) : Int))) <|
 V6_1 (b.getD (0 + d.toNat) (.dead ())) fun k o n l m p =>
 C130 k o 0 0 0 p fun q =>
 .bif ((!q))
 (.ret [tb false] [])
 (C80 n 0 (w64 (a - 1)) fun r =>
 .bif ((!r))
 (.ret [tb false] [])
 (C80 l 0 (w64 (a - 1)) fun s =>
 .bif ((!s))
 (.ret [tb false] [])
 (C80 m 0 (w64 (a - 1)) fun t =>
 .bif ((!t))
 (.ret [tb false] [])
 (C87 k fun u =>
 .bif ((!u))
 (.bif ((n != 0))
 (.ret [tb false] [])
 (NH81_0_s1 f a g b c h i j d k l m))
 (NH81_0_s1 f a g b c h i j d k l m))))))
 (.bif ((c == 2))
 (NH81_0_s4 f a g b c h i j)
 (.bif ((c == 5))
 (NH81_0_s4 f a g b c h i j)
 (NH81_0_s3 f a g b c h i j)))
theorem eH81_0 {a : List TV} {b : Int} {c d : List TV} {f g : Int} {i j : List TV} {k : Int} {r : Res} (h : S cx 81 (NH81_0 a b c d f g i j k) = some r) : S cx 81 (H81_0 a b c d f g i j k) = some r :=
 hw_of (fun call hd hb pt rg => by kernel_rfl) h
noncomputable def NH81_1 (c : List TV) (g : Int) (h i : List TV) (j k : Int) (b d : List TV) (a : Int) : Nd :=
 .bif (decide (a < ((b.length : Nat) : Int)))
 (.ck (decide ((0 : Int) ≤ a) && decide (a < ((b.length : Nat) : Int))) <|
 .int .i64 (b.getD (0 + a.toNat) (.dead ())) fun f =>
 .ck (decide ((0 : Int) ≤ a) && decide (a < ((d.length : Nat) : Int))) <|
 .slR ⟨1,false⟩ (d.getD (0 + a.toNat) (.dead ())) fun l =>
 .ck (decide ((0 : Int) ≤ f) && decide (f < ((c.length : Nat) : Int))) <|
 V6 (c.getD (0 + f.toNat) (.dead ())) fun m n o p q r =>
 .bif ((((l.length : Nat) : Int) != ((m.length : Nat) : Int)))
 (.ret [tb false] [])
 (B81_1 c g h i j k b d (w64 (a + 1))))
 (.ret [tb true] [])
theorem eH81_1 {a : List TV} {b : Int} {c d : List TV} {f g : Int} {i j : List TV} {k : Int} {r : Res} (h : S cx 81 (NH81_1 a b c d f g i j k) = some r) : S cx 81 (H81_1 a b c d f g i j k) = some r :=
 hw_of (fun call hd hb pt rg => by kernel_rfl) h
noncomputable def EH82_0 (a : List TV) (b : Int) (c : List TV) (d : Int) : Env := [.un, w0 a b, .un, .un, w10 c, w6 d] ++ uns 78
noncomputable abbrev H82_0 (a : List TV) (b : Int) (c : List TV) (d : Int) : Nd := .head [1, 1, 0, 1, 2] (EH82_0 a b c d)
noncomputable abbrev B82_0 (a : List TV) (b : Int) (c : List TV) (d : Int) : Nd := .back [1, 1, 0, 1, 2] (EH82_0 a b c d)
noncomputable def EH82_1 (a : List TV) (b : Int) (c : List TV) (d : Int) : Env := [.un, w0 a b, .un, .un, w10 c] ++ uns 23 ++ [w24 a, w8 a, w6 d] ++ uns 53
noncomputable abbrev H82_1 (a : List TV) (b : Int) (c : List TV) (d : Int) : Nd := .head [1, 1, 1, 0, 1, 2] (EH82_1 a b c d)
noncomputable abbrev B82_1 (a : List TV) (b : Int) (c : List TV) (d : Int) : Nd := .back [1, 1, 1, 0, 1, 2] (EH82_1 a b c d)
noncomputable def EH82_2 (a : List TV) (c : Int) (d : List TV) (f : Int) (g : List TV) (h : Int) (b : List TV) (i : Int) : Env := [.un, w0 a c, .un, .un, w10 d, .un, w6 f, .un, w10 g] ++ uns 19 ++ [w24 a, w8 a, w6 h] ++ uns 9 ++ [w25 b, w8 b, w6 i] ++ uns 41
noncomputable abbrev H82_2 (a : List TV) (b : Int) (c : List TV) (d : Int) (f : List TV) (g : Int) (h : List TV) (i : Int) : Nd := .head [1, 1, 1, 0, 1, 2, 5, 1, 1, 0, 2, 1, 1, 0, 1, 2] (EH82_2 a b c d f g h i)
noncomputable abbrev B82_2 (a : List TV) (b : Int) (c : List TV) (d : Int) (f : List TV) (g : Int) (h : List TV) (i : Int) : Nd := .back [1, 1, 1, 0, 1, 2, 5, 1, 1, 0, 2, 1, 1, 0, 1, 2] (EH82_2 a b c d f g h i)
noncomputable def EH82_3 (a : List TV) (c : Int) (d : List TV) (f : Int) (b : List TV) (g h : Int) : Env := [.un, w0 a c, .un, .un, w10 d, .un, w6 f, .un, w10 b] ++ uns 19 ++ [w24 a, w8 a, w6 g] ++ uns 24 ++ [.ref 8 [] none 25 false, w8 b, w6 h] ++ uns 26
noncomputable abbrev H82_3 (a : List TV) (b : Int) (c : List TV) (d : Int) (f : List TV) (g h : Int) : Nd := .head [1, 1, 1, 0, 1, 2, 5, 1, 1, 0, 2, 1, 1, 1, 1, 2] (EH82_3 a b c d f g h)
noncomputable abbrev B82_3 (a : List TV) (b : Int) (c : List TV) (d : Int) (f : List TV) (g h : Int) : Nd := .back [1, 1, 1, 0, 1, 2, 5, 1, 1, 0, 2, 1, 1, 1, 1, 2] (EH82_3 a b c d f g h)
noncomputable def N82 (a : List TV) (b : Int) : Nd :=
 H82_0 a b ([]) 0
theorem e82 {a : List TV} {b : Int} {r : Res} (h : S cx 82 (N82 a b) = some r) : tw cx 82 [.st [sl true ⟨6,true⟩ a, i64 b]] = some r :=
 tw_of (fun call hd hb pt rg => by kernel_rfl) h
noncomputable def NH82_0 (d : List TV) (b : Int) (a : List TV) (c : Int) : Nd :=
 .bif (decide (c < b))
 (.bif (decide (c < 12))
 (.ck (decide ((a.length + ([i64 0] : List TV).length) * 8 < lim)) <|
 B82_0 d b (a ++ ([i64 0])) (w64 (c + 1)))
 (.ck (decide ((a.length + ([i64 (-1)] : List TV).length) * 8 < lim)) <|
 B82_0 d b (a ++ ([i64 (-1)])) (w64 (c + 1))))
 (H82_1 d b a 0)
theorem eH82_0 {a : List TV} {b : Int} {c : List TV} {d : Int} {r : Res} (h : S cx 82 (NH82_0 a b c d) = some r) : S cx 82 (H82_0 a b c d) = some r :=
 hw_of (fun call hd hb pt rg => by kernel_rfl) h
noncomputable def NH82_1 (b : List TV) (f : Int) (c : List TV) (a : Int) : Nd :=
 .bif (decide (a < ((b.length : Nat) : Int)))
 (.ck (decide ((0 : Int) ≤ a) && decide (a < ((b.length : Nat) : Int))) <|
 V6 (b.getD (0 + a.toNat) (.dead ())) fun d g h i j k =>
 .ck (decide ((0 + d.length) * 8 < lim)) <|
 H82_2 b f c a (([]) ++ d) a g 0)
 (.ret [sl false ⟨1,false⟩ c, tb true] [])
theorem eH82_1 {a : List TV} {b : Int} {c : List TV} {d : Int} {r : Res} (h : S cx 82 (NH82_1 a b c d) = some r) : S cx 82 (H82_1 a b c d) = some r :=
 hw_of (fun call hd hb pt rg => by kernel_rfl) h
noncomputable def NH82_2 (d : List TV) (f : Int) (g : List TV) (h : Int) (c : List TV) (i : Int) (b : List TV) (a : Int) : Nd :=
 .bif (decide (a < ((b.length : Nat) : Int)))
 (.ck (decide ((0 : Int) ≤ a) && decide (a < ((b.length : Nat) : Int))) <|
 V6_1 (b.getD (0 + a.toNat) (.dead ())) fun k m j n o p =>
 C87 k fun l =>
 .bif (l)
 (.ck (decide ((c.length + ([i64 j] : List TV).length) * 8 < lim)) <|
 B82_2 d f g h (c ++ ([i64 j])) i b (w64 (a + 1)))
 (B82_2 d f g h c i b (w64 (a + 1))))
 (H82_3 d f g h c i 0)
theorem eH82_2 {a : List TV} {b : Int} {c : List TV} {d : Int} {f : List TV} {g : Int} {i : List TV} {j : Int} {r : Res} (h : S cx 82 (NH82_2 a b c d f g i j) = some r) : S cx 82 (H82_2 a b c d f g i j) = some r :=
 hw_of (fun call hd hb pt rg => by kernel_rfl) h
noncomputable def NH82_3 (g : List TV) (f : Int) (b : List TV) (h : Int) (d : List TV) (i c : Int) : Nd :=
 .bif (decide (c < ((d.length : Nat) : Int)))
 (.ck (decide ((0 : Int) ≤ c) && decide (c < ((d.length : Nat) : Int))) <|
 .int .i64 (d.getD (0 + c.toNat) (.dead ())) fun a =>
 .bif (decide (a < 0))
 (.ret [sl false ⟨1,false⟩ ([]), tb false] [])
 (.bif (decide (a ≥ f))
 (.ret [sl false ⟨1,false⟩ ([]), tb false] [])
 (.ck (decide ((0 : Int) ≤ a) && decide (a < ((b.length : Nat) : Int))) <|
 .int .i64 (b.getD (0 + a.toNat) (.dead ())) fun j =>
 .bif (decide (j ≥ 0))
 (.ret [sl false ⟨1,false⟩ ([]), tb false] [])
 (.ck (decide ((0 : Int) ≤ a) && decide (a < ((b.length : Nat) : Int))) <|
 B82_3 g f (b.set (0 + a.toNat) (i64 h)) h d i (w64 (c + 1))))))
 (B82_1 g f b (w64 (i + 1)))
theorem eH82_3 {a : List TV} {b : Int} {c : List TV} {d : Int} {f : List TV} {g i : Int} {r : Res} (h : S cx 82 (NH82_3 a b c d f g i) = some r) : S cx 82 (H82_3 a b c d f g i) = some r :=
 hw_of (fun call hd hb pt rg => by kernel_rfl) h
noncomputable def EH83_0 (b a : List TV) (c : Int) : Env := [.un, .un, .val [] (.pt false () (.st [sl false ⟨1,true⟩ ([])])), w31 b, .un, .un, .un, .un, .un, .un, w24 a, w8 a, w6 c] ++ uns 23
noncomputable abbrev H83_0 (a b : List TV) (c : Int) : Nd := .head [1, 1, 0, 1, 2] (EH83_0 a b c)
noncomputable abbrev B83_0 (a b : List TV) (c : Int) : Nd := .back [1, 1, 0, 1, 2] (EH83_0 a b c)
noncomputable def EH83_1 (c d a : List TV) (f : Int) (b : List TV) (g : Int) : Env := [.un, .un, .val [] (.pt false () (.st [sl false ⟨1,true⟩ ([])])), w31 c, .un, .un, w10 d, .un, .un, .un, w24 a, w8 a, w6 f, .un, .un, .un, .un, w3 b, w8 b, w6 g] ++ uns 16
noncomputable abbrev H83_1 (a b c : List TV) (d : Int) (f : List TV) (g : Int) : Nd := .head [1, 1, 0, 1, 2, 5, 1, 1, 0, 2, 1, 1, 0, 1, 2] (EH83_1 a b c d f g)
noncomputable abbrev B83_1 (a b c : List TV) (d : Int) (f : List TV) (g : Int) : Nd := .back [1, 1, 0, 1, 2, 5, 1, 1, 0, 2, 1, 1, 0, 1, 2] (EH83_1 a b c d f g)
noncomputable def N83 (a : List TV) (b : Int) : Nd :=
 H83_0 ([]) a 0
theorem e83 {a : List TV} {b : Int} {r : Res} (h : S cx 83 (N83 a b) = some r) : tw cx 83 [.st [sl true ⟨6,true⟩ a, i64 b]] = some r :=
 tw_of (fun call hd hb pt rg => by kernel_rfl) h
noncomputable def NH83_0 (c b : List TV) (a : Int) : Nd :=
 .bif (decide (a < ((b.length : Nat) : Int)))
 (.ck (decide ((0 : Int) ≤ a) && decide (a < ((b.length : Nat) : Int))) <|
 V6 (b.getD (0 + a.toNat) (.dead ())) fun f g h i d j =>
 H83_1 c ([]) b a d 0)
 (.ret [.st [sl false ⟨1,true⟩ c]] [])
theorem eH83_0 {a b : List TV} {c : Int} {r : Res} (h : S cx 83 (NH83_0 a b c) = some r) : S cx 83 (H83_0 a b c) = some r :=
 hw_of (fun call hd hb pt rg => by kernel_rfl) h
noncomputable def NH83_1 (c d f : List TV) (g : Int) (b : List TV) (a : Int) : Nd :=
 .bif (decide (a < ((b.length : Nat) : Int)))
 (.ck (decide ((0 : Int) ≤ a) && decide (a < ((b.length : Nat) : Int))) <|
 .int .i64 (b.getD (0 + a.toNat) (.dead ())) fun h =>
 C120 d h fun i =>
 B83_1 c i f g b (w64 (a + 1)))
 (.ck (decide ((c.length + ([sl false ⟨1,false⟩ d] : List TV).length) * 24 < lim)) <|
 B83_0 (c ++ ([sl false ⟨1,false⟩ d])) f (w64 (g + 1)))
theorem eH83_1 {a b c : List TV} {d : Int} {f : List TV} {g : Int} {r : Res} (h : S cx 83 (NH83_1 a b c d f g) = some r) : S cx 83 (H83_1 a b c d f g) = some r :=
 hw_of (fun call hd hb pt rg => by kernel_rfl) h
noncomputable def EH84_0 (a b c : List TV) (d : Int) : Env := [.un, w30 a, .un, w18 b, w10 c] ++ uns 12 ++ [w8 a, w6 d] ++ uns 33
noncomputable abbrev H84_0 (a b c : List TV) (d : Int) : Nd := .head [1, 1, 1, 0, 1, 2] (EH84_0 a b c d)
noncomputable abbrev B84_0 (a b c : List TV) (d : Int) : Nd := .back [1, 1, 1, 0, 1, 2] (EH84_0 a b c d)
noncomputable def EH84_1 (a c b : List TV) (d : Int) (f : List TV) (g h : Int) : Env := [.un, w30 a, .un, w18 c, w10 b, w6 d, w10 f] ++ uns 10 ++ [w8 a, w6 g, .un, .un, .un, .un, .un, .ref 4 [] none 25 false, w8 b, w6 h] ++ uns 25
noncomputable abbrev H84_1 (a b c : List TV) (d : Int) (f : List TV) (g h : Int) : Nd := .head [1, 1, 1, 0, 1, 2, 5, 1, 1, 0, 2, 1, 1, 1, 2] (EH84_1 a b c d f g h)
noncomputable abbrev B84_1 (a b c : List TV) (d : Int) (f : List TV) (g h : Int) : Nd := .back [1, 1, 1, 0, 1, 2, 5, 1, 1, 0, 2, 1, 1, 1, 2] (EH84_1 a b c d f g h)
noncomputable def EG84_2 (a c b : List TV) (d : Int) (f : List TV) (g h i : Int) (j : Bool) : Env := [.un, w30 a, .un, w18 c, w10 b, w6 d, w10 f, .un, w6 g] ++ uns 8 ++ [w8 a, w6 h, .un, .un, .un, .un, .un, .ref 4 [] none 25 false, w8 b, w6 i] ++ uns 11 ++ [.val [] (tb j)] ++ uns 13
noncomputable abbrev G84_2 (a b c : List TV) (d : Int) (f : List TV) (g h i : Int) (j : Bool) : Nd := .go [1, 1, 1, 0, 1, 2, 5, 1, 1, 0, 2, 1, 1, 1, 2, 5, 1, 1, 0, 2, 1, 1] (EG84_2 a b c d f g h i j)
noncomputable def N84 (a : List TV) : Nd :=
 .ck (decide ((0 : Int) ≤ ((a.length : Nat) : Int)) && decide (((a.length : Nat) : Int) ≤ ((a.length : Nat) : Int)) && decide (((a.length : Nat) : Int) * 24 < (lim : Int)) && decide (((a.length : Nat) : Int) < 9223372036854775807) && true && true) <|
 C131 a (-1) fun b =>
 H84_0 a (List.replicate (((a.length : Nat) : Int).toNat) (sl false ⟨1,false⟩ ([]))) b 0
theorem e84 {a : List TV} {r : Res} (h : S cx 84 (N84 a) = some r) : tw cx 84 [.st [sl true ⟨1,true⟩ a]] = some r :=
 tw_of (fun call hd hb pt rg => by kernel_rfl) h
noncomputable def NH84_0 (b c d : List TV) (a : Int) : Nd :=
 .bif (decide (a < ((b.length : Nat) : Int)))
 (C131 b a fun f =>
 H84_1 b c d a f a 0)
 (.ret [sl false ⟨1,true⟩ c] [])
theorem eH84_0 {a b c : List TV} {d : Int} {r : Res} (h : S cx 84 (NH84_0 a b c d) = some r) : S cx 84 (H84_0 a b c d) = some r :=
 hw_of (fun call hd hb pt rg => by kernel_rfl) h
noncomputable def NH84_1 (c d a : List TV) (f : Int) (g : List TV) (h b : Int) : Nd :=
 .bif (decide (b < ((a.length : Nat) : Int)))
 (.ck (decide ((0 : Int) ≤ b) && decide (b < ((a.length : Nat) : Int))) <|
 .int .i64 (a.getD (0 + b.toNat) (.dead ())) fun i =>
 C116 a f fun j =>
 .bif (j)
 (C116 g i fun k =>
 G84_2 c d a f g i h b (!k))
 (G84_2 c d a f g i h b false))
 (B84_0 c d a (w64 (h + 1)))
theorem eH84_1 {a b c : List TV} {d : Int} {f : List TV} {g i : Int} {r : Res} (h : S cx 84 (NH84_1 a b c d f g i) = some r) : S cx 84 (H84_1 a b c d f g i) = some r :=
 hw_of (fun call hd hb pt rg => by kernel_rfl) h
noncomputable def NG84_2 (d b f : List TV) (c : Int) (g : List TV) (a h i : Int) (j : Bool) : Nd :=
 .bif (j)
 (.ck (decide ((0 : Int) ≤ a) && decide (a < ((b.length : Nat) : Int))) <|
 .slO ⟨1,false⟩ (b.getD (0 + a.toNat) (.dead ())) fun m =>
 .slO ⟨1,false⟩ (b.getD (0 + a.toNat) (.dead ())) fun k =>
 C120 k c fun l =>
 .ck (decide ((0 : Int) ≤ a) && decide (a < (((b.set (0 + a.toNat) (.dead ())).length : Nat) : Int))) <|
 B84_1 d ((b.set (0 + a.toNat) (.dead ())).set (0 + a.toNat) (sl false ⟨1,false⟩ l)) f c g h (w64 (i + 1)))
 (B84_1 d b f c g h (w64 (i + 1)))
theorem eG84_2 {a b c : List TV} {d : Int} {f : List TV} {g i j : Int} {k : Bool} {r : Res} (h : S cx 84 (NG84_2 a b c d f g i j k) = some r) : S cx 84 (G84_2 a b c d f g i j k) = some r :=
 pw_of (fun call hd hb pt rg => by kernel_rfl) h
noncomputable def EH85_0 (b c d : List TV) (f : Int) (a : List TV) (g : Int) : Env := [.un, w3 b, w3 c, w3 d, w6 f] ++ uns 9 ++ [w3 a, w8 a, w6 g] ++ uns 42
noncomputable abbrev H85_0 (a b c : List TV) (d : Int) (f : List TV) (g : Int) : Nd := .head [1, 0, 1, 2] (EH85_0 a b c d f g)
noncomputable abbrev B85_0 (a b c : List TV) (d : Int) (f : List TV) (g : Int) : Nd := .back [1, 0, 1, 2] (EH85_0 a b c d f g)
noncomputable def N85 (a b : List TV) (c d : List TV) (f : Int) : Nd :=
 H85_0 b c d f a 0
theorem e85 {a b : List TV} {c d : List TV} {f : Int} {r : Res} (h : S cx 85 (N85 a b c d f) = some r) : tw cx 85 [sl true ⟨1,false⟩ a, sl true ⟨1,false⟩ b, sl true ⟨1,false⟩ c, sl true ⟨1,false⟩ d, i64 f] = some r :=
 tw_of (fun call hd hb pt rg => by kernel_rfl) h
noncomputable def NH85_0 (c f g : List TV) (h : Int) (d : List TV) (a : Int) : Nd :=
 .bif (decide (a < ((d.length : Nat) : Int)))
 (.ck (decide ((0 : Int) ≤ a) && decide (a < ((d.length : Nat) : Int))) <|
 .int .i64 (d.getD (0 + a.toNat) (.dead ())) fun b =>
 .bif (decide (b < 0))
 (.ret [tb false] [])
 (.bif (decide (b ≥ ((c.length : Nat) : Int)))
 (.ret [tb false] [])
 (.ck (decide ((0 : Int) ≤ b) && decide (b < ((c.length : Nat) : Int))) <|
 .int .i64 (c.getD (0 + b.toNat) (.dead ())) fun i =>
 .bif (decide (b < 12))
 (B85_0 c f g h d (w64 (a + 1)))
 (C116 g b fun j =>
 .bif (j)
 (B85_0 c f g h d (w64 (a + 1)))
 (.bif (decide (i ≥ 0))
 (.bif ((i != h))
 (C116 f i fun k =>
 .bif (k)
 (B85_0 c f g h d (w64 (a + 1)))
 (.ret [tb false] []))
 (.ret [tb false] []))
 (.ret [tb false] []))))))
 (.ret [tb true] [])
theorem eH85_0 {a b c : List TV} {d : Int} {f : List TV} {g : Int} {r : Res} (h : S cx 85 (NH85_0 a b c d f g) = some r) : S cx 85 (H85_0 a b c d f g) = some r :=
 hw_of (fun call hd hb pt rg => by kernel_rfl) h
noncomputable def EG86_0 (a b : Int) (c d : Int) (f g : Int) (h : Bool) : Env := [.un, w28 a b c d f g, .un, .un, .un, .un, .un, .val [] (tb h)] ++ uns 11
noncomputable abbrev G86_0 (a b : Int) (c d : Int) (f g : Int) (h : Bool) : Nd := .go [1, 0, 1, 2, 1, 4, 1] (EG86_0 a b c d f g h)
noncomputable def N86 (a b : Int) (c d : Int) (f g : Int) : Nd :=
 .bif ((a == 1))
 (.ret [sl false ⟨1,false⟩ ([])] [])
 (.bif ((a == 3))
 (G86_0 a b c d f g (a == 3))
 (G86_0 a b c d f g (a == 5)))
theorem e86 {a b : Int} {c d : Int} {f g : Int} {r : Res} (h : S cx 86 (N86 a b c d f g) = some r) : tw cx 86 [.st [i64 a, i64 b, i64 c, i64 d, i64 f, i64 g]] = some r :=
 tw_of (fun call hd hb pt rg => by kernel_rfl) h
noncomputable def NG86_0 (d f : Int) (g a : Int) (b h : Int) (c : Bool) : Nd :=
 .bif (c)
 (.ret [sl false ⟨1,false⟩ ([i64 a, i64 b])] [])
 (.ret [sl false ⟨1,false⟩ ([i64 a])] [])
theorem eG86_0 {a b : Int} {c d : Int} {f g : Int} {i : Bool} {r : Res} (h : S cx 86 (NG86_0 a b c d f g i) = some r) : S cx 86 (G86_0 a b c d f g i) = some r :=
 pw_of (fun call hd hb pt rg => by kernel_rfl) h
noncomputable def N87 (a : Int) : Nd :=
 C80 a 1 4 fun b =>
 .ret [tb b] []
theorem e87 {a : Int} {r : Res} (h : S cx 87 (N87 a) = some r) : tw cx 87 [i64 a] = some r :=
 tw_of (fun call hd hb pt rg => by kernel_rfl) h
noncomputable def EG88_0 (a b : List TV) (c d : Int) (f g h : List TV) : Env := [.un, w20 a b c d f g, .un, w10 h] ++ uns 28
noncomputable abbrev G88_0 (a b : List TV) (c d : Int) (f g h : List TV) : Nd := .go [1, 1, 1] (EG88_0 a b c d f g h)
noncomputable def EH88_1 (b a : List TV) (c : Int) : Env := [.un, .un, .un, w10 b] ++ uns 16 ++ [w26 a, w8 a, w6 c] ++ uns 9
noncomputable abbrev H88_1 (a b : List TV) (c : Int) : Nd := .head [1, 1, 1, 0, 1, 2] (EH88_1 a b c)
noncomputable abbrev B88_1 (a b : List TV) (c : Int) : Nd := .back [1, 1, 1, 0, 1, 2] (EH88_1 a b c)
noncomputable def N88 (c d : List TV) (b a : Int) (f g : List TV) : Nd :=
 .bif ((b == 2))
 (.ck (decide ((0 + ([i64 a] : List TV).length) * 8 < lim)) <|
 G88_0 c d b a f g (([]) ++ ([i64 a])))
 (.bif ((b == 5))
 (.ck (decide ((0 + ([i64 a] : List TV).length) * 8 < lim)) <|
 G88_0 c d b a f g (([]) ++ ([i64 a])))
 (G88_0 c d b a f g ([])))
theorem e88 {a b : List TV} {c d : Int} {f g : List TV} {r : Res} (h : S cx 88 (N88 a b c d f g) = some r) : tw cx 88 [.st [sl true ⟨1,false⟩ a, sl true ⟨6,false⟩ b, i64 c, i64 d, sl true ⟨1,false⟩ f, sl true ⟨1,true⟩ g]] = some r :=
 tw_of (fun call hd hb pt rg => by kernel_rfl) h
noncomputable def NG88_0 (c d : List TV) (f g : Int) (h a b : List TV) : Nd :=
 H88_1 b a 0
theorem eG88_0 {a b : List TV} {c d : Int} {f g i : List TV} {r : Res} (h : S cx 88 (NG88_0 a b c d f g i) = some r) : S cx 88 (G88_0 a b c d f g i) = some r :=
 pw_of (fun call hd hb pt rg => by kernel_rfl) h
noncomputable def NH88_1 (c b : List TV) (a : Int) : Nd :=
 .bif (decide (a < ((b.length : Nat) : Int)))
 (.ck (decide ((0 : Int) ≤ a) && decide (a < ((b.length : Nat) : Int))) <|
 .slR ⟨1,false⟩ (b.getD (0 + a.toNat) (.dead ())) fun d =>
 .ck (decide ((c.length + d.length) * 8 < lim)) <|
 B88_1 (c ++ d) b (w64 (a + 1)))
 (.ret [sl false ⟨1,false⟩ c] [])
theorem eH88_1 {a b : List TV} {c : Int} {r : Res} (h : S cx 88 (NH88_1 a b c) = some r) : S cx 88 (H88_1 a b c) = some r :=
 hw_of (fun call hd hb pt rg => by kernel_rfl) h
noncomputable def EH89_0 (a : List TV) (b c : Int) : Env := [w3 a, w6 b, .un, .un, .un, .un, .un, w3 a, w8 a, w6 c] ++ uns 13
noncomputable abbrev H89_0 (a : List TV) (b c : Int) : Nd := .head [1, 0, 1, 2] (EH89_0 a b c)
noncomputable abbrev B89_0 (a : List TV) (b c : Int) : Nd := .back [1, 0, 1, 2] (EH89_0 a b c)
noncomputable def N89 (a : List TV) (b : Int) : Nd :=
 H89_0 a b 0
theorem e89 {a : List TV} {b : Int} {r : Res} (h : S cx 89 (N89 a b) = some r) : tw cx 89 [sl true ⟨1,false⟩ a, i64 b] = some r :=
 tw_of (fun call hd hb pt rg => by kernel_rfl) h
noncomputable def NH89_0 (a : List TV) (c b : Int) : Nd :=
 .bif (decide (b < ((a.length : Nat) : Int)))
 (.ck (decide ((0 : Int) ≤ b) && decide (b < ((a.length : Nat) : Int))) <|
 .int .i64 (a.getD (0 + b.toNat) (.dead ())) fun d =>
 C80 d 0 65535 fun f =>
 .bif ((!f))
 (.ret [tb false] [])
 (B89_0 a c (w64 (b + 1))))
 (.ret [tb (((a.length : Nat) : Int) == c)] [])
theorem eH89_0 {a : List TV} {b c : Int} {r : Res} (h : S cx 89 (NH89_0 a b c) = some r) : S cx 89 (H89_0 a b c) = some r :=
 hw_of (fun call hd hb pt rg => by kernel_rfl) h
noncomputable def EH90_0 (a : List TV) (b : Int) (c d : List TV) (f g : List TV) (h i : List TV) (j : Int) : Env := [.un, .un, w0 a b, w1 c d f, w14, .val [] (.pt false () (.st [.st [sl false ⟨1,false⟩ (List.replicate 8 (i64 0)), sl false ⟨1,false⟩ g, sl false ⟨1,false⟩ h], i64 0, i64 0, sl false ⟨1,false⟩ i, i64 (-1), i64 0])), w6 j] ++ uns 41
noncomputable abbrev H90_0 (a : List TV) (b : Int) (c d : List TV) (f g : List TV) (h i : List TV) (j : Int) : Nd := .head [1, 1, 1, 0, 1, 2] (EH90_0 a b c d f g h i j)
noncomputable abbrev B90_0 (a : List TV) (b : Int) (c d : List TV) (f g : List TV) (h i : List TV) (j : Int) : Nd := .back [1, 1, 1, 0, 1, 2] (EH90_0 a b c d f g h i j)
noncomputable def N90 (d : List TV) (f : Int) (a b c : List TV) : Nd :=
 C52 a b c fun i g h =>
 H90_0 d f a b c g h ([]) 0
theorem e90 {a : List TV} {b : Int} {c d f : List TV} {r : Res} (h : S cx 90 (N90 a b c d f) = some r) : tw cx 90 [.st [sl true ⟨6,true⟩ a, i64 b], .st [sl true ⟨1,false⟩ c, sl true ⟨1,false⟩ d, sl true ⟨1,false⟩ f]] = some r :=
 tw_of (fun call hd hb pt rg => by kernel_rfl) h
noncomputable def NH90_0 (h : List TV) (d : Int) (c i : List TV) (j f : List TV) (g b : List TV) (a : Int) : Nd :=
 .bif (decide (a < d))
 (.bif (decide (a < 8))
 (.ck (decide ((0 : Int) ≤ a) && decide (a < ((c.length : Nat) : Int))) <|
 .int .i64 (c.getD (0 + a.toNat) (.dead ())) fun k =>
 .ck (decide ((b.length + ([i64 k] : List TV).length) * 8 < lim)) <|
 B90_0 h d c i j f g (b ++ ([i64 k])) (w64 (a + 1)))
 (.bif (decide (a < 12))
 (.ck (decide ((b.length + ([i64 0] : List TV).length) * 8 < lim)) <|
 B90_0 h d c i j f g (b ++ ([i64 0])) (w64 (a + 1)))
 (.ck (decide ((b.length + ([i64 (-1)] : List TV).length) * 8 < lim)) <|
 B90_0 h d c i j f g (b ++ ([i64 (-1)])) (w64 (a + 1)))))
 (.ret [.st [.st [sl false ⟨1,false⟩ (List.replicate 8 (i64 0)), sl false ⟨1,false⟩ f, sl false ⟨1,false⟩ g], i64 0, i64 0, sl false ⟨1,false⟩ b, i64 (-1), i64 0]] [])
theorem eH90_0 {a : List TV} {b : Int} {c d : List TV} {f g : List TV} {i j : List TV} {k : Int} {r : Res} (h : S cx 90 (NH90_0 a b c d f g i j k) = some r) : S cx 90 (H90_0 a b c d f g i j k) = some r :=
 hw_of (fun call hd hb pt rg => by kernel_rfl) h
noncomputable def N92 (i j : List TV) (d a : Int) (f k b : List TV) : Nd :=
 .bif ((d == 2))
 (.ck (decide ((0 : Int) ≤ a) && decide (a < ((b.length : Nat) : Int))) <|
 .int .i64 (b.getD (0 + a.toNat) (.dead ())) fun c =>
 C133 (c == 0) fun g =>
 .ret [i64 g] [])
 (.bif ((d == 5))
 (.ck (decide ((0 : Int) ≤ a) && decide (a < ((b.length : Nat) : Int))) <|
 .int .i64 (b.getD (0 + a.toNat) (.dead ())) fun c =>
 .bif (decide (c < ((f.length : Nat) : Int)))
 (.ck (decide ((0 : Int) ≤ a) && decide (a < ((b.length : Nat) : Int))) <|
 .int .i64 (b.getD (0 + a.toNat) (.dead ())) fun h =>
 .ret [i64 h] [])
 (.ret [i64 (w64 (((f.length : Nat) : Int) - 1))] []))
 (.ret [i64 0] []))
theorem e92 {a b : List TV} {c d : Int} {f g i : List TV} {r : Res} (h : S cx 92 (N92 a b c d f g i) = some r) : tw cx 92 [.st [sl true ⟨1,false⟩ a, sl true ⟨6,false⟩ b, i64 c, i64 d, sl true ⟨1,false⟩ f, sl true ⟨1,true⟩ g], sl true ⟨1,false⟩ i] = some r :=
 tw_of (fun call hd hb pt rg => by kernel_rfl) h
noncomputable def N93 (a b : List TV) (c d : Int) (f g : List TV) : Nd :=
 C48 a fun h =>
 C134 b fun i =>
 C48 f fun j =>
 C135 g fun k =>
 .ret [.st [sl false ⟨1,false⟩ h, sl false ⟨6,false⟩ i, i64 c, i64 d, sl false ⟨1,false⟩ j, sl false ⟨1,true⟩ k]] []
theorem e93 {a b : List TV} {c d : Int} {f g : List TV} {r : Res} (h : S cx 93 (N93 a b c d f g) = some r) : tw cx 93 [.st [sl true ⟨1,false⟩ a, sl true ⟨6,false⟩ b, i64 c, i64 d, sl true ⟨1,false⟩ f, sl true ⟨1,true⟩ g]] = some r :=
 tw_of (fun call hd hb pt rg => by kernel_rfl) h
end Go.Tree.Q
