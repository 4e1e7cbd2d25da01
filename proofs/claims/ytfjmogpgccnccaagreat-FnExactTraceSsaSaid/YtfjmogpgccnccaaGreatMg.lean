/- The functions that mark, told as points of a program. Conditions: none. -/
import Derived.Test.YtfjmogpgccnccaaGreatMt3
import Derived.Test.YtfjmogpgccnccaaGreatProg
import Derived.KernelRfl
/- Trees of values: what is told of the functions, and words for views and calls. -/
namespace Go.Tree.G
open Go.Proofs
set_option linter.unusedVariables false
set_option maxRecDepth 20000
abbrev i64 (n : Int) : TV := .fl (.int .i64 n)
abbrev tb (b : Bool) : TV := .fl (.bool b)
abbrev tnil : TV := .fl (.pointer none)
abbrev sl (r : Bool) (k : Ek) (xs : List TV) : TV := .sl r k () xs
abbrev w64 (n : Int) : Int := IntKind.i64.wrap n
abbrev uns (n : Nat) : Env := List.replicate n .un
/-- A table. -/
def tab {β : Type} (d : β) : List (Nat × β) → Nat → β
 | [], _ => d
 | (k, v) :: l, n => bif Nat.beq k n then v else tab d l n
/-- What the evaluator is told of the functions: who writes what, what lives where. -/
noncomputable def cx : Ctx where
 P := Tryz.prog
 sig := tab ⟨[], [], [],false⟩ [(20, ⟨[true], [], [],false⟩), (51, ⟨[true], [], [],false⟩), (97, ⟨[true], [], [],false⟩), (98, ⟨[true], [], [],false⟩)]
 given := fun _ => none
 keep := fun f r => tab [] [(20002, [0, 1, 5, 19]), (51002, [0, 1, 5, 55]), (97002, [0, 1, 5, 55]), (98002, [0, 1, 5, 19])] (f * 1000 + r)
 cut := fun f r => tab none [] (f * 1000 + r)
 pol := fun f => ⟨fun s i b => match tab 0 [] ((f * 1000 + s) * 10000000 + i) with | 0 => !b | 1 => b | _ => true, fun t => tab false [] (f * 1000 + t)⟩
 inl := tab false []
theorem call_S {f g : FuncId} {args : List TV} {v : Res} {K : Res → Nd} {X : Option Res} (h : tw cx g args = some v) (e : S cx f (K v) = X) : S cx f (.call g args K) = X := by
 show Option.bind (tw cx g args) _ = X
 rw [h]
 exact e
noncomputable def V6 (t : TV) (K : (List TV) → (List TV) → Int → Int → (List TV) → (List TV) → Nd) : Nd := .st t fun L => .cons L fun TV0 L0 => .slO ⟨1,false⟩ TV0 fun A0 => .cons L0 fun TV1 L1 => .slO ⟨6,false⟩ TV1 fun A1 => .cons L1 fun TV2 L2 => .int .i64 TV2 fun A2 => .cons L2 fun TV3 L3 => .int .i64 TV3 fun A3 => .cons L3 fun TV4 L4 => .slO ⟨1,false⟩ TV4 fun A4 => .cons L4 fun TV5 L5 => .slO ⟨1,true⟩ TV5 fun A5 => .nil L5 <| K A0 A1 A2 A3 A4 A5
theorem V6_S {f : FuncId} {A0 A1 : List TV} {A2 A3 : Int} {A4 A5 : List TV} {K : (List TV) → (List TV) → Int → Int → (List TV) → (List TV) → Nd} : S cx f (V6 (.st [sl false ⟨1,false⟩ A0, sl false ⟨6,false⟩ A1, i64 A2, i64 A3, sl false ⟨1,false⟩ A4, sl false ⟨1,true⟩ A5]) K) = S cx f (K A0 A1 A2 A3 A4 A5) := rfl
noncomputable def V6_1 (t : TV) (K : Int → Int → Int → Int → Int → Int → Nd) : Nd := .st t fun L => .cons L fun TV0 L0 => .int .i64 TV0 fun A0 => .cons L0 fun TV1 L1 => .int .i64 TV1 fun A1 => .cons L1 fun TV2 L2 => .int .i64 TV2 fun A2 => .cons L2 fun TV3 L3 => .int .i64 TV3 fun A3 => .cons L3 fun TV4 L4 => .int .i64 TV4 fun A4 => .cons L4 fun TV5 L5 => .int .i64 TV5 fun A5 => .nil L5 <| K A0 A1 A2 A3 A4 A5
theorem V6_1_S {f : FuncId} {A0 A1 A2 A3 A4 A5 : Int} {K : Int → Int → Int → Int → Int → Int → Nd} : S cx f (V6_1 (.st [i64 A0, i64 A1, i64 A2, i64 A3, i64 A4, i64 A5]) K) = S cx f (K A0 A1 A2 A3 A4 A5) := rfl
noncomputable def C20 (B0 : List TV) (B1 : Int) (K : Int → (List TV) → Nd) : Nd := .call 20 [sl false ⟨1,false⟩ B0, i64 B1] fun R => .cons R.1 fun X0 X1 => .int .i64 X0 fun A0 => .nil X1 <| .cons R.2 fun X2 X3 => .slO ⟨1,false⟩ X2 fun A1 => .nil X3 <| K A0 A1
theorem C20_S {f : FuncId} {B0 : List TV} {B1 A0 : Int} {A1 : List TV} {K : Int → (List TV) → Nd} (h : tw cx 20 [sl false ⟨1,false⟩ B0, i64 B1] = some ([i64 A0], [sl false ⟨1,false⟩ A1])) : S cx f (C20 B0 B1 K) = S cx f (K A0 A1) := call_S h rfl
end Go.Tree.G

/- Trees of values: program points of functions. -/
namespace Go.Tree.G
open Go.Proofs
set_option linter.unusedVariables false
set_option maxRecDepth 20000
noncomputable def EH20_0 (a b : Int) (c : List TV) : Env := [.ref 19 [] none 25 false, .val [] (i64 a), .un, .un, .un, .val [] (i64 b)] ++ uns 13 ++ [.val [] (sl false ⟨1,false⟩ c), .un]
noncomputable abbrev H20_0 (a b : Int) (c : List TV) : Nd := .head [1, 0, 1, 2] (EH20_0 a b c)
noncomputable abbrev B20_0 (a b : Int) (c : List TV) : Nd := .back [1, 0, 1, 2] (EH20_0 a b c)
noncomputable def N20 (a : List TV) (b : Int) : Nd :=
 H20_0 b 0 a
theorem e20 {a : List TV} {b : Int} {r : Res} (h : S cx 20 (N20 a b) = some r) : tw cx 20 [sl false ⟨1,false⟩ a, i64 b] = some r :=
 tw_of (fun call hd hb pt rg => by kernel_rfl) h
noncomputable def NH20_0 (c a : Int) (b : List TV) : Nd :=
 .bif (decide (a < ((b.length : Nat) : Int)))
 (.ck (decide ((0 : Int) ≤ a) && decide (a < ((b.length : Nat) : Int))) <|
 B20_0 (w64 (c + 1)) (w64 (a + 1)) (b.set (0 + a.toNat) (i64 c)))
 (.ret [i64 c] [sl false ⟨1,false⟩ b])
theorem eH20_0 {a b : Int} {c : List TV} {r : Res} (h : S cx 20 (NH20_0 a b c) = some r) : S cx 20 (H20_0 a b c) = some r :=
 hw_of (fun call hd hb pt rg => by kernel_rfl) h
noncomputable def EH51_0 (a b : Int) (c : List TV) : Env := [.ref 55 [] none 32 false, .val [] (i64 a), .un, .un, .un, .val [] (i64 b)] ++ uns 49 ++ [.val [] (sl false ⟨6,true⟩ c), .un]
noncomputable abbrev H51_0 (a b : Int) (c : List TV) : Nd := .head [1, 0, 1, 2] (EH51_0 a b c)
noncomputable abbrev B51_0 (a b : Int) (c : List TV) : Nd := .back [1, 0, 1, 2] (EH51_0 a b c)
noncomputable def N51 (a : List TV) (b : Int) : Nd :=
 H51_0 b 0 a
theorem e51 {a : List TV} {b : Int} {r : Res} (h : S cx 51 (N51 a b) = some r) : tw cx 51 [sl false ⟨6,true⟩ a, i64 b] = some r :=
 tw_of (fun call hd hb pt rg => by kernel_rfl) h
noncomputable def NH51_0 (ak a : Int) (b : List TV) : Nd :=
 .bif (decide (a < ((b.length : Nat) : Int)))
 (.ck (decide ((0 : Int) ≤ a) && decide (a < ((b.length : Nat) : Int))) <|
 V6 (b.getD (0 + a.toNat) (.dead ())) fun bk bl bm bn bo bp =>
 V6 (b.getD (0 + a.toNat) (.dead ())) fun ax bq br bs bt bu =>
 V6 (b.getD (0 + a.toNat) (.dead ())) fun bv f g h i j =>
 .call 20 [sl false ⟨1,false⟩ ax, i64 ak] fun al =>
 .cons al.1 fun ay az =>
 .int .i64 ay fun a0 =>
 .nil az <|
 .cons al.2 fun a1 a2 =>
 .slO ⟨1,false⟩ a1 fun k =>
 .st ((b.set (0 + a.toNat) (.st [.dead (), sl false ⟨6,false⟩ f, i64 g, i64 h, sl false ⟨1,false⟩ i, sl false ⟨1,true⟩ j])).getD (0 + a.toNat) (.dead ())) fun d =>
 .ck (fieldOk cx.P 119 0 d) <|
 .ck (csz (d.getD 0 (.dead ())) == csz (sl false ⟨1,false⟩ k)) <|
 .nil a2 <|
 .ck (decide ((0 : Int) ≤ a) && decide (a < ((((b.set (0 + a.toNat) (.st [.dead (), sl false ⟨6,false⟩ f, i64 g, i64 h, sl false ⟨1,false⟩ i, sl false ⟨1,true⟩ j])).set (0 + a.toNat) (.st (d.set 0 (sl false ⟨1,false⟩ k)))).length : Nat) : Int))) <|
 V6 (((b.set (0 + a.toNat) (.st [.dead (), sl false ⟨6,false⟩ f, i64 g, i64 h, sl false ⟨1,false⟩ i, sl false ⟨1,true⟩ j])).set (0 + a.toNat) (.st (d.set 0 (sl false ⟨1,false⟩ k)))).getD (0 + a.toNat) (.dead ())) fun bw bx bz b0 b1 b2 =>
 V6 (((b.set (0 + a.toNat) (.st [.dead (), sl false ⟨6,false⟩ f, i64 g, i64 h, sl false ⟨1,false⟩ i, sl false ⟨1,true⟩ j])).set (0 + a.toNat) (.st (d.set 0 (sl false ⟨1,false⟩ k)))).getD (0 + a.toNat) (.dead ())) fun b3 a3 b4 b5 b6 b7 =>
 V6 (((b.set (0 + a.toNat) (.st [.dead (), sl false ⟨6,false⟩ f, i64 g, i64 h, sl false ⟨1,false⟩ i, sl false ⟨1,true⟩ j])).set (0 + a.toNat) (.st (d.set 0 (sl false ⟨1,false⟩ k)))).getD (0 + a.toNat) (.dead ())) fun m b8 n o p q =>
 .call 97 [sl false ⟨6,false⟩ a3, i64 a0] fun am =>
 .cons am.1 fun a4 a5 =>
 .int .i64 a4 fun c =>
 .nil a5 <|
 .cons am.2 fun a6 a7 =>
 .slO ⟨6,false⟩ a6 fun r =>
 .st ((((b.set (0 + a.toNat) (.st [.dead (), sl false ⟨6,false⟩ f, i64 g, i64 h, sl false ⟨1,false⟩ i, sl false ⟨1,true⟩ j])).set (0 + a.toNat) (.st (d.set 0 (sl false ⟨1,false⟩ k)))).set (0 + a.toNat) (.st [sl false ⟨1,false⟩ m, .dead (), i64 n, i64 o, sl false ⟨1,false⟩ p, sl false ⟨1,true⟩ q])).getD (0 + a.toNat) (.dead ())) fun l =>
 .ck (fieldOk cx.P 119 1 l) <|
 .ck (csz (l.getD 1 (.dead ())) == csz (sl false ⟨6,false⟩ r)) <|
 .nil a7 <|
 .ck (decide ((0 : Int) ≤ a) && decide (a < ((((((b.set (0 + a.toNat) (.st [.dead (), sl false ⟨6,false⟩ f, i64 g, i64 h, sl false ⟨1,false⟩ i, sl false ⟨1,true⟩ j])).set (0 + a.toNat) (.st (d.set 0 (sl false ⟨1,false⟩ k)))).set (0 + a.toNat) (.st [sl false ⟨1,false⟩ m, .dead (), i64 n, i64 o, sl false ⟨1,false⟩ p, sl false ⟨1,true⟩ q])).set (0 + a.toNat) (.st (l.set 1 (sl false ⟨6,false⟩ r)))).length : Nat) : Int))) <|
 V6 (((((b.set (0 + a.toNat) (.st [.dead (), sl false ⟨6,false⟩ f, i64 g, i64 h, sl false ⟨1,false⟩ i, sl false ⟨1,true⟩ j])).set (0 + a.toNat) (.st (d.set 0 (sl false ⟨1,false⟩ k)))).set (0 + a.toNat) (.st [sl false ⟨1,false⟩ m, .dead (), i64 n, i64 o, sl false ⟨1,false⟩ p, sl false ⟨1,true⟩ q])).set (0 + a.toNat) (.st (l.set 1 (sl false ⟨6,false⟩ r)))).getD (0 + a.toNat) (.dead ())) fun s t b9 u v w =>
 .ck (decide ((0 : Int) ≤ a) && decide (a < (((((((b.set (0 + a.toNat) (.st [.dead (), sl false ⟨6,false⟩ f, i64 g, i64 h, sl false ⟨1,false⟩ i, sl false ⟨1,true⟩ j])).set (0 + a.toNat) (.st (d.set 0 (sl false ⟨1,false⟩ k)))).set (0 + a.toNat) (.st [sl false ⟨1,false⟩ m, .dead (), i64 n, i64 o, sl false ⟨1,false⟩ p, sl false ⟨1,true⟩ q])).set (0 + a.toNat) (.st (l.set 1 (sl false ⟨6,false⟩ r)))).set (0 + a.toNat) (.st [sl false ⟨1,false⟩ s, sl false ⟨6,false⟩ t, i64 c, i64 u, sl false ⟨1,false⟩ v, sl false ⟨1,true⟩ w])).length : Nat) : Int))) <|
 V6 ((((((b.set (0 + a.toNat) (.st [.dead (), sl false ⟨6,false⟩ f, i64 g, i64 h, sl false ⟨1,false⟩ i, sl false ⟨1,true⟩ j])).set (0 + a.toNat) (.st (d.set 0 (sl false ⟨1,false⟩ k)))).set (0 + a.toNat) (.st [sl false ⟨1,false⟩ m, .dead (), i64 n, i64 o, sl false ⟨1,false⟩ p, sl false ⟨1,true⟩ q])).set (0 + a.toNat) (.st (l.set 1 (sl false ⟨6,false⟩ r)))).set (0 + a.toNat) (.st [sl false ⟨1,false⟩ s, sl false ⟨6,false⟩ t, i64 c, i64 u, sl false ⟨1,false⟩ v, sl false ⟨1,true⟩ w])).getD (0 + a.toNat) (.dead ())) fun x y z ca aa ab =>
 .ck (decide ((0 : Int) ≤ a) && decide (a < ((((((((b.set (0 + a.toNat) (.st [.dead (), sl false ⟨6,false⟩ f, i64 g, i64 h, sl false ⟨1,false⟩ i, sl false ⟨1,true⟩ j])).set (0 + a.toNat) (.st (d.set 0 (sl false ⟨1,false⟩ k)))).set (0 + a.toNat) (.st [sl false ⟨1,false⟩ m, .dead (), i64 n, i64 o, sl false ⟨1,false⟩ p, sl false ⟨1,true⟩ q])).set (0 + a.toNat) (.st (l.set 1 (sl false ⟨6,false⟩ r)))).set (0 + a.toNat) (.st [sl false ⟨1,false⟩ s, sl false ⟨6,false⟩ t, i64 c, i64 u, sl false ⟨1,false⟩ v, sl false ⟨1,true⟩ w])).set (0 + a.toNat) (.st [sl false ⟨1,false⟩ x, sl false ⟨6,false⟩ y, i64 z, i64 (w64 (c + 1)), sl false ⟨1,false⟩ aa, sl false ⟨1,true⟩ ab])).length : Nat) : Int))) <|
 V6 (((((((b.set (0 + a.toNat) (.st [.dead (), sl false ⟨6,false⟩ f, i64 g, i64 h, sl false ⟨1,false⟩ i, sl false ⟨1,true⟩ j])).set (0 + a.toNat) (.st (d.set 0 (sl false ⟨1,false⟩ k)))).set (0 + a.toNat) (.st [sl false ⟨1,false⟩ m, .dead (), i64 n, i64 o, sl false ⟨1,false⟩ p, sl false ⟨1,true⟩ q])).set (0 + a.toNat) (.st (l.set 1 (sl false ⟨6,false⟩ r)))).set (0 + a.toNat) (.st [sl false ⟨1,false⟩ s, sl false ⟨6,false⟩ t, i64 c, i64 u, sl false ⟨1,false⟩ v, sl false ⟨1,true⟩ w])).set (0 + a.toNat) (.st [sl false ⟨1,false⟩ x, sl false ⟨6,false⟩ y, i64 z, i64 (w64 (c + 1)), sl false ⟨1,false⟩ aa, sl false ⟨1,true⟩ ab])).getD (0 + a.toNat) (.dead ())) fun cb cc cd ce cf cg =>
 V6 (((((((b.set (0 + a.toNat) (.st [.dead (), sl false ⟨6,false⟩ f, i64 g, i64 h, sl false ⟨1,false⟩ i, sl false ⟨1,true⟩ j])).set (0 + a.toNat) (.st (d.set 0 (sl false ⟨1,false⟩ k)))).set (0 + a.toNat) (.st [sl false ⟨1,false⟩ m, .dead (), i64 n, i64 o, sl false ⟨1,false⟩ p, sl false ⟨1,true⟩ q])).set (0 + a.toNat) (.st (l.set 1 (sl false ⟨6,false⟩ r)))).set (0 + a.toNat) (.st [sl false ⟨1,false⟩ s, sl false ⟨6,false⟩ t, i64 c, i64 u, sl false ⟨1,false⟩ v, sl false ⟨1,true⟩ w])).set (0 + a.toNat) (.st [sl false ⟨1,false⟩ x, sl false ⟨6,false⟩ y, i64 z, i64 (w64 (c + 1)), sl false ⟨1,false⟩ aa, sl false ⟨1,true⟩ ab])).getD (0 + a.toNat) (.dead ())) fun ch ci cj cm a8 cn =>
 V6 (((((((b.set (0 + a.toNat) (.st [.dead (), sl false ⟨6,false⟩ f, i64 g, i64 h, sl false ⟨1,false⟩ i, sl false ⟨1,true⟩ j])).set (0 + a.toNat) (.st (d.set 0 (sl false ⟨1,false⟩ k)))).set (0 + a.toNat) (.st [sl false ⟨1,false⟩ m, .dead (), i64 n, i64 o, sl false ⟨1,false⟩ p, sl false ⟨1,true⟩ q])).set (0 + a.toNat) (.st (l.set 1 (sl false ⟨6,false⟩ r)))).set (0 + a.toNat) (.st [sl false ⟨1,false⟩ s, sl false ⟨6,false⟩ t, i64 c, i64 u, sl false ⟨1,false⟩ v, sl false ⟨1,true⟩ w])).set (0 + a.toNat) (.st [sl false ⟨1,false⟩ x, sl false ⟨6,false⟩ y, i64 z, i64 (w64 (c + 1)), sl false ⟨1,false⟩ aa, sl false ⟨1,true⟩ ab])).getD (0 + a.toNat) (.dead ())) fun ad ae af ag co ah =>
 .call 20 [sl false ⟨1,false⟩ a8, i64 (w64 ((w64 (c + 1)) + 1))] fun an =>
 .cons an.1 fun a9 ba =>
 .int .i64 a9 fun bb =>
 .nil ba <|
 .cons an.2 fun bc bd =>
 .slO ⟨1,false⟩ bc fun ai =>
 .st ((((((((b.set (0 + a.toNat) (.st [.dead (), sl false ⟨6,false⟩ f, i64 g, i64 h, sl false ⟨1,false⟩ i, sl false ⟨1,true⟩ j])).set (0 + a.toNat) (.st (d.set 0 (sl false ⟨1,false⟩ k)))).set (0 + a.toNat) (.st [sl false ⟨1,false⟩ m, .dead (), i64 n, i64 o, sl false ⟨1,false⟩ p, sl false ⟨1,true⟩ q])).set (0 + a.toNat) (.st (l.set 1 (sl false ⟨6,false⟩ r)))).set (0 + a.toNat) (.st [sl false ⟨1,false⟩ s, sl false ⟨6,false⟩ t, i64 c, i64 u, sl false ⟨1,false⟩ v, sl false ⟨1,true⟩ w])).set (0 + a.toNat) (.st [sl false ⟨1,false⟩ x, sl false ⟨6,false⟩ y, i64 z, i64 (w64 (c + 1)), sl false ⟨1,false⟩ aa, sl false ⟨1,true⟩ ab])).set (0 + a.toNat) (.st [sl false ⟨1,false⟩ ad, sl false ⟨6,false⟩ ae, i64 af, i64 ag, .dead (), sl false ⟨1,true⟩ ah])).getD (0 + a.toNat) (.dead ())) fun ac =>
 .ck (fieldOk cx.P 119 4 ac) <|
 .ck (csz (ac.getD 4 (.dead ())) == csz (sl false ⟨1,false⟩ ai)) <|
 .nil bd <|
 .ck (decide ((0 : Int) ≤ a) && decide (a < ((((((((((b.set (0 + a.toNat) (.st [.dead (), sl false ⟨6,false⟩ f, i64 g, i64 h, sl false ⟨1,false⟩ i, sl false ⟨1,true⟩ j])).set (0 + a.toNat) (.st (d.set 0 (sl false ⟨1,false⟩ k)))).set (0 + a.toNat) (.st [sl false ⟨1,false⟩ m, .dead (), i64 n, i64 o, sl false ⟨1,false⟩ p, sl false ⟨1,true⟩ q])).set (0 + a.toNat) (.st (l.set 1 (sl false ⟨6,false⟩ r)))).set (0 + a.toNat) (.st [sl false ⟨1,false⟩ s, sl false ⟨6,false⟩ t, i64 c, i64 u, sl false ⟨1,false⟩ v, sl false ⟨1,true⟩ w])).set (0 + a.toNat) (.st [sl false ⟨1,false⟩ x, sl false ⟨6,false⟩ y, i64 z, i64 (w64 (c + 1)), sl false ⟨1,false⟩ aa, sl false ⟨1,true⟩ ab])).set (0 + a.toNat) (.st [sl false ⟨1,false⟩ ad, sl false ⟨6,false⟩ ae, i64 af, i64 ag, .dead (), sl false ⟨1,true⟩ ah])).set (0 + a.toNat) (.st (ac.set 4 (sl false ⟨1,false⟩ ai)))).length : Nat) : Int))) <|
 V6 (((((((((b.set (0 + a.toNat) (.st [.dead (), sl false ⟨6,false⟩ f, i64 g, i64 h, sl false ⟨1,false⟩ i, sl false ⟨1,true⟩ j])).set (0 + a.toNat) (.st (d.set 0 (sl false ⟨1,false⟩ k)))).set (0 + a.toNat) (.st [sl false ⟨1,false⟩ m, .dead (), i64 n, i64 o, sl false ⟨1,false⟩ p, sl false ⟨1,true⟩ q])).set (0 + a.toNat) (.st (l.set 1 (sl false ⟨6,false⟩ r)))).set (0 + a.toNat) (.st [sl false ⟨1,false⟩ s, sl false ⟨6,false⟩ t, i64 c, i64 u, sl false ⟨1,false⟩ v, sl false ⟨1,true⟩ w])).set (0 + a.toNat) (.st [sl false ⟨1,false⟩ x, sl false ⟨6,false⟩ y, i64 z, i64 (w64 (c + 1)), sl false ⟨1,false⟩ aa, sl false ⟨1,true⟩ ab])).set (0 + a.toNat) (.st [sl false ⟨1,false⟩ ad, sl false ⟨6,false⟩ ae, i64 af, i64 ag, .dead (), sl false ⟨1,true⟩ ah])).set (0 + a.toNat) (.st (ac.set 4 (sl false ⟨1,false⟩ ai)))).getD (0 + a.toNat) (.dead ())) fun cp cq cr cs ct cu =>
 V6 (((((((((b.set (0 + a.toNat) (.st [.dead (), sl false ⟨6,false⟩ f, i64 g, i64 h, sl false ⟨1,false⟩ i, sl false ⟨1,true⟩ j])).set (0 + a.toNat) (.st (d.set 0 (sl false ⟨1,false⟩ k)))).set (0 + a.toNat) (.st [sl false ⟨1,false⟩ m, .dead (), i64 n, i64 o, sl false ⟨1,false⟩ p, sl false ⟨1,true⟩ q])).set (0 + a.toNat) (.st (l.set 1 (sl false ⟨6,false⟩ r)))).set (0 + a.toNat) (.st [sl false ⟨1,false⟩ s, sl false ⟨6,false⟩ t, i64 c, i64 u, sl false ⟨1,false⟩ v, sl false ⟨1,true⟩ w])).set (0 + a.toNat) (.st [sl false ⟨1,false⟩ x, sl false ⟨6,false⟩ y, i64 z, i64 (w64 (c + 1)), sl false ⟨1,false⟩ aa, sl false ⟨1,true⟩ ab])).set (0 + a.toNat) (.st [sl false ⟨1,false⟩ ad, sl false ⟨6,false⟩ ae, i64 af, i64 ag, .dead (), sl false ⟨1,true⟩ ah])).set (0 + a.toNat) (.st (ac.set 4 (sl false ⟨1,false⟩ ai)))).getD (0 + a.toNat) (.dead ())) fun cv cw cy cz c0 be =>
 V6 (((((((((b.set (0 + a.toNat) (.st [.dead (), sl false ⟨6,false⟩ f, i64 g, i64 h, sl false ⟨1,false⟩ i, sl false ⟨1,true⟩ j])).set (0 + a.toNat) (.st (d.set 0 (sl false ⟨1,false⟩ k)))).set (0 + a.toNat) (.st [sl false ⟨1,false⟩ m, .dead (), i64 n, i64 o, sl false ⟨1,false⟩ p, sl false ⟨1,true⟩ q])).set (0 + a.toNat) (.st (l.set 1 (sl false ⟨6,false⟩ r)))).set (0 + a.toNat) (.st [sl false ⟨1,false⟩ s, sl false ⟨6,false⟩ t, i64 c, i64 u, sl false ⟨1,false⟩ v, sl false ⟨1,true⟩ w])).set (0 + a.toNat) (.st [sl false ⟨1,false⟩ x, sl false ⟨6,false⟩ y, i64 z, i64 (w64 (c + 1)), sl false ⟨1,false⟩ aa, sl false ⟨1,true⟩ ab])).set (0 + a.toNat) (.st [sl false ⟨1,false⟩ ad, sl false ⟨6,false⟩ ae, i64 af, i64 ag, .dead (), sl false ⟨1,true⟩ ah])).set (0 + a.toNat) (.st (ac.set 4 (sl false ⟨1,false⟩ ai)))).getD (0 + a.toNat) (.dead ())) fun ao ap aq ar au c1 =>
 .call 98 [sl false ⟨1,true⟩ be, i64 bb] fun av =>
 .cons av.1 fun bf bg =>
 .int .i64 bf fun bh =>
 .nil bg <|
 .cons av.2 fun bi bj =>
 .slO ⟨1,true⟩ bi fun aw =>
 .st ((((((((((b.set (0 + a.toNat) (.st [.dead (), sl false ⟨6,false⟩ f, i64 g, i64 h, sl false ⟨1,false⟩ i, sl false ⟨1,true⟩ j])).set (0 + a.toNat) (.st (d.set 0 (sl false ⟨1,false⟩ k)))).set (0 + a.toNat) (.st [sl false ⟨1,false⟩ m, .dead (), i64 n, i64 o, sl false ⟨1,false⟩ p, sl false ⟨1,true⟩ q])).set (0 + a.toNat) (.st (l.set 1 (sl false ⟨6,false⟩ r)))).set (0 + a.toNat) (.st [sl false ⟨1,false⟩ s, sl false ⟨6,false⟩ t, i64 c, i64 u, sl false ⟨1,false⟩ v, sl false ⟨1,true⟩ w])).set (0 + a.toNat) (.st [sl false ⟨1,false⟩ x, sl false ⟨6,false⟩ y, i64 z, i64 (w64 (c + 1)), sl false ⟨1,false⟩ aa, sl false ⟨1,true⟩ ab])).set (0 + a.toNat) (.st [sl false ⟨1,false⟩ ad, sl false ⟨6,false⟩ ae, i64 af, i64 ag, .dead (), sl false ⟨1,true⟩ ah])).set (0 + a.toNat) (.st (ac.set 4 (sl false ⟨1,false⟩ ai)))).set (0 + a.toNat) (.st [sl false ⟨1,false⟩ ao, sl false ⟨6,false⟩ ap, i64 aq, i64 ar, sl false ⟨1,false⟩ au, .dead ()])).getD (0 + a.toNat) (.dead ())) fun aj =>
 .ck (fieldOk cx.P 119 5 aj) <|
 .ck (csz (aj.getD 5 (.dead ())) == csz (sl false ⟨1,true⟩ aw)) <|
 .nil bj <|
 B51_0 bh (w64 (a + 1)) ((((((((((b.set (0 + a.toNat) (.st [.dead (), sl false ⟨6,false⟩ f, i64 g, i64 h, sl false ⟨1,false⟩ i, sl false ⟨1,true⟩ j])).set (0 + a.toNat) (.st (d.set 0 (sl false ⟨1,false⟩ k)))).set (0 + a.toNat) (.st [sl false ⟨1,false⟩ m, .dead (), i64 n, i64 o, sl false ⟨1,false⟩ p, sl false ⟨1,true⟩ q])).set (0 + a.toNat) (.st (l.set 1 (sl false ⟨6,false⟩ r)))).set (0 + a.toNat) (.st [sl false ⟨1,false⟩ s, sl false ⟨6,false⟩ t, i64 c, i64 u, sl false ⟨1,false⟩ v, sl false ⟨1,true⟩ w])).set (0 + a.toNat) (.st [sl false ⟨1,false⟩ x, sl false ⟨6,false⟩ y, i64 z, i64 (w64 (c + 1)), sl false ⟨1,false⟩ aa, sl false ⟨1,true⟩ ab])).set (0 + a.toNat) (.st [sl false ⟨1,false⟩ ad, sl false ⟨6,false⟩ ae, i64 af, i64 ag, .dead (), sl false ⟨1,true⟩ ah])).set (0 + a.toNat) (.st (ac.set 4 (sl false ⟨1,false⟩ ai)))).set (0 + a.toNat) (.st [sl false ⟨1,false⟩ ao, sl false ⟨6,false⟩ ap, i64 aq, i64 ar, sl false ⟨1,false⟩ au, .dead ()])).set (0 + a.toNat) (.st (aj.set 5 (sl false ⟨1,true⟩ aw)))))
 (.ret [i64 ak] [sl false ⟨6,true⟩ b])
theorem eH51_0 {a b : Int} {c : List TV} {r : Res} (h : S cx 51 (NH51_0 a b c) = some r) : S cx 51 (H51_0 a b c) = some r :=
 hw_of (fun call hd hb pt rg => by kernel_rfl) h
noncomputable def EH97_0 (a b : Int) (c : List TV) : Env := [.ref 55 [] none 91 false, .val [] (i64 a), .un, .un, .un, .val [] (i64 b)] ++ uns 49 ++ [.val [] (sl false ⟨6,false⟩ c), .un]
noncomputable abbrev H97_0 (a b : Int) (c : List TV) : Nd := .head [1, 0, 1, 2] (EH97_0 a b c)
noncomputable abbrev B97_0 (a b : Int) (c : List TV) : Nd := .back [1, 0, 1, 2] (EH97_0 a b c)
noncomputable def N97 (a : List TV) (b : Int) : Nd :=
 H97_0 b 0 a
theorem e97 {a : List TV} {b : Int} {r : Res} (h : S cx 97 (N97 a b) = some r) : tw cx 97 [sl false ⟨6,false⟩ a, i64 b] = some r :=
 tw_of (fun call hd hb pt rg => by kernel_rfl) h
noncomputable def NH97_0 (b a : Int) (c : List TV) : Nd :=
 .bif (decide (a < ((c.length : Nat) : Int)))
 (.ck (decide ((0 : Int) ≤ a) && decide (a < ((c.length : Nat) : Int))) <|
 V6_1 (c.getD (0 + a.toNat) (.dead ())) fun ai d f g h i =>
 .ck (decide ((0 : Int) ≤ a) && decide (a < (((c.set (0 + a.toNat) (.st [i64 b, i64 d, i64 f, i64 g, i64 h, i64 i])).length : Nat) : Int))) <|
 V6_1 ((c.set (0 + a.toNat) (.st [i64 b, i64 d, i64 f, i64 g, i64 h, i64 i])).getD (0 + a.toNat) (.dead ())) fun j aj k l m n =>
 .ck (decide ((0 : Int) ≤ a) && decide (a < ((((c.set (0 + a.toNat) (.st [i64 b, i64 d, i64 f, i64 g, i64 h, i64 i])).set (0 + a.toNat) (.st [i64 j, i64 (w64 (b + 1)), i64 k, i64 l, i64 m, i64 n])).length : Nat) : Int))) <|
 V6_1 (((c.set (0 + a.toNat) (.st [i64 b, i64 d, i64 f, i64 g, i64 h, i64 i])).set (0 + a.toNat) (.st [i64 j, i64 (w64 (b + 1)), i64 k, i64 l, i64 m, i64 n])).getD (0 + a.toNat) (.dead ())) fun o p ak q r s =>
 .ck (decide ((0 : Int) ≤ a) && decide (a < (((((c.set (0 + a.toNat) (.st [i64 b, i64 d, i64 f, i64 g, i64 h, i64 i])).set (0 + a.toNat) (.st [i64 j, i64 (w64 (b + 1)), i64 k, i64 l, i64 m, i64 n])).set (0 + a.toNat) (.st [i64 o, i64 p, i64 (w64 ((w64 (b + 1)) + 1)), i64 q, i64 r, i64 s])).length : Nat) : Int))) <|
 V6_1 ((((c.set (0 + a.toNat) (.st [i64 b, i64 d, i64 f, i64 g, i64 h, i64 i])).set (0 + a.toNat) (.st [i64 j, i64 (w64 (b + 1)), i64 k, i64 l, i64 m, i64 n])).set (0 + a.toNat) (.st [i64 o, i64 p, i64 (w64 ((w64 (b + 1)) + 1)), i64 q, i64 r, i64 s])).getD (0 + a.toNat) (.dead ())) fun t u v al w x =>
 .ck (decide ((0 : Int) ≤ a) && decide (a < ((((((c.set (0 + a.toNat) (.st [i64 b, i64 d, i64 f, i64 g, i64 h, i64 i])).set (0 + a.toNat) (.st [i64 j, i64 (w64 (b + 1)), i64 k, i64 l, i64 m, i64 n])).set (0 + a.toNat) (.st [i64 o, i64 p, i64 (w64 ((w64 (b + 1)) + 1)), i64 q, i64 r, i64 s])).set (0 + a.toNat) (.st [i64 t, i64 u, i64 v, i64 (w64 ((w64 ((w64 (b + 1)) + 1)) + 1)), i64 w, i64 x])).length : Nat) : Int))) <|
 V6_1 (((((c.set (0 + a.toNat) (.st [i64 b, i64 d, i64 f, i64 g, i64 h, i64 i])).set (0 + a.toNat) (.st [i64 j, i64 (w64 (b + 1)), i64 k, i64 l, i64 m, i64 n])).set (0 + a.toNat) (.st [i64 o, i64 p, i64 (w64 ((w64 (b + 1)) + 1)), i64 q, i64 r, i64 s])).set (0 + a.toNat) (.st [i64 t, i64 u, i64 v, i64 (w64 ((w64 ((w64 (b + 1)) + 1)) + 1)), i64 w, i64 x])).getD (0 + a.toNat) (.dead ())) fun y z aa ab am ac =>
 .ck (decide ((0 : Int) ≤ a) && decide (a < (((((((c.set (0 + a.toNat) (.st [i64 b, i64 d, i64 f, i64 g, i64 h, i64 i])).set (0 + a.toNat) (.st [i64 j, i64 (w64 (b + 1)), i64 k, i64 l, i64 m, i64 n])).set (0 + a.toNat) (.st [i64 o, i64 p, i64 (w64 ((w64 (b + 1)) + 1)), i64 q, i64 r, i64 s])).set (0 + a.toNat) (.st [i64 t, i64 u, i64 v, i64 (w64 ((w64 ((w64 (b + 1)) + 1)) + 1)), i64 w, i64 x])).set (0 + a.toNat) (.st [i64 y, i64 z, i64 aa, i64 ab, i64 (w64 ((w64 ((w64 ((w64 (b + 1)) + 1)) + 1)) + 1)), i64 ac])).length : Nat) : Int))) <|
 V6_1 ((((((c.set (0 + a.toNat) (.st [i64 b, i64 d, i64 f, i64 g, i64 h, i64 i])).set (0 + a.toNat) (.st [i64 j, i64 (w64 (b + 1)), i64 k, i64 l, i64 m, i64 n])).set (0 + a.toNat) (.st [i64 o, i64 p, i64 (w64 ((w64 (b + 1)) + 1)), i64 q, i64 r, i64 s])).set (0 + a.toNat) (.st [i64 t, i64 u, i64 v, i64 (w64 ((w64 ((w64 (b + 1)) + 1)) + 1)), i64 w, i64 x])).set (0 + a.toNat) (.st [i64 y, i64 z, i64 aa, i64 ab, i64 (w64 ((w64 ((w64 ((w64 (b + 1)) + 1)) + 1)) + 1)), i64 ac])).getD (0 + a.toNat) (.dead ())) fun ad ae af ag ah an =>
 B97_0 (w64 ((w64 ((w64 ((w64 ((w64 ((w64 (b + 1)) + 1)) + 1)) + 1)) + 1)) + 1)) (w64 (a + 1)) ((((((c.set (0 + a.toNat) (.st [i64 b, i64 d, i64 f, i64 g, i64 h, i64 i])).set (0 + a.toNat) (.st [i64 j, i64 (w64 (b + 1)), i64 k, i64 l, i64 m, i64 n])).set (0 + a.toNat) (.st [i64 o, i64 p, i64 (w64 ((w64 (b + 1)) + 1)), i64 q, i64 r, i64 s])).set (0 + a.toNat) (.st [i64 t, i64 u, i64 v, i64 (w64 ((w64 ((w64 (b + 1)) + 1)) + 1)), i64 w, i64 x])).set (0 + a.toNat) (.st [i64 y, i64 z, i64 aa, i64 ab, i64 (w64 ((w64 ((w64 ((w64 (b + 1)) + 1)) + 1)) + 1)), i64 ac])).set (0 + a.toNat) (.st [i64 ad, i64 ae, i64 af, i64 ag, i64 ah, i64 (w64 ((w64 ((w64 ((w64 ((w64 (b + 1)) + 1)) + 1)) + 1)) + 1))])))
 (.ret [i64 b] [sl false ⟨6,false⟩ c])
theorem eH97_0 {a b : Int} {c : List TV} {r : Res} (h : S cx 97 (NH97_0 a b c) = some r) : S cx 97 (H97_0 a b c) = some r :=
 hw_of (fun call hd hb pt rg => by kernel_rfl) h
noncomputable def EH98_0 (a b : Int) (c : List TV) : Env := [.ref 19 [] none 60 false, .val [] (i64 a), .un, .un, .un, .val [] (i64 b)] ++ uns 13 ++ [.val [] (sl false ⟨1,true⟩ c), .un]
noncomputable abbrev H98_0 (a b : Int) (c : List TV) : Nd := .head [1, 0, 1, 2] (EH98_0 a b c)
noncomputable abbrev B98_0 (a b : Int) (c : List TV) : Nd := .back [1, 0, 1, 2] (EH98_0 a b c)
noncomputable def N98 (a : List TV) (b : Int) : Nd :=
 H98_0 b 0 a
theorem e98 {a : List TV} {b : Int} {r : Res} (h : S cx 98 (N98 a b) = some r) : tw cx 98 [sl false ⟨1,true⟩ a, i64 b] = some r :=
 tw_of (fun call hd hb pt rg => by kernel_rfl) h
noncomputable def NH98_0 (c a : Int) (b : List TV) : Nd :=
 .bif (decide (a < ((b.length : Nat) : Int)))
 (.ck (decide ((0 : Int) ≤ a) && decide (a < ((b.length : Nat) : Int))) <|
 .slO ⟨1,false⟩ (b.getD (0 + a.toNat) (.dead ())) fun h =>
 .slO ⟨1,false⟩ (b.getD (0 + a.toNat) (.dead ())) fun d =>
 C20 d c fun f g =>
 B98_0 f (w64 (a + 1)) ((b.set (0 + a.toNat) (.dead ())).set (0 + a.toNat) (sl false ⟨1,false⟩ g)))
 (.ret [i64 c] [sl false ⟨1,true⟩ b])
theorem eH98_0 {a b : Int} {c : List TV} {r : Res} (h : S cx 98 (NH98_0 a b c) = some r) : S cx 98 (H98_0 a b c) = some r :=
 hw_of (fun call hd hb pt rg => by kernel_rfl) h
end Go.Tree.G
