/- Marks over rows of a state: told by hand. Conditions: none. -/
import Derived.Test.YtfjmogpgccnccaaGreatMt3
import Derived.Test.YtfjmogpgccnccaaGreatProg
import Derived.KernelRfl
import Derived.WalkKit
import Derived.ProofKit
/- Trees of values: what is told of the functions, and words for views and calls. -/
namespace Go.Tree.G
open Go.Proofs
set_option linter.unusedVariables false
set_option maxRecDepth 20000
abbrev i64 (n : Int) : TV := .fl (.int .i64 n)
abbrev tb (b : Bool) : TV := .fl (.bool b)
abbrev tnil : TV := .fl (.pointer none)
abbrev sl (r : Bool) (k : Ek) (xs : List TV) : TV := .sl r k () xs
abbrev w64 (n : Int) : Int := IntKind.i64.wrap n
abbrev uns (n : Nat) : Env := List.replicate n .un
/-- A table. -/
def tab {β : Type} (d : β) : List (Nat × β) → Nat → β
 | [], _ => d
 | (k, v) :: l, n => bif Nat.beq k n then v else tab d l n
/-- What the evaluator is told of the functions: who writes what, what lives where. -/
noncomputable def cx : Ctx where
 P := Tryz.prog
 sig := tab ⟨[], [], [], false⟩ [(20, ⟨[true], [], [], false⟩)]
 given := fun _ => none
 keep := fun f r => tab [] [(20002, [0, 1, 5, 19])] (f * 1000 + r)
 cut := fun f r => tab none [] (f * 1000 + r)
 pol := fun f => ⟨fun s i b => match tab 0 [] ((f * 1000 + s) * 10000000 + i) with | 0 => !b | 1 => b | _ => true, fun t => tab false [] (f * 1000 + t)⟩
 inl := tab false []
theorem call_S {f g : FuncId} {args : List TV} {v : Res} {K : Res → Nd} {X : Option Res} (h : tw cx g args = some v) (e : S cx f (K v) = X) : S cx f (.call g args K) = X := by
 show Option.bind (tw cx g args) _ = X
 rw [h]
 exact e
end Go.Tree.G

/- Trees of values: program points of functions. -/
namespace Go.Tree.G
open Go.Proofs
set_option linter.unusedVariables false
set_option maxRecDepth 20000
noncomputable def EH20_0 (k_0 i_2 : Int) (a_1 : List TV) : Env := [.ref 19 [] none 25 false, .val [] (i64 k_0), .un, .un, .un, .val [] (i64 i_2)] ++ uns 13 ++ [.val [] (sl false ⟨1, false⟩ a_1), .un]
noncomputable abbrev H20_0 (k_0 i_2 : Int) (a_1 : List TV) : Nd := .head [1, 0, 1, 2] (EH20_0 k_0 i_2 a_1)
noncomputable abbrev B20_0 (k_0 i_2 : Int) (a_1 : List TV) : Nd := .back [1, 0, 1, 2] (EH20_0 k_0 i_2 a_1)
noncomputable def N20 (a_0 : List TV) (k_1 : Int) : Nd :=
 H20_0 k_1 0 a_0
theorem e20 {a_0 : List TV} {k_1 : Int} {r : Res} (h : S cx 20 (N20 a_0 k_1) = some r) : tw cx 20 [sl false ⟨1, false⟩ a_0, i64 k_1] = some r :=
 tw_of (fun call hd hb pt rg => by kernel_rfl) h
noncomputable def NH20_0 (k_0 i_2 : Int) (a_1 : List TV) : Nd :=
 .bif (decide (i_2 < ((a_1.length : Nat) : Int)))
 (.ck (decide ((0 : Int) ≤ i_2) && decide (i_2 < ((a_1.length : Nat) : Int))) <|
 B20_0 (w64 (k_0 + 1)) (w64 (i_2 + 1)) (a_1.set (0 + i_2.toNat) (i64 k_0)))
 (.ret [i64 k_0] [sl false ⟨1, false⟩ a_1])
theorem eH20_0 {k_0 i_2 : Int} {a_1 : List TV} {r : Res} (h : S cx 20 (NH20_0 k_0 i_2 a_1) = some r) : S cx 20 (H20_0 k_0 i_2 a_1) = some r :=
 hw_of (fun call hd hb pt rg => by kernel_rfl) h
end Go.Tree.G

/- Marks over rows of a state: a function whose parameter is a struct that is lent, told by hand. -/
namespace Go.Tree.G
open Go.Proofs
set_option linter.unusedVariables false
set_option linter.unusedSimpArgs false
theorem noNG : (Tryz.prog.funcs.all fun fn => !(fn.name == "runtime.NumGoroutine")) = true := by kernel_rfl
theorem noNG' : ∀ (f : FuncId) (fn : Func), Tryz.prog.funcs[f]? = some fn → (fn.name == "runtime.NumGoroutine") = false := fun f fn h => by
  have h0 := noNG
  rw [Array.all_eq_true] at h0
  obtain ⟨hi, rfl⟩ := Array.getElem?_eq_some_iff.1 h
  simpa using h0 f hi
theorem mixed : Tryz.prog.follows .mixedOrders = true := by kernel_rfl
theorem back_of {f : FuncId} {p : List Nat} {e : Env} {X : Option Res} (h : S cx f (.head p e) = X) : S cx f (.back p e) = X := h
theorem w64_id {x : Int} (h0 : -9223372036854775808 ≤ x) (h1 : x < 9223372036854775808) : w64 x = x := by
  show IntKind.i64.wrap x = x
  rw [IntKind.wrap_i64]; omega
def marks (k : Int) (n : Nat) : List TV := (List.range n).map fun (i : Nat) => .fl (.int .i64 (k + (i : Int)))
theorem marks_len (k : Int) (n : Nat) : (marks k n).length = n := by simp [marks]
theorem t20 (xs : List TV) (k : Int) (hk : 0 ≤ k ∧ k ≤ 4611686018427387904) (hb : xs.length ≤ 1073741824) : tw cx 20 [sl false ⟨1, false⟩ xs, i64 k] = some ([i64 (k + xs.length)], [sl false ⟨1, false⟩ (marks k xs.length)]) := by
  have key : ∀ d j : Nat, xs.length - j = d → j ≤ xs.length → S cx 20 (H20_0 (k + j) j (marks k j ++ xs.drop j)) = some ([i64 (k + xs.length)], [sl false ⟨1, false⟩ (marks k xs.length)]) := by
    intro d
    induction d with
    | zero =>
      intro j hd hj
      have : j = xs.length := by omega
      subst this
      rw [List.drop_length, List.append_nil]
      exact eH20_0 (bif_neg (decide_eq_false (by rw [marks_len]; omega)) rfl)
    | succ d ih =>
      intro j hd hj
      have e1 : (marks k j ++ xs.drop j).length = xs.length := by
        rw [List.length_append, marks_len, List.length_drop]; omega
      refine eH20_0 (bif_pos (decide_eq_true (by omega)) (ck_pos (by rw [decide_eq_true (by omega), decide_eq_true (by omega)]; rfl) (back_of ?_)))
      rw [w64_id (by omega) (by omega), w64_id (by omega) (by omega)]
      have e2 : (marks k j ++ xs.drop j).set (0 + (j : Int).toNat) (i64 (k + j)) = marks k (j + 1) ++ xs.drop (j + 1) := by
        rw [show 0 + (j : Int).toNat = j by omega, List.set_append_right _ _ (by rw [marks_len]; exact Nat.le_refl _), marks_len, Nat.sub_self, List.drop_eq_getElem_cons (show j < xs.length by omega), List.set_cons_zero]
        simp [marks, List.range_succ]
      rw [e2, show k + (j : Int) + 1 = k + ((j + 1 : Nat) : Int) by omega, show (j : Int) + 1 = ((j + 1 : Nat) : Int) by omega]
      exact ih (j + 1) (by omega) (by omega)
  refine e20 ?_
  have := key xs.length 0 (by omega) (by omega)
  simpa [N20, marks] using this
theorem ok : CallsOk cx.P cx.sig (tw cx) := tw_calls (tcall_ok (fun f k h => by cases h) noNG' mixed)
theorem flat {X : List LT} (h : ∀ x ∈ X, all x = []) : allL X = [] := by
  rw [allL_eq, List.flatMap_eq_nil_iff]; exact h
theorem flat_own {X : List LT} (h : allL X = []) : ownL X = [] := by
  refine List.eq_nil_iff_forall_not_mem.2 fun b hb => ?_
  have := own_allL X hb
  rw [h] at this; cases this
theorem flat_shr {X : List LT} (h : allL X = []) : shrL X = [] := by
  refine List.eq_nil_iff_forall_not_mem.2 fun b hb => ?_
  have := shr_allL X hb
  rw [h] at this; cases this
theorem calls20 (h : Value) (X : List LT) (k : Int) (w : World) (hk : 0 ≤ k ∧ k ≤ 4611686018427387904) (hb : X.length ≤ 1073741824) (hm : Mem w (.sl false ⟨1, false⟩ h X)) :
    Calls Tryz.prog 20 #[h, .int .i64 k] w fun e w' => e = .returned (.int .i64 (k + X.length)) ∧ ∃ Y : List LT, Y.map er = marks k X.length ∧ Mem w' (.sl false ⟨1, false⟩ h Y) ∧ Fr w (blk h) w' := by
  have hfl : allL X = [] := flat fun x hx => (hm.2.1 x hx).2 rfl
  have hown : ownL [(.sl false ⟨1, false⟩ h X : LT), .fl (.int .i64 k)] = blk h := by simp [ownL, own, flat_own hfl]
  have h20 := t20 (X.map er) k hk (by simpa using hb)
  rw [List.length_map] at h20
  have hc := ok 20 [.sl false ⟨1, false⟩ h X, .fl (.int .i64 k)] w _ (by
      rw [List.map_cons, List.map_cons, er_sl, er_fl, List.map_nil]; exact h20) ⟨hm, rfl, trivial⟩ (by
      rw [hown]; unfold blk; split <;> simp) (fun b hb => by simp [shrL, shr, flat_shr hfl] at hb) (by
      have e0 : cx.sig 20 = ⟨[true], [], [], false⟩ := rfl
      rw [e0]
      simp [Wm, isSt, own])
  letI : Pol := cx.pol 20
  refine hc.mono ?_
  intro e w' hp
  cases e with
  | returned v =>
    obtain ⟨Rs, Vs, hr, hv, rfl, hm', _, _, _, _, fr, ln⟩ := hp
    have hr : Rs.map er = [i64 (k + X.length)] := hr
    have hv : Vs.map er = [sl false ⟨1, false⟩ (marks k X.length)] := hv
    obtain ⟨R, rfl, hr2⟩ := List.map_eq_singleton_iff.1 hr
    obtain ⟨V, rfl, hv2⟩ := List.map_eq_singleton_iff.1 hv
    have := er_fl_inv hr2
    subst this
    obtain ⟨hd, Y, rfl, hY⟩ := er_sl_inv hv2
    rcases ln with ⟨_, _, V2, Vs', e1, e2, _⟩ | ⟨h0, _⟩
    · cases e1
      have e2 : hd = h := e2
      subst e2
      rw [hown] at fr
      exact ⟨rfl, Y, hY.symm, hm'.2.1, fr⟩
    · rcases h0 with h0 | h0 <;> cases h0
  | _ => exact hp.elim
end Go.Tree.G

/- Marks over rows of a state: the walk. -/
namespace Go.Tree.G
open Go.Proofs
set_option linter.unusedVariables false
set_option linter.unusedSimpArgs false
structure Aside0 (p : Prop) : Prop where
  out : p
theorem alloc_new (w : World) (o : Obj) : (w.alloc o).heap[w.heap.size]? = some o := by
  show (w.heap.push o)[w.heap.size]? = some o
  simp
theorem alloc_size (w : World) (o : Obj) : (w.alloc o).heap.size = w.heap.size + 1 := by
  show (w.heap.push o).size = _
  simp
theorem fr_alloc (w : World) (F : List Nat) (o : Obj) : Fr w F (w.alloc o) :=
  ⟨rfl, rfl, rfl, by rw [alloc_size]; omega, fun k hk _ => Go.RowKit.Below.heap_alloc _ _ _ hk⟩
theorem fr_trans {w w1 w2 : World} {F G : List Nat} (h : Fr w F w1) (g : Fr w1 G w2) : Fr w (F ++ G) w2 :=
  ⟨g.os.trans h.os, g.tape.trans h.tape, g.output.trans h.output, Nat.le_trans h.size g.size, fun k hk hn => by
    rw [List.mem_append] at hn
    rw [g.block k (Nat.lt_of_lt_of_le hk h.size) (fun h' => hn (.inr h')), h.block k hk (fun h' => hn (.inl h'))]⟩
theorem row_all {h : Value} {X : List LT} {w : World} (hm : Mem w (.sl false ⟨1, false⟩ h X)) : all (.sl false ⟨1, false⟩ h X) = blk h := by
  have hfl : allL X = [] := flat fun x hx => (hm.2.1 x hx).2 rfl
  simp [all, hfl]
theorem row_keep {h : Value} {X : List LT} {w w' : World} {F : List Nat} (hm : Mem w (.sl false ⟨1, false⟩ h X)) (f : Fr w F w') (d : ∀ b ∈ F, b ∉ blk h) : Mem w' (.sl false ⟨1, false⟩ h X) :=
  Mem.congr _ (fun b hb => f.block b (all_lt _ hm hb) (fun hF => d b hF (row_all hm ▸ hb))) hm
theorem row_lt {h : Value} {X : List LT} {w : World} (hm : Mem w (.sl false ⟨1, false⟩ h X)) : ∀ b ∈ blk h, b < w.heap.size := fun b hb => all_lt _ hm (by rw [row_all hm]; exact hb)
set_option maxHeartbeats 4000000 in
set_option maxRecDepth 100000 in
theorem calls19 (h1 h2 h3 : Value) (X1 X2 X3 : List LT) (k : Int) (w : World) (hk : 0 ≤ k ∧ k ≤ 1152921504606846976) (b1 : X1.length ≤ 1073741824) (b2 : X2.length ≤ 1073741824) (b3 : X3.length ≤ 1073741824)
    (m1 : Mem w (.sl false ⟨1, false⟩ h1 X1)) (m2 : Mem w (.sl false ⟨1, false⟩ h2 X2)) (m3 : Mem w (.sl false ⟨1, false⟩ h3 X3)) (d12 : ∀ b ∈ blk h1, b ∉ blk h2) (d13 : ∀ b ∈ blk h1, b ∉ blk h3) (d23 : ∀ b ∈ blk h2, b ∉ blk h3) :
    Calls Tryz.prog 19 #[.agg #[h1, h2, h3], .int .i64 k] w fun e w' => e = .returned (.int .i64 (k + X1.length + X2.length + X3.length)) ∧ ∃ Y1 Y2 Y3 : List LT, Y1.map er = marks k X1.length ∧ Y2.map er = marks (k + X1.length) X2.length ∧ Y3.map er = marks (k + X1.length + X2.length) X3.length ∧
      Mem w' (.sl false ⟨1, false⟩ h1 Y1) ∧ Mem w' (.sl false ⟨1, false⟩ h2 Y2) ∧ Mem w' (.sl false ⟨1, false⟩ h3 Y3) ∧ Fr w (blk h1 ++ blk h2 ++ blk h3) w' := by
  have HK := Aside0.mk hk
  have B1 := Aside0.mk b1
  have B2 := Aside0.mk b2
  have B3 := Aside0.mk b3
  have M1 := Aside0.mk m1
  have M2 := Aside0.mk m2
  have M3 := Aside0.mk m3
  have D12 := Aside0.mk d12
  have D13 := Aside0.mk d13
  have D23 := Aside0.mk d23
  clear hk b1 b2 b3 m1 m2 m3 d12 d13 d23
  go_enter Tryz.func19, Tryz.ntmps19
  go_wp2_with fail
  have N1 := Aside0.mk (row_keep (F := []) M1.out (fr_alloc w [] (.cells #[h1, h2, h3] 36)) (fun b h => by cases h))
  have N2 := Aside0.mk (row_keep (F := []) M2.out (fr_alloc w [] (.cells #[h1, h2, h3] 36)) (fun b h => by cases h))
  have N3 := Aside0.mk (row_keep (F := []) M3.out (fr_alloc w [] (.cells #[h1, h2, h3] 36)) (fun b h => by cases h))
  have NB := Aside0.mk (alloc_new w (.cells #[h1, h2, h3] 36))
  have L1 := Aside0.mk (row_lt M1.out)
  have L2 := Aside0.mk (row_lt M2.out)
  have L3 := Aside0.mk (row_lt M3.out)
  have FR := Aside0.mk (fr_alloc w [] (.cells #[h1, h2, h3] 36))
  have HS := Aside0.mk (show w.heap.size < (w.alloc (.cells #[h1, h2, h3] 36)).heap.size by rw [alloc_size]; omega)
  clear M1 M2 M3
  refine (calls20 h1 X1 k _ ⟨HK.out.1, by have := HK.out; omega⟩ B1.out N1.out).mono ?_
  generalize w.alloc (.cells #[h1, h2, h3] 36) = wa at N1 N2 N3 NB FR HS
  rintro e w1 ⟨rfl, Y1, y1, m1, f1⟩
  have Z1 := Aside0.mk y1
  have O1 := Aside0.mk m1
  have O2 := Aside0.mk (row_keep N2.out f1 D12.out)
  have O3 := Aside0.mk (row_keep N3.out f1 D13.out)
  have OB := Aside0.mk ((f1.block w.heap.size HS.out (fun h => Nat.lt_irrefl _ (L1.out _ h))).trans NB.out)
  have OS := Aside0.mk (Nat.lt_of_lt_of_le HS.out f1.size)
  have OR := Aside0.mk (fr_trans FR.out f1)
  have hc1 : w1.cell? ⟨w.heap.size, 1, none⟩ = some h2 := by simp [World.cell?, OB.out]
  clear N1 N2 N3 NB FR HS y1 m1 f1
  go_wp2_with fail
  refine (calls20 h2 X2 (k + X1.length) _ ⟨by have := HK.out; omega, by have := HK.out; have := B1.out; omega⟩ B2.out O2.out).mono ?_
  rintro e w2 ⟨rfl, Y2, y2, m2, f2⟩
  have Z2 := Aside0.mk y2
  have N1 := Aside0.mk (row_keep O1.out f2 (fun b h h' => D12.out b h' h))
  have N2 := Aside0.mk m2
  have N3 := Aside0.mk (row_keep O3.out f2 D23.out)
  have NB := Aside0.mk ((f2.block w.heap.size OS.out (fun h => Nat.lt_irrefl _ (L2.out _ h))).trans OB.out)
  have NS := Aside0.mk (Nat.lt_of_lt_of_le OS.out f2.size)
  have NR := Aside0.mk (fr_trans OR.out f2)
  have hc2 : w2.cell? ⟨w.heap.size, 2, none⟩ = some h3 := by simp [World.cell?, NB.out]
  clear O1 O2 O3 OB OS OR hc1 y2 m2 f2
  go_wp2_with fail
  refine (calls20 h3 X3 (k + X1.length + X2.length) _ ⟨by have := HK.out; omega, by have := HK.out; have := B1.out; have := B2.out; omega⟩ B3.out N3.out).mono ?_
  rintro e w3 ⟨rfl, Y3, y3, m3, f3⟩
  have O1 := Aside0.mk (row_keep N1.out f3 (fun b h h' => D13.out b h' h))
  have O2 := Aside0.mk (row_keep N2.out f3 (fun b h h' => D23.out b h' h))
  have O3 := Aside0.mk m3
  have Z3 := Aside0.mk y3
  have OR := Aside0.mk (fr_trans NR.out f3)
  clear N1 N2 N3 NB NS NR hc2 y3 m3 f3
  go_wp2
  go_ret
  refine ⟨rfl, Y1, Y2, Y3, Z1.out, Z2.out, Z3.out, O1.out, O2.out, O3.out, by simpa using OR.out⟩
end Go.Tree.G
