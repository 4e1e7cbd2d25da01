/- Marks over a state and over the parts of an ssa. Conditions: none. -/
import Derived.Test.YtfjmogpgccnccaaGreatMt3
import Derived.Test.YtfjmogpgccnccaaGreatMg
import Derived.WalkKit
import Derived.ProofKit
import Derived.Test.YtfjmogpgccnccaaGreatMd
/- Marks over rows of a state: a function whose parameter is a struct that is lent, told by hand. -/
namespace Go.Tree.G
open Go.Proofs
set_option linter.unusedVariables false
set_option linter.unusedSimpArgs false
theorem noNG : (Tryz.prog.funcs.all fun fn => !(fn.name == "runtime.NumGoroutine")) = true := by kernel_rfl
theorem noNG' : ∀ (f : FuncId) (fn : Func), Tryz.prog.funcs[f]? = some fn → (fn.name == "runtime.NumGoroutine") = false := fun f fn h => by
  have h0 := noNG
  rw [Array.all_eq_true] at h0
  obtain ⟨hi, rfl⟩ := Array.getElem?_eq_some_iff.1 h
  simpa using h0 f hi
theorem mixed : Tryz.prog.follows .mixedOrders = true := by kernel_rfl
theorem back_of {f : FuncId} {p : List Nat} {e : Env} {X : Option Res} (h : S cx f (.head p e) = X) : S cx f (.back p e) = X := h
theorem w64_id {x : Int} (h0 : -9223372036854775808 ≤ x) (h1 : x < 9223372036854775808) : w64 x = x := by
  show IntKind.i64.wrap x = x
  rw [IntKind.wrap_i64]; omega
def marks (k : Int) (n : Nat) : List TV := (List.range n).map fun (i : Nat) => .fl (.int .i64 (k + (i : Int)))
theorem marks_len (k : Int) (n : Nat) : (marks k n).length = n := by simp [marks]
theorem t20 (xs : List TV) (k : Int) (hk : 0 ≤ k ∧ k ≤ 4611686018427387904) (hb : xs.length ≤ 1073741824) : tw cx 20 [sl false ⟨1, false⟩ xs, i64 k] = some ([i64 (k + xs.length)], [sl false ⟨1, false⟩ (marks k xs.length)]) := by
  have key : ∀ d j : Nat, xs.length - j = d → j ≤ xs.length → S cx 20 (H20_0 (k + j) j (marks k j ++ xs.drop j)) = some ([i64 (k + xs.length)], [sl false ⟨1, false⟩ (marks k xs.length)]) := by
    intro d
    induction d with
    | zero =>
      intro j hd hj
      have : j = xs.length := by omega
      subst this
      rw [List.drop_length, List.append_nil]
      exact eH20_0 (bif_neg (decide_eq_false (by rw [marks_len]; omega)) rfl)
    | succ d ih =>
      intro j hd hj
      have e1 : (marks k j ++ xs.drop j).length = xs.length := by
        rw [List.length_append, marks_len, List.length_drop]; omega
      refine eH20_0 (bif_pos (decide_eq_true (by omega)) (ck_pos (by rw [decide_eq_true (by omega), decide_eq_true (by omega)]; rfl) (back_of ?_)))
      rw [w64_id (by omega) (by omega), w64_id (by omega) (by omega)]
      have e2 : (marks k j ++ xs.drop j).set (0 + (j : Int).toNat) (i64 (k + j)) = marks k (j + 1) ++ xs.drop (j + 1) := by
        rw [show 0 + (j : Int).toNat = j by omega, List.set_append_right _ _ (by rw [marks_len]; exact Nat.le_refl _), marks_len, Nat.sub_self, List.drop_eq_getElem_cons (show j < xs.length by omega), List.set_cons_zero]
        simp [marks, List.range_succ]
      rw [e2, show k + (j : Int) + 1 = k + ((j + 1 : Nat) : Int) by omega, show (j : Int) + 1 = ((j + 1 : Nat) : Int) by omega]
      exact ih (j + 1) (by omega) (by omega)
  refine e20 ?_
  have := key xs.length 0 (by omega) (by omega)
  simpa [N20, marks] using this
theorem ok : CallsOk cx.P cx.sig (tw cx) := tw_calls (tcall_ok (fun f k h => by cases h) noNG' mixed)
theorem flat {X : List LT} (h : ∀ x ∈ X, all x = []) : allL X = [] := by
  rw [allL_eq, List.flatMap_eq_nil_iff]; exact h
theorem flat_own {X : List LT} (h : allL X = []) : ownL X = [] := by
  refine List.eq_nil_iff_forall_not_mem.2 fun b hb => ?_
  have := own_allL X hb
  rw [h] at this; cases this
theorem flat_shr {X : List LT} (h : allL X = []) : shrL X = [] := by
  refine List.eq_nil_iff_forall_not_mem.2 fun b hb => ?_
  have := shr_allL X hb
  rw [h] at this; cases this
theorem calls20 (h : Value) (X : List LT) (k : Int) (w : World) (hk : 0 ≤ k ∧ k ≤ 4611686018427387904) (hb : X.length ≤ 1073741824) (hm : Mem w (.sl false ⟨1, false⟩ h X)) :
    Calls Tryz.prog 20 #[h, .int .i64 k] w fun e w' => e = .returned (.int .i64 (k + X.length)) ∧ ∃ Y : List LT, Y.map er = marks k X.length ∧ Mem w' (.sl false ⟨1, false⟩ h Y) ∧ Fr w (blk h) w' := by
  have hfl : allL X = [] := flat fun x hx => (hm.2.1 x hx).2 rfl
  have hown : ownL [(.sl false ⟨1, false⟩ h X : LT), .fl (.int .i64 k)] = blk h := by simp [ownL, own, flat_own hfl]
  have h20 := t20 (X.map er) k hk (by simpa using hb)
  rw [List.length_map] at h20
  have hc := ok 20 [.sl false ⟨1, false⟩ h X, .fl (.int .i64 k)] w _ (by
      rw [List.map_cons, List.map_cons, er_sl, er_fl, List.map_nil]; exact h20) ⟨hm, rfl, trivial⟩ (by
      rw [hown]; unfold blk; split <;> simp) (fun b hb => by simp [shrL, shr, flat_shr hfl] at hb) (by
      have e0 : cx.sig 20 = ⟨[true], [], [], false⟩ := rfl
      rw [e0]
      simp [Wm, isSt, own])
  letI : Pol := cx.pol 20
  refine hc.mono ?_
  intro e w' hp
  cases e with
  | returned v =>
    obtain ⟨Rs, Vs, hr, hv, rfl, hm', _, _, _, _, fr, ln⟩ := hp
    have hr : Rs.map er = [i64 (k + X.length)] := hr
    have hv : Vs.map er = [sl false ⟨1, false⟩ (marks k X.length)] := hv
    obtain ⟨R, rfl, hr2⟩ := List.map_eq_singleton_iff.1 hr
    obtain ⟨V, rfl, hv2⟩ := List.map_eq_singleton_iff.1 hv
    have := er_fl_inv hr2
    subst this
    obtain ⟨hd, Y, rfl, hY⟩ := er_sl_inv hv2
    rcases ln with ⟨_, _, V2, Vs', e1, e2, _⟩ | ⟨h0, _⟩
    · cases e1
      have e2 : hd = h := e2
      subst e2
      rw [hown] at fr
      exact ⟨rfl, Y, hY.symm, hm'.2.1, fr⟩
    · rcases h0 with h0 | h0 <;> cases h0
  | _ => exact hp.elim
end Go.Tree.G

/- Marks over rows of a state: the walk. -/
namespace Go.Tree.G
open Go.Proofs
set_option linter.unusedVariables false
set_option linter.unusedSimpArgs false
structure Aside0 (p : Prop) : Prop where
  out : p
theorem alloc_new (w : World) (o : Obj) : (w.alloc o).heap[w.heap.size]? = some o := by
  show (w.heap.push o)[w.heap.size]? = some o
  simp
theorem alloc_size (w : World) (o : Obj) : (w.alloc o).heap.size = w.heap.size + 1 := by
  show (w.heap.push o).size = _
  simp
theorem fr_alloc (w : World) (F : List Nat) (o : Obj) : Fr w F (w.alloc o) :=
  ⟨rfl, rfl, rfl, by rw [alloc_size]; omega, fun k hk _ => Go.RowKit.Below.heap_alloc _ _ _ hk⟩
theorem fr_trans {w w1 w2 : World} {F G : List Nat} (h : Fr w F w1) (g : Fr w1 G w2) : Fr w (F ++ G) w2 :=
  ⟨g.os.trans h.os, g.tape.trans h.tape, g.output.trans h.output, Nat.le_trans h.size g.size, fun k hk hn => by
    rw [List.mem_append] at hn
    rw [g.block k (Nat.lt_of_lt_of_le hk h.size) (fun h' => hn (.inr h')), h.block k hk (fun h' => hn (.inl h'))]⟩
theorem row_all {h : Value} {X : List LT} {w : World} (hm : Mem w (.sl false ⟨1, false⟩ h X)) : all (.sl false ⟨1, false⟩ h X) = blk h := by
  have hfl : allL X = [] := flat fun x hx => (hm.2.1 x hx).2 rfl
  simp [all, hfl]
theorem row_keep {h : Value} {X : List LT} {w w' : World} {F : List Nat} (hm : Mem w (.sl false ⟨1, false⟩ h X)) (f : Fr w F w') (d : ∀ b ∈ F, b ∉ blk h) : Mem w' (.sl false ⟨1, false⟩ h X) :=
  Mem.congr _ (fun b hb => f.block b (all_lt _ hm hb) (fun hF => d b hF (row_all hm ▸ hb))) hm
theorem row_lt {h : Value} {X : List LT} {w : World} (hm : Mem w (.sl false ⟨1, false⟩ h X)) : ∀ b ∈ blk h, b < w.heap.size := fun b hb => all_lt _ hm (by rw [row_all hm]; exact hb)
set_option maxHeartbeats 4000000 in
set_option maxRecDepth 100000 in
theorem calls19 (h1 h2 h3 : Value) (X1 X2 X3 : List LT) (k : Int) (w : World) (hk : 0 ≤ k ∧ k ≤ 2305843009213693952) (b1 : X1.length ≤ 1073741824) (b2 : X2.length ≤ 1073741824) (b3 : X3.length ≤ 1073741824)
    (m1 : Mem w (.sl false ⟨1, false⟩ h1 X1)) (m2 : Mem w (.sl false ⟨1, false⟩ h2 X2)) (m3 : Mem w (.sl false ⟨1, false⟩ h3 X3)) (d12 : ∀ b ∈ blk h1, b ∉ blk h2) (d13 : ∀ b ∈ blk h1, b ∉ blk h3) (d23 : ∀ b ∈ blk h2, b ∉ blk h3) :
    Calls Tryz.prog 19 #[.agg #[h1, h2, h3], .int .i64 k] w fun e w' => e = .returned (.int .i64 (k + X1.length + X2.length + X3.length)) ∧ ∃ Y1 Y2 Y3 : List LT, Y1.map er = marks k X1.length ∧ Y2.map er = marks (k + X1.length) X2.length ∧ Y3.map er = marks (k + X1.length + X2.length) X3.length ∧
      Mem w' (.sl false ⟨1, false⟩ h1 Y1) ∧ Mem w' (.sl false ⟨1, false⟩ h2 Y2) ∧ Mem w' (.sl false ⟨1, false⟩ h3 Y3) ∧ Fr w (blk h1 ++ blk h2 ++ blk h3) w' := by
  have HK := Aside0.mk hk
  have B1 := Aside0.mk b1
  have B2 := Aside0.mk b2
  have B3 := Aside0.mk b3
  have M1 := Aside0.mk m1
  have M2 := Aside0.mk m2
  have M3 := Aside0.mk m3
  have D12 := Aside0.mk d12
  have D13 := Aside0.mk d13
  have D23 := Aside0.mk d23
  clear hk b1 b2 b3 m1 m2 m3 d12 d13 d23
  go_enter Tryz.func19, Tryz.ntmps19
  go_wp2_with fail
  have N1 := Aside0.mk (row_keep (F := []) M1.out (fr_alloc w [] (.cells #[h1, h2, h3] 36)) (fun b h => by cases h))
  have N2 := Aside0.mk (row_keep (F := []) M2.out (fr_alloc w [] (.cells #[h1, h2, h3] 36)) (fun b h => by cases h))
  have N3 := Aside0.mk (row_keep (F := []) M3.out (fr_alloc w [] (.cells #[h1, h2, h3] 36)) (fun b h => by cases h))
  have NB := Aside0.mk (alloc_new w (.cells #[h1, h2, h3] 36))
  have L1 := Aside0.mk (row_lt M1.out)
  have L2 := Aside0.mk (row_lt M2.out)
  have L3 := Aside0.mk (row_lt M3.out)
  have FR := Aside0.mk (fr_alloc w [] (.cells #[h1, h2, h3] 36))
  have HS := Aside0.mk (show w.heap.size < (w.alloc (.cells #[h1, h2, h3] 36)).heap.size by rw [alloc_size]; omega)
  clear M1 M2 M3
  refine (calls20 h1 X1 k _ ⟨HK.out.1, by have := HK.out; omega⟩ B1.out N1.out).mono ?_
  generalize w.alloc (.cells #[h1, h2, h3] 36) = wa at N1 N2 N3 NB FR HS
  rintro e w1 ⟨rfl, Y1, y1, m1, f1⟩
  have Z1 := Aside0.mk y1
  have O1 := Aside0.mk m1
  have O2 := Aside0.mk (row_keep N2.out f1 D12.out)
  have O3 := Aside0.mk (row_keep N3.out f1 D13.out)
  have OB := Aside0.mk ((f1.block w.heap.size HS.out (fun h => Nat.lt_irrefl _ (L1.out _ h))).trans NB.out)
  have OS := Aside0.mk (Nat.lt_of_lt_of_le HS.out f1.size)
  have OR := Aside0.mk (fr_trans FR.out f1)
  have hc1 : w1.cell? ⟨w.heap.size, 1, none⟩ = some h2 := by simp [World.cell?, OB.out]
  clear N1 N2 N3 NB FR HS y1 m1 f1
  go_wp2_with fail
  refine (calls20 h2 X2 (k + X1.length) _ ⟨by have := HK.out; omega, by have := HK.out; have := B1.out; omega⟩ B2.out O2.out).mono ?_
  rintro e w2 ⟨rfl, Y2, y2, m2, f2⟩
  have Z2 := Aside0.mk y2
  have N1 := Aside0.mk (row_keep O1.out f2 (fun b h h' => D12.out b h' h))
  have N2 := Aside0.mk m2
  have N3 := Aside0.mk (row_keep O3.out f2 D23.out)
  have NB := Aside0.mk ((f2.block w.heap.size OS.out (fun h => Nat.lt_irrefl _ (L2.out _ h))).trans OB.out)
  have NS := Aside0.mk (Nat.lt_of_lt_of_le OS.out f2.size)
  have NR := Aside0.mk (fr_trans OR.out f2)
  have hc2 : w2.cell? ⟨w.heap.size, 2, none⟩ = some h3 := by simp [World.cell?, NB.out]
  clear O1 O2 O3 OB OS OR hc1 y2 m2 f2
  go_wp2_with fail
  refine (calls20 h3 X3 (k + X1.length + X2.length) _ ⟨by have := HK.out; omega, by have := HK.out; have := B1.out; have := B2.out; omega⟩ B3.out N3.out).mono ?_
  rintro e w3 ⟨rfl, Y3, y3, m3, f3⟩
  have O1 := Aside0.mk (row_keep N1.out f3 (fun b h h' => D13.out b h' h))
  have O2 := Aside0.mk (row_keep N2.out f3 (fun b h h' => D23.out b h' h))
  have O3 := Aside0.mk m3
  have Z3 := Aside0.mk y3
  have OR := Aside0.mk (fr_trans NR.out f3)
  clear N1 N2 N3 NB NS NR hc2 y3 m3 f3
  go_wp2
  go_ret
  refine ⟨rfl, Y1, Y2, Y3, Z1.out, Z2.out, Z3.out, O1.out, O2.out, O3.out, by simpa using OR.out⟩
end Go.Tree.G

/- Marks over the parts of an ssa: what they come to. -/
namespace Go.Tree.G
open Go.Proofs Go.Tree.Q
set_option linter.unusedVariables false
set_option linter.unusedSimpArgs false
theorem incG {j n : Nat} (h : j < n) (hn : n ≤ 1073741824) : w64 ((j : Int) + 1) = ((j + 1 : Nat) : Int) := by
  rw [w64_id (by omega) (by omega)]; omega
theorem gs {l : List TV} {j : Nat} {x : TV} (h : j < l.length) : (l.set (0 + ((j : Nat) : Int).toNat) x).getD (0 + ((j : Nat) : Int).toNat) (.dead ()) = x := by
  rw [zN]; simp [List.getD, h]
theorem gm {β : Type} {e : β → TV} {l : List β} {j : Nat} {x : β} (h : l[j]? = some x) : (l.map e).getD (0 + ((j : Nat) : Int).toNat) (.dead ()) = e x := by
  rw [zN, List.getD, List.getElem?_map, h]; rfl
theorem sF {zs : List F} {j : Nat} {a b c d e f : Int} : (zs.map eF).set (0 + ((j : Nat) : Int).toNat) (.st [i64 a, i64 b, i64 c, i64 d, i64 e, i64 f]) = (zs.set j ⟨a, b, c, d, e, f⟩).map eF := by
  rw [zN, List.map_set]
set_option maxRecDepth 20000 in
set_option maxHeartbeats 2000000 in
theorem t97 (xs : List F) (k : Int) (hk : 0 ≤ k ∧ k ≤ 2305843009213693952) (hb : xs.length ≤ 1073741824) : ∃ ys : List F, ys.length = xs.length ∧ tw cx 97 [sl false ⟨6, false⟩ (xs.map eF), i64 k] = some ([i64 (k + 6 * xs.length)], [sl false ⟨6, false⟩ (ys.map eF)]) := by
  have key : ∀ d j : Nat, xs.length - j = d → j ≤ xs.length → ∀ zs : List F, zs.length = xs.length → ∃ ys : List F, ys.length = xs.length ∧ S cx 97 (H97_0 (k + 6 * j) j (zs.map eF)) = some ([i64 (k + 6 * xs.length)], [sl false ⟨6, false⟩ (ys.map eF)]) := by
    intro d
    induction d with
    | zero =>
      intro j hd hj zs hz
      have : j = xs.length := by omega
      subst this
      exact ⟨zs, hz, eH97_0 (bif_neg (dF (by rw [List.length_map]; omega)) rfl)⟩
    | succ d ih =>
      intro j hd hj zs hz
      obtain ⟨x, hx⟩ : ∃ x, zs[j]? = some x := ⟨_, List.getElem?_eq_getElem (show j < zs.length by omega)⟩
      have w1 : w64 (k + 6 * j + 1) = k + 6 * j + 1 := w64_id (by omega) (by omega)
      have w2 : w64 (k + 6 * j + 1 + 1) = k + 6 * j + 1 + 1 := w64_id (by omega) (by omega)
      have w3 : w64 (k + 6 * j + 1 + 1 + 1) = k + 6 * j + 1 + 1 + 1 := w64_id (by omega) (by omega)
      have w4 : w64 (k + 6 * j + 1 + 1 + 1 + 1) = k + 6 * j + 1 + 1 + 1 + 1 := w64_id (by omega) (by omega)
      have w5 : w64 (k + 6 * j + 1 + 1 + 1 + 1 + 1) = k + 6 * j + 1 + 1 + 1 + 1 + 1 := w64_id (by omega) (by omega)
      have w6 : w64 (k + 6 * j + 1 + 1 + 1 + 1 + 1 + 1) = k + 6 * j + 1 + 1 + 1 + 1 + 1 + 1 := w64_id (by omega) (by omega)
      have hl : (zs.map eF).length = xs.length := by rw [List.length_map, hz]
      obtain ⟨ys, hl2, hy⟩ := ih (j + 1) (by omega) (by omega) (zs.set j ⟨k + 6 * j, k + 6 * j + 1, k + 6 * j + 1 + 1, k + 6 * j + 1 + 1 + 1, k + 6 * j + 1 + 1 + 1 + 1, k + 6 * j + 1 + 1 + 1 + 1 + 1⟩) (by simp [hz])
      refine ⟨ys, hl2, ?_⟩
      refine eH97_0 (bif_pos (dT (by omega)) (ck_pos (dT2 (by omega)) ?_))
      rw [gm hx, V6_1_S]
      simp only [w1, w2, w3, w4, w5, w6]
      refine ck_pos (dT2 (by rw [List.length_set]; omega)) ?_
      rw [gs (by omega), V6_1_S, List.set_set]
      refine ck_pos (dT2 (by rw [List.length_set]; omega)) ?_
      rw [gs (by omega), V6_1_S, List.set_set]
      refine ck_pos (dT2 (by rw [List.length_set]; omega)) ?_
      rw [gs (by omega), V6_1_S, List.set_set]
      refine ck_pos (dT2 (by rw [List.length_set]; omega)) ?_
      rw [gs (by omega), V6_1_S, List.set_set]
      refine ck_pos (dT2 (by rw [List.length_set]; omega)) ?_
      rw [gs (by omega), V6_1_S, List.set_set, sF]
      refine back_of ?_
      rw [incG (n := xs.length) (by omega) hb, show k + 6 * (j : Int) + 1 + 1 + 1 + 1 + 1 + 1 = k + 6 * ((j + 1 : Nat) : Int) by omega]
      exact hy
  obtain ⟨ys, h1, hy⟩ := key xs.length 0 (by omega) (by omega) xs rfl
  exact ⟨ys, h1, e97 (by simpa [N97] using hy)⟩
theorem t20i (xs : List Int) (k : Int) (hk : 0 ≤ k ∧ k ≤ 4611686018427387904) (hb : xs.length ≤ 1073741824) : ∃ ys : List Int, ys.length = xs.length ∧ tw cx 20 [sl false ⟨1, false⟩ (xs.map i64), i64 k] = some ([i64 (k + xs.length)], [sl false ⟨1, false⟩ (ys.map i64)]) := by
  refine ⟨(List.range xs.length).map fun (i : Nat) => k + (i : Int), by simp, ?_⟩
  have := t20 (xs.map i64) k hk (by rw [List.length_map]; exact hb)
  rw [List.length_map] at this
  rw [this]
  simp [marks, Function.comp_def]
theorem t98 (ls : List (List Int)) (k : Int) (hk : 0 ≤ k ∧ k ≤ 2305843009213693952) (h1 : ls.length ≤ 1048576) (h2 : ∀ l ∈ ls, l.length ≤ 1048576) : ∃ (ms : List (List Int)) (k2 : Int), k ≤ k2 ∧ k2 ≤ k + 1099511627776 ∧
    tw cx 98 [sl false ⟨1, true⟩ (ls.map (rI false)), i64 k] = some ([i64 k2], [sl false ⟨1, true⟩ (ms.map (rI false))]) := by
  have key : ∀ d j : Nat, ls.length - j = d → j ≤ ls.length → ∀ (zs : List (List Int)) (c : Int), zs.length = ls.length → (∀ i, j ≤ i → zs[i]? = ls[i]?) → k ≤ c → c ≤ k + 1048576 * j →
      ∃ (ms : List (List Int)) (k2 : Int), k ≤ k2 ∧ k2 ≤ k + 1048576 * ls.length ∧ S cx 98 (H98_0 c j (zs.map (rI false))) = some ([i64 k2], [sl false ⟨1, true⟩ (ms.map (rI false))]) := by
    intro d
    induction d with
    | zero =>
      intro j hd hj zs c hz _ c0 c1
      have : j = ls.length := by omega
      subst this
      exact ⟨zs, c, c0, c1, eH98_0 (bif_neg (dF (by rw [List.length_map]; omega)) rfl)⟩
    | succ d ih =>
      intro j hd hj zs c hz hs c0 c1
      have hjl : j < ls.length := by omega
      have hx : zs[j]? = some ls[j] := by rw [hs j (Nat.le_refl _), List.getElem?_eq_getElem hjl]
      have hlj := h2 _ (List.getElem_mem hjl)
      have hl : (zs.map (rI false)).length = ls.length := by rw [List.length_map, hz]
      obtain ⟨ys, y1, y2⟩ := t20i ls[j] c ⟨by omega, by omega⟩ (by omega)
      obtain ⟨ms, k2, a1, a2, a3⟩ := ih (j + 1) (by omega) (by omega) (zs.set j ys) (c + ls[j].length) (by simp [hz]) (fun i hi => by rw [List.getElem?_set_ne (by omega)]; exact hs i (by omega)) (by omega) (by omega)
      refine ⟨ms, k2, a1, a2, eH98_0 (bif_pos (dT (by omega)) (ck_pos (dT2 (by omega)) ?_))⟩
      rw [gm hx, S_slO, S_slO, C20_S y2, List.set_set]
      refine back_of ?_
      rw [incG (n := ls.length) hjl (by omega)]
      have e : (zs.map (rI false)).set (0 + ((j : Nat) : Int).toNat) (sl false ⟨1, false⟩ (ys.map i64)) = (zs.set j ys).map (rI false) := by rw [zN, List.map_set]
      rw [e]
      exact a3
  obtain ⟨ms, k2, a1, a2, a3⟩ := key ls.length 0 rfl (Nat.zero_le _) ls k rfl (fun _ _ => rfl) (Int.le_refl _) (by omega)
  exact ⟨ms, k2, a1, by omega, e98 a3⟩
end Go.Tree.G

/- Marks over the parts of an ssa: what they come to, whole. -/
namespace Go.Tree.G
open Go.Proofs Go.Tree.Q
set_option linter.unusedVariables false
set_option linter.unusedSimpArgs false
set_option maxRecDepth 20000 in
set_option maxHeartbeats 4000000 in
theorem step51 (zs : List Pt) (j : Nat) (p : Pt) (hx : zs[j]? = some p) (hn : zs.length ≤ 1048576) (c : Int) (hc : 0 ≤ c ∧ c ≤ 2000000000000000000) (hp : smallP p) :
    ∃ (q : Pt) (c2 : Int), c ≤ c2 ∧ c2 ≤ c + 1099520016386 ∧ ∀ {r : Res}, S cx 51 (H51_0 c2 ((j + 1 : Nat) : Int) ((zs.set j q).map (ePt false false))) = some r → S cx 51 (H51_0 c j (zs.map (ePt false false))) = some r := by
  have hjl : j < zs.length := (List.getElem?_eq_some_iff.1 hx).1
  obtain ⟨p1, p2, p3, p4, p5⟩ := hp
  have hl : (zs.map (ePt false false)).length = zs.length := List.length_map _
  obtain ⟨y1, a1, b1⟩ := t20i p.params c ⟨by omega, by omega⟩ (by omega)
  obtain ⟨y2, a2, b2⟩ := t97 p.code (c + p.params.length) ⟨by omega, by omega⟩ (by omega)
  have w1 : w64 (c + p.params.length + 6 * p.code.length + 1) = c + p.params.length + 6 * p.code.length + 1 := w64_id (by omega) (by omega)
  have w2 : w64 (c + p.params.length + 6 * p.code.length + 1 + 1) = c + p.params.length + 6 * p.code.length + 1 + 1 := w64_id (by omega) (by omega)
  obtain ⟨y3, a3, b3⟩ := t20i p.next (c + p.params.length + 6 * p.code.length + 1 + 1) ⟨by omega, by omega⟩ (by omega)
  obtain ⟨y4, k4, a4, a5, b4⟩ := t98 p.args (c + p.params.length + 6 * p.code.length + 1 + 1 + p.next.length) ⟨by omega, by omega⟩ p4 p5
  refine ⟨⟨y1, y2, c + p.params.length + 6 * p.code.length, c + p.params.length + 6 * p.code.length + 1, y3, y4⟩, k4, by omega, by omega, fun {r} this => ?_⟩
  refine eH51_0 (bif_pos (dT (by omega)) (ck_pos (dT2 (by omega)) ?_))
  rw [gm hx, V6_S, V6_S, V6_S]
  refine call_S b1 ?_
  dsimp only
  rw [S_cons, S_int, S_nil, S_cons, S_slO, gs (by omega), S_st]
  refine ck_pos (by kernel_rfl) (ck_pos rfl ?_)
  rw [S_nil, List.set_set]
  refine ck_pos (dT2 (by rw [List.length_set]; omega)) ?_
  rw [gs (by omega), List.set_cons_zero, V6_S, V6_S, V6_S]
  refine call_S b2 ?_
  dsimp only
  rw [S_cons, S_int, S_nil, S_cons, S_slO, List.set_set, gs (by omega), S_st]
  refine ck_pos (by kernel_rfl) (ck_pos rfl ?_)
  rw [S_nil, List.set_set]
  refine ck_pos (dT2 (by rw [List.length_set]; omega)) ?_
  rw [gs (by omega), List.set_cons_succ, List.set_cons_zero, V6_S, List.set_set]
  refine ck_pos (dT2 (by rw [List.length_set]; omega)) ?_
  rw [gs (by omega), V6_S, List.set_set]
  simp only [w1, w2]
  refine ck_pos (dT2 (by rw [List.length_set]; omega)) ?_
  rw [gs (by omega), V6_S, V6_S, V6_S]
  refine call_S b3 ?_
  dsimp only
  rw [S_cons, S_int, S_nil, S_cons, S_slO, List.set_set, gs (by omega), S_st]
  refine ck_pos (by kernel_rfl) (ck_pos rfl ?_)
  rw [S_nil, List.set_set]
  refine ck_pos (dT2 (by rw [List.length_set]; omega)) ?_
  rw [gs (by omega), List.set_cons_succ, List.set_cons_succ, List.set_cons_succ, List.set_cons_succ, List.set_cons_zero, V6_S, V6_S, V6_S]
  refine call_S b4 ?_
  dsimp only
  rw [S_cons, S_int, S_nil, S_cons, S_slO, List.set_set, gs (by omega), S_st]
  refine ck_pos (by kernel_rfl) (ck_pos rfl ?_)
  rw [S_nil, List.set_set, List.set_cons_succ, List.set_cons_succ, List.set_cons_succ, List.set_cons_succ, List.set_cons_succ, List.set_cons_zero]
  refine back_of ?_
  rw [incG (n := zs.length) hjl (by omega)]
  rw [List.map_set] at this
  rw [zN]
  exact this
theorem t51 (ps : List Pt) (k : Int) (hk : 0 ≤ k ∧ k ≤ 1) (h1 : ps.length ≤ 1048576) (h2 : ∀ p ∈ ps, smallP p) : ∃ (qs : List Pt) (k2 : Int), k ≤ k2 ∧ k2 ≤ 2000000000000000000 ∧
    tw cx 51 [sl false ⟨6, true⟩ (ps.map (ePt false false)), i64 k] = some ([i64 k2], [sl false ⟨6, true⟩ (qs.map (ePt false false))]) := by
  have key : ∀ d j : Nat, ps.length - j = d → j ≤ ps.length → ∀ (zs : List Pt) (c : Int), zs.length = ps.length → (∀ i, j ≤ i → zs[i]? = ps[i]?) → k ≤ c → c ≤ k + 1099520016386 * j →
      ∃ (qs : List Pt) (k2 : Int), k ≤ k2 ∧ k2 ≤ k + 1099520016386 * ps.length ∧ S cx 51 (H51_0 c j (zs.map (ePt false false))) = some ([i64 k2], [sl false ⟨6, true⟩ (qs.map (ePt false false))]) := by
    intro d
    induction d with
    | zero =>
      intro j hd hj zs c hz _ c0 c1
      have : j = ps.length := by omega
      subst this
      exact ⟨zs, c, c0, c1, eH51_0 (bif_neg (dF (by rw [List.length_map]; omega)) rfl)⟩
    | succ d ih =>
      intro j hd hj zs c hz hs c0 c1
      have hjl : j < ps.length := by omega
      have hx : zs[j]? = some ps[j] := by rw [hs j (Nat.le_refl _), List.getElem?_eq_getElem hjl]
      obtain ⟨q, c2, g1, g2, g3⟩ := step51 zs j ps[j] hx (by omega) c ⟨by omega, by omega⟩ (h2 _ (List.getElem_mem hjl))
      obtain ⟨qs, k2, a1, a2, a3⟩ := ih (j + 1) (by omega) (by omega) (zs.set j q) c2 (by simp [hz]) (fun i hi => by rw [List.getElem?_set_ne (by omega)]; exact hs i (by omega)) (by omega) (by omega)
      exact ⟨qs, k2, a1, a2, g3 a3⟩
  obtain ⟨qs, k2, a1, a2, a3⟩ := key ps.length 0 rfl (Nat.zero_le _) ps k rfl (fun _ _ => rfl) (Int.le_refl _) (by omega)
  exact ⟨qs, k2, a1, by omega, e51 a3⟩
end Go.Tree.G

/- Marks over the parts of an ssa: the walk. -/
namespace Go.Tree.G
open Go.Proofs
set_option linter.unusedVariables false
set_option linter.unusedSimpArgs false
/-- What a lent row is after a call. -/
def Aft (w : World) (h : Value) (X : List LT) (ys : List TV) (w' : World) : Prop :=
  ∃ Y : List LT, Y.map er = ys ∧ Mem w' (.sl false ⟨6, true⟩ h Y) ∧ (own (.sl false ⟨6, true⟩ h Y)).Nodup ∧ (∀ b ∈ shr (.sl false ⟨6, true⟩ h Y), b ∉ own (.sl false ⟨6, true⟩ h Y)) ∧
    (∀ b ∈ own (.sl false ⟨6, true⟩ h Y), b ∈ own (.sl false ⟨6, true⟩ h X) ∨ w.heap.size ≤ b) ∧ (∀ b ∈ shr (.sl false ⟨6, true⟩ h Y), b ∈ shr (.sl false ⟨6, true⟩ h X) ∨ b ∈ own (.sl false ⟨6, true⟩ h X) ∨ w.heap.size ≤ b) ∧ Fr w (own (.sl false ⟨6, true⟩ h X)) w'
theorem calls51 (h : Value) (X : List LT) (k : Int) (w : World) {k2 : Int} {ys : List TV} (ht : tw cx 51 [.sl false ⟨6, true⟩ () (X.map er), .fl (.int .i64 k)] = some ([.fl (.int .i64 k2)], [.sl false ⟨6, true⟩ () ys]))
    (m1 : Mem w (.sl false ⟨6, true⟩ h X)) (nd : (own (.sl false ⟨6, true⟩ h X)).Nodup) (sh : ∀ b ∈ shr (.sl false ⟨6, true⟩ h X), b ∉ own (.sl false ⟨6, true⟩ h X)) :
    Calls Tryz.prog 51 #[h, .int .i64 k] w fun e w' => e = .returned (.int .i64 k2) ∧ Aft w h X ys w' := by
  have o1 : ∀ T : LT, ownL [T, .fl (.int .i64 k)] = own T := fun T => by simp [ownL, own]
  have s1 : ∀ T : LT, shrL [T, .fl (.int .i64 k)] = shr T := fun T => by simp [shrL, shr]
  have o2 : ∀ (T : LT) (v : Value), ownL [.fl v, T] = own T := fun T v => by simp [ownL, own]
  have s2 : ∀ (T : LT) (v : Value), shrL [.fl v, T] = shr T := fun T v => by simp [shrL, shr]
  have hc := ok 51 [.sl false ⟨6, true⟩ h X, .fl (.int .i64 k)] w _ (by
      rw [List.map_cons, List.map_cons, er_sl, er_fl, List.map_nil]; exact ht) ⟨m1, rfl, trivial⟩ (by rw [o1]; exact nd) (by rw [o1, s1]; exact sh) (by
      have e0 : cx.sig 51 = ⟨[true], [], [], false⟩ := rfl
      rw [e0]
      simp [Wm, isSt, own])
  letI : Pol := cx.pol 51
  refine hc.mono ?_
  intro e w' hp
  cases e with
  | returned v =>
    obtain ⟨Rs, Vs, hr, hv, rfl, hm', hnd, hsh, hno, hns, fr, ln⟩ := hp
    obtain ⟨R, rfl, hr2⟩ := List.map_eq_singleton_iff.1 hr
    obtain ⟨V, rfl, hv2⟩ := List.map_eq_singleton_iff.1 hv
    have := er_fl_inv hr2
    subst this
    obtain ⟨hd, Y, rfl, hY⟩ := er_sl_inv hv2
    rcases ln with ⟨_, _, V2, Vs', e1, e2, _⟩ | ⟨h0, _⟩
    · cases e1
      have e2 : hd = h := e2
      subst e2
      have a1 : ∀ (v : Value) (T : LT), [Tree.Tr.fl v] ++ [T] = [(.fl v : LT), T] := fun _ _ => rfl
      rw [o1] at fr
      refine ⟨rfl, Y, hY.symm, hm'.2.1, ?_, ?_, ?_, ?_, fr⟩
      · have := hnd; rw [List.singleton_append, o2] at this; exact this
      · have := hsh; rw [List.singleton_append, o2, s2] at this; exact this
      · have := hno; rw [List.singleton_append, o2, o1] at this; exact this
      · have := hns; rw [List.singleton_append, s2, s1, o1] at this; exact this
    · rcases h0 with h0 | h0 <;> cases h0
  | _ => exact hp.elim
set_option maxHeartbeats 4000000 in
set_option maxRecDepth 100000 in
theorem calls18 (h : Value) (X : List LT) (v k : Int) (w : World) {k2 : Int} {ys : List TV} (ht : tw cx 51 [.sl false ⟨6, true⟩ () (X.map er), .fl (.int .i64 k)] = some ([.fl (.int .i64 k2)], [.sl false ⟨6, true⟩ () ys]))
    (m1 : Mem w (.sl false ⟨6, true⟩ h X)) (nd : (own (.sl false ⟨6, true⟩ h X)).Nodup) (sh : ∀ b ∈ shr (.sl false ⟨6, true⟩ h X), b ∉ own (.sl false ⟨6, true⟩ h X)) :
    Calls Tryz.prog 18 #[.agg #[h, .int .i64 v], .int .i64 k] w fun e w' => e = .returned (.int .i64 k2) ∧ Aft w h X ys w' := by
  have fa := fr_alloc w [] (.cells #[h, .int .i64 v] 34)
  have m2 : Mem (w.alloc (.cells #[h, .int .i64 v] 34)) (.sl false ⟨6, true⟩ h X) := Mem.congr _ (fun b hb => fa.block b (all_lt _ m1 hb) (fun h => by cases h)) m1
  have hcall := calls51 h X k (w.alloc (.cells #[h, .int .i64 v] 34)) ht m2 nd sh
  have HC := Aside0.mk hcall
  have FA := Aside0.mk fa
  have SZ := Aside0.mk (show w.heap.size ≤ (w.alloc (.cells #[h, .int .i64 v] 34)).heap.size by rw [alloc_size]; omega)
  clear m1 m2 nd sh hcall fa ht
  go_enter Tryz.func18, Tryz.ntmps18
  go_wp2_with fail
  refine HC.out.mono ?_
  rintro e w1 ⟨rfl, Y, y1, y2, y3, y4, y5, y6, f1⟩
  have Z := Aside0.mk (show Aft w h X ys w1 from ⟨Y, y1, y2, y3, y4, fun b hb => (y5 b hb).imp id (Nat.le_trans SZ.out), fun b hb => (y6 b hb).imp id (Or.imp id (Nat.le_trans SZ.out)), by simpa using fr_trans FA.out f1⟩)
  clear HC FA SZ y1 y2 y3 y4 y5 y6 f1
  go_wp2
  go_ret
  exact ⟨rfl, Z.out⟩
end Go.Tree.G
