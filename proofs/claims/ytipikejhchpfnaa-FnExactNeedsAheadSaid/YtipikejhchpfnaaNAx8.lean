-- PRINTED by print.py (a twelfth state) out of the translation. Not trusted: Lean checks it.
import Derived.Test.YtipikejhchpfnaaNAx0
import Derived.Test.YtipikejhchpfnaaNAx6
import Derived.Test.YtipikejhchpfnaaNAx7
namespace Go.Proofs.Ytipikejhchpfnaa.NA
open Go.RowKit Go.Proofs.YtipikejhchpfnaaW.PrintWords Go.Proofs.YtipikejhchpfnaaW.PrintLast Go.Proofs.YtipikejhchpfnaaW.PrintMore
attribute [local go_sem] max2_int min2_int max_two min_two max_three min_three max_four min_four   -- for this text's walks alone
set_option linter.unusedVariables false
set_option linter.unusedSimpArgs false

/-! ### impl_NeedsAhead: function 22 -/
mutual
def impl_NeedsAhead.l0 : Nat → List Int → List Bool → List Bool → List (S77) → Int → Int → Option (List Int × Bool)
  | 0, _, _, _, _, _, _ => none
  | k + 1, x1, x6, x7, x20, x21, x22 => if x22 < x21 then (if 0 ≤ x22 then (if x22 < (x20.length : Int) then ((impl_Flat_uses.f k ((rd_T77 x20 x22).f0) ((rd_T77 x20 x22).f1) ((rd_T77 x20 x22).f2) ((rd_T77 x20 x22).f3) ((rd_T77 x20 x22).f4) ((rd_T77 x20 x22).f5)).bind fun t269 => (impl_NeedsAhead.l1 k x1 x6 x7 x20 x21 x22 t269 (t269.length : Int) 0 ((rd_T77 x20 x22).f0) ((rd_T77 x20 x22).f1) ((rd_T77 x20 x22).f2) ((rd_T77 x20 x22).f3) ((rd_T77 x20 x22).f4) ((rd_T77 x20 x22).f5))) else (none)) else (none)) else (impl_NeedsAhead.l2 k x6 x7 x1 (x1.length : Int) 0)
def impl_NeedsAhead.l1 : Nat → List Int → List Bool → List Bool → List (S77) → Int → Int → List Int → Int → Int → Int → Int → Int → Int → Int → Int → Option (List Int × Bool)
  | 0, _, _, _, _, _, _, _, _, _, _, _, _, _, _, _ => none
  | k + 1, x1, x6, x7, x20, x21, x22, x27, x28, x29, x269000, x269001, x269002, x269003, x269004, x269005 => if x29 < x28 then (if 0 ≤ x29 then (if x29 < (x27.length : Int) then (if 0 ≤ (rd x27 x29) then (if (rd x27 x29) < (x6.length : Int) then (if rdOf false x6 (rd x27 x29) = true then (impl_NeedsAhead.l1 k x1 (x6.set ((rd x27 x29) : Int).toNat true) x7 x20 x21 x22 x27 x28 (wrap64 (x29 + 1)) x269000 x269001 x269002 x269003 x269004 x269005) else (if (rd x27 x29) < (x7.length : Int) then (impl_NeedsAhead.l1 k x1 (x6.set ((rd x27 x29) : Int).toNat (!(rdOf false x7 (rd x27 x29)))) x7 x20 x21 x22 x27 x28 (wrap64 (x29 + 1)) x269000 x269001 x269002 x269003 x269004 x269005) else (none))) else (none)) else (none)) else (none)) else (none)) else ((impl_Flat_hasDst.f k x269000 x269001 x269002 x269003 x269004 x269005).bind fun t277 => (if t277 = true then (if 0 ≤ x269002 then (if x269002 < (x7.length : Int) then (impl_NeedsAhead.l0 k x1 x6 (x7.set (x269002 : Int).toNat true) x20 x21 (wrap64 (x22 + 1))) else (none)) else (none)) else (impl_NeedsAhead.l0 k x1 x6 x7 x20 x21 (wrap64 (x22 + 1)))))
def impl_NeedsAhead.l2 : Nat → List Bool → List Bool → List Int → Int → Int → Option (List Int × Bool)
  | 0, _, _, _, _, _ => none
  | k + 1, x6, x7, x55, x56, x57 => if x57 < x56 then (if 0 ≤ x57 then (if x57 < (x55.length : Int) then (if 0 ≤ (rd x55 x57) then (if (rd x55 x57) < (x6.length : Int) then (if rdOf false x6 (rd x55 x57) = true then (impl_NeedsAhead.l2 k (x6.set ((rd x55 x57) : Int).toNat true) x7 x55 x56 (wrap64 (x57 + 1))) else (if (rd x55 x57) < (x7.length : Int) then (impl_NeedsAhead.l2 k (x6.set ((rd x55 x57) : Int).toNat (!(rdOf false x7 (rd x55 x57)))) x7 x55 x56 (wrap64 (x57 + 1))) else (none))) else (none)) else (none)) else (none)) else (none)) else ((impl_listOf.f k x6).bind fun t284 => (some (t284, true)))
end
def impl_NeedsAhead.f (k : Nat) (l0 : List (S77)) (l1 : List Int) : Option (List Int × Bool) := (impl_stackOK.f k l0 l1).bind fun t260 => (if t260 = true then (if 8 ≤ 281474976710656 then (impl_NeedsAhead.l0 k l1 (List.replicate 8 false) (List.replicate 8 false) l0 (l0.length : Int) 0) else (none)) else (some (([] : List Int), false)))
theorem impl_NeedsAhead.mono_l : ∀ k, (∀ y0 y1 y2 y3 y4 y5, LeO (impl_NeedsAhead.l0 k y0 y1 y2 y3 y4 y5) (impl_NeedsAhead.l0 (k + 1) y0 y1 y2 y3 y4 y5)) ∧ (∀ y0 y1 y2 y3 y4 y5 y6 y7 y8 y9 y10 y11 y12 y13 y14, LeO (impl_NeedsAhead.l1 k y0 y1 y2 y3 y4 y5 y6 y7 y8 y9 y10 y11 y12 y13 y14) (impl_NeedsAhead.l1 (k + 1) y0 y1 y2 y3 y4 y5 y6 y7 y8 y9 y10 y11 y12 y13 y14)) ∧ (∀ y0 y1 y2 y3 y4, LeO (impl_NeedsAhead.l2 k y0 y1 y2 y3 y4) (impl_NeedsAhead.l2 (k + 1) y0 y1 y2 y3 y4))
  | 0 => ⟨fun _ _ _ _ _ _ r h => by simp [impl_NeedsAhead.l0] at h, fun _ _ _ _ _ _ _ _ _ _ _ _ _ _ _ r h => by simp [impl_NeedsAhead.l1] at h, fun _ _ _ _ _ r h => by simp [impl_NeedsAhead.l2] at h⟩
  | k + 1 => by
    obtain ⟨ih0, ih1, ih2⟩ := impl_NeedsAhead.mono_l k
    refine ⟨?_, ?_, ?_⟩
    · intro y0 y1 y2 y3 y4 y5
      unfold impl_NeedsAhead.l0
      repeat' first
      | (with_reducible exact ih0 _ _ _ _ _ _)
      | (with_reducible exact ih1 _ _ _ _ _ _ _ _ _ _ _ _ _ _ _)
      | (with_reducible exact ih2 _ _ _ _ _)
      | (with_reducible exact impl_Flat_hasDst.mono _ _ _ _ _ _ _)
      | (with_reducible exact impl_Flat_uses.mono _ _ _ _ _ _ _)
      | (with_reducible exact impl_listOf.mono _ _)
      | (with_reducible exact impl_stackOK.mono _ _ _)
      | (with_reducible exact LeO.refl _)
      | (with_reducible exact LeO.none _)
      | (with_reducible refine LeO.ite ?_ ?_)
      | (with_reducible refine LeO.bind ?_ (fun _ => ?_))
      | exact ih0 _ _ _ _ _ _
      | exact ih1 _ _ _ _ _ _ _ _ _ _ _ _ _ _ _
      | exact ih2 _ _ _ _ _
      | exact impl_Flat_hasDst.mono _ _ _ _ _ _ _
      | exact impl_Flat_uses.mono _ _ _ _ _ _ _
      | exact impl_listOf.mono _ _
      | exact impl_stackOK.mono _ _ _
      | exact LeO.none _
      | refine LeO.ite ?_ ?_
      | refine LeO.bind ?_ (fun _ => ?_)
    · intro y0 y1 y2 y3 y4 y5 y6 y7 y8 y9 y10 y11 y12 y13 y14
      unfold impl_NeedsAhead.l1
      repeat' first
      | (with_reducible exact ih0 _ _ _ _ _ _)
      | (with_reducible exact ih1 _ _ _ _ _ _ _ _ _ _ _ _ _ _ _)
      | (with_reducible exact ih2 _ _ _ _ _)
      | (with_reducible exact impl_Flat_hasDst.mono _ _ _ _ _ _ _)
      | (with_reducible exact impl_Flat_uses.mono _ _ _ _ _ _ _)
      | (with_reducible exact impl_listOf.mono _ _)
      | (with_reducible exact impl_stackOK.mono _ _ _)
      | (with_reducible exact LeO.refl _)
      | (with_reducible exact LeO.none _)
      | (with_reducible refine LeO.ite ?_ ?_)
      | (with_reducible refine LeO.bind ?_ (fun _ => ?_))
      | exact ih0 _ _ _ _ _ _
      | exact ih1 _ _ _ _ _ _ _ _ _ _ _ _ _ _ _
      | exact ih2 _ _ _ _ _
      | exact impl_Flat_hasDst.mono _ _ _ _ _ _ _
      | exact impl_Flat_uses.mono _ _ _ _ _ _ _
      | exact impl_listOf.mono _ _
      | exact impl_stackOK.mono _ _ _
      | exact LeO.none _
      | refine LeO.ite ?_ ?_
      | refine LeO.bind ?_ (fun _ => ?_)
    · intro y0 y1 y2 y3 y4
      unfold impl_NeedsAhead.l2
      repeat' first
      | (with_reducible exact ih0 _ _ _ _ _ _)
      | (with_reducible exact ih1 _ _ _ _ _ _ _ _ _ _ _ _ _ _ _)
      | (with_reducible exact ih2 _ _ _ _ _)
      | (with_reducible exact impl_Flat_hasDst.mono _ _ _ _ _ _ _)
      | (with_reducible exact impl_Flat_uses.mono _ _ _ _ _ _ _)
      | (with_reducible exact impl_listOf.mono _ _)
      | (with_reducible exact impl_stackOK.mono _ _ _)
      | (with_reducible exact LeO.refl _)
      | (with_reducible exact LeO.none _)
      | (with_reducible refine LeO.ite ?_ ?_)
      | (with_reducible refine LeO.bind ?_ (fun _ => ?_))
      | exact ih0 _ _ _ _ _ _
      | exact ih1 _ _ _ _ _ _ _ _ _ _ _ _ _ _ _
      | exact ih2 _ _ _ _ _
      | exact impl_Flat_hasDst.mono _ _ _ _ _ _ _
      | exact impl_Flat_uses.mono _ _ _ _ _ _ _
      | exact impl_listOf.mono _ _
      | exact impl_stackOK.mono _ _ _
      | exact LeO.none _
      | refine LeO.ite ?_ ?_
      | refine LeO.bind ?_ (fun _ => ?_)
theorem impl_NeedsAhead.mono : ∀ a0 a1 k, LeO (impl_NeedsAhead.f k a0 a1) (impl_NeedsAhead.f (k + 1) a0 a1) := by
  intro a0 a1 k
  obtain ⟨ih0, ih1, ih2⟩ := impl_NeedsAhead.mono_l k
  unfold impl_NeedsAhead.f
  repeat' first
      | (with_reducible exact ih0 _ _ _ _ _ _)
      | (with_reducible exact ih1 _ _ _ _ _ _ _ _ _ _ _ _ _ _ _)
      | (with_reducible exact ih2 _ _ _ _ _)
      | (with_reducible exact impl_Flat_hasDst.mono _ _ _ _ _ _ _)
      | (with_reducible exact impl_Flat_uses.mono _ _ _ _ _ _ _)
      | (with_reducible exact impl_listOf.mono _ _)
      | (with_reducible exact impl_stackOK.mono _ _ _)
      | (with_reducible exact LeO.refl _)
      | (with_reducible exact LeO.none _)
      | (with_reducible refine LeO.ite ?_ ?_)
      | (with_reducible refine LeO.bind ?_ (fun _ => ?_))
      | exact ih0 _ _ _ _ _ _
      | exact ih1 _ _ _ _ _ _ _ _ _ _ _ _ _ _ _
      | exact ih2 _ _ _ _ _
      | exact impl_Flat_hasDst.mono _ _ _ _ _ _ _
      | exact impl_Flat_uses.mono _ _ _ _ _ _ _
      | exact impl_listOf.mono _ _
      | exact impl_stackOK.mono _ _ _
      | exact LeO.none _
      | refine LeO.ite ?_ ?_
      | refine LeO.bind ?_ (fun _ => ?_)
set_option maxHeartbeats 8000000 in
set_option maxRecDepth 100000 in
theorem impl_NeedsAhead.calls (k : Nat) (A0 : Option Addr) (c0 : Nat) (l0 : List (S77)) (A1 : Option Addr) (c1 : Nat) (l1 : List Int) (r1 : List Int) (r2 : Bool) (w : World) (hr0 : Kd.C k77 w A0 l0.length l0) (hc0 : l0.length ≤ c0) (hr1 : Kd.C (Kd.int .i64) w A1 l1.length l1) (hc1 : l1.length ≤ c1) (h : impl_NeedsAhead.f k l0 l1 = some (r1, r2)) :
    Calls Try.prog 22 #[.slice A0 l0.length c0, .slice A1 l1.length c1] w fun e w' => ∃ v0_ : Value, e = .returned (.tuple #[v0_, .bool r2]) ∧ Kd.R (Kd.int .i64) 3 w' w.heap.size (fun _ => True) v0_ r1 ∧ Below w.heap.size w w' := by
  have hu77 := Try.underlying77
  have HR0 := Aside0.mk hr0
  have HC0 := Aside0.mk hc0
  clear hr0 hc0
  have HR1 := Aside0.mk hr1
  have HC1 := Aside0.mk hc1
  clear hr1 hc1
  have HB := Aside0.mk (Below.refl w.heap.size w)
  have H : ((impl_stackOK.f k l0 l1).bind fun t260 => (if t260 = true then (if 8 ≤ 281474976710656 then (impl_NeedsAhead.l0 k l1 (List.replicate 8 false) (List.replicate 8 false) l0 (l0.length : Int) 0) else (none)) else (some (([] : List Int), false)))) = some (r1, r2) := h
  clear h
  replace H := Option.bind_eq_some_iff.mp H
  obtain ⟨t260, A30, H⟩ := H
  replace H : (if t260 = true then (if 8 ≤ 281474976710656 then (impl_NeedsAhead.l0 k l1 (List.replicate 8 false) (List.replicate 8 false) l0 (l0.length : Int) 0) else (none)) else (some (([] : List Int), false))) = some (r1, r2) := H
  have A3 := Aside0.mk A30
  clear A30
  by_cases c4 : t260 = true
  · subst c4
    have H1 : (if 8 ≤ 281474976710656 then (impl_NeedsAhead.l0 k l1 (List.replicate 8 false) (List.replicate 8 false) l0 (l0.length : Int) 0) else (none)) = some (r1, r2) := by rw [if_pos rfl] at H; exact H
    clear H
    have H := H1
    clear H1
    by_cases c5 : 8 ≤ 281474976710656
    · rw [if_pos c5] at H
      have c5b0 := eq_true c5
      have c5b1 : decide (8 ≤ 281474976710656) = true := decide_eq_true c5
      clear c5
      obtain ⟨y261, hy261⟩ : ∃ y_ : List Bool, y_ = (List.replicate 8 false) := ⟨_, rfl⟩
      replace H : (impl_NeedsAhead.l0 k l1 y261 (List.replicate 8 false) l0 (l0.length : Int) 0) = some (r1, r2) := by first | (rw [hy261]; with_reducible exact H) | (have H2_ := (Option.bind_some _ _).symm.trans H; rw [hy261]; with_reducible exact H2_) | (have H2_ := (Option.bind_some _ _).symm.trans H; with_reducible exact H2_) | with_reducible exact H | (rw [hy261]; exact H) | exact H
      have Ny261 := Aside0.mk hy261
      clear hy261
      obtain ⟨y264, hy264⟩ : ∃ y_ : List Bool, y_ = (List.replicate 8 false) := ⟨_, rfl⟩
      replace H : (impl_NeedsAhead.l0 k l1 y261 y264 l0 (l0.length : Int) 0) = some (r1, r2) := by first | (rw [hy264]; with_reducible exact H) | (have H2_ := (Option.bind_some _ _).symm.trans H; rw [hy264]; with_reducible exact H2_) | (have H2_ := (Option.bind_some _ _).symm.trans H; with_reducible exact H2_) | with_reducible exact H | (rw [hy264]; exact H) | exact H
      have Ny264 := Aside0.mk hy264
      clear hy264
      have H' := Aside0.mk H
      clear H
      go_enter Try.func22, Try.ntmps22
      try go_wp2_with (first | ((with_reducible refine gate_callee (f := 64) rfl ?_); refine goesL_ (some 16) rfl rfl Try.func64 (by kernel_rfl) rfl #[.slice A0 l0.length c0, .slice A1 l1.length c1] rfl (by (try simp only [List.map_toArray, List.map_cons, List.map_nil]); first | done | rfl | (simp only [List.length_drop, List.length_take]; rfl)) ?_; (with_reducible refine (impl_stackOK.calls k _ _ l0 _ _ l1 true _ ?side1 ?side2 ?side3 ?side4 A3.out).mono ?_); (case side1 => repeat (first | exact HR0.out | (with_reducible refine Kd.C_alloc ?_ _) | (with_reducible refine Kd.C_drewN ?_ _) | (with_reducible refine Kd.C_drew ?_))); (case side2 => exact HC0.out); (case side3 => repeat (first | exact HR1.out | (with_reducible refine Kd.C_alloc ?_ _) | (with_reducible refine Kd.C_drewN ?_ _) | (with_reducible refine Kd.C_drew ?_))); (case side4 => exact HC1.out); rintro e w6 ⟨rfl, hb⟩; refine ⟨_, rfl, ?_⟩; have n0_ := Aside0.mk (below_step (by repeat (first | (with_reducible first | exact HB.out | apply below_alloc | apply pw_below_drewN | apply below_drew1) | exact HB.out)) hb); clear HB; have HB := n0_; clear n0_; (try clear hb); (try clear hb2); (try clear hk); (try clear hi)))
      have n0_ := Aside0.mk (below_drew1 HB.out)
      clear HB
      have HB := n0_
      clear n0_
      refine start_ (n := 4) (S := fun w' => True) (ds := []) #[false, false, false, false] (by kernel_rfl) rfl rfl trivial (fun hHeld => ?_)
      generalize w6.drew = w7 at HB hHeld ⊢
      refine join_ (σ := Value × Value) 1 #[true, true, true, false] (fun s_ => [(18, s_.1), (19, s_.2), (6, s_.1)]) (fun s_ w' => (Kd.R Kd.bool 4 w' w.heap.size (fun k_ => some k_ ≠ (s_.2 : Value).ownBlock) s_.1 y261) ∧ (Kd.R Kd.bool 4 w' w.heap.size (fun k_ => some k_ ≠ (s_.1 : Value).ownBlock) s_.2 y264) ∧ (Below w.heap.size w w')) ?_ ?_
      rotate_left
      · intro hCont
        refine two_ (i := 0) (j := 1) (Ni := some 18) (Nj := some 19) #[true, false, false, false] #[false, true, false, false] rfl rfl rfl rfl (by kernel_rfl) (by decide) (by decide) (fun K hK => ?_) (fun K hK => ?_)
        · skip
          refine Kd.R_make_step Kd.bool _ 4 (by rfl) (N := 18) rfl 88 _ _ rfl 8 rfl rfl Try.underlying88 (.bool false) 1 info4 rfl (by decide) (by omega) false (ok := fun _ => True) (okp := fun _ => True) rfl (fun _ hk => hk) trivial (by omega) (by omega) (Below.refl _ _) (Nat.le_refl _) ?_
          intro v262 w8 ho9 hb hg_ hnew_
          clear hg_ hnew_
          (first | rw [← Ny261.out] at ho9 | (simp only [Int.reduceToNat] at ho9; rw [← Ny261.out] at ho9))
          have n0_ := Aside0.mk (Kd.R_lower ho9 (below_size (by repeat (first | (with_reducible first | exact HB.out | apply below_alloc | apply pw_below_drewN | apply below_drew1) | exact HB.out))))
          have n1_ := Aside0.mk (below_step (by repeat (first | (with_reducible first | exact HB.out | apply below_alloc | apply pw_below_drewN | apply below_drew1) | exact HB.out)) hb)
          clear HB
          have HO263 := n0_
          have HB := n1_
          clear n0_ n1_
          clear hb ho9
          refine hK.out _ _ trivial (fun hHeld => ?_)
          clear hK K
          refine norm_ (a' := ?_) ?_ ?_
          rotate_left
          · show Act.put _ (some 18) _ = _
            simp only [Act.put, List.setIfInBounds_toArray, List.set_cons_zero, List.set_cons_succ, i64_w, i32_w]
            rfl
          refine pure_ (i := 2) (N := some 6) (v := ?_) (a' := ?_) #[true, false, true, false] rfl rfl (by kernel_rfl) (fun _ _ _ h => h) (Or.inl ⟨by rfl, ?_⟩) ?_ ?_
          rotate_left
          · intro w'
            go_simp
            with_reducible rfl
          rotate_left
          · simp only [Act.put, List.setIfInBounds_toArray, List.set_cons_zero, List.set_cons_succ, i64_w, i32_w]
            rfl
          refine one_ (i := 1) (N := some 19) #[true, true, true, false] rfl rfl (by kernel_rfl) (by decide) (fun K hK => ?_)
          refine Kd.R_make_step Kd.bool _ 4 (by rfl) (N := 19) rfl 88 _ _ rfl 8 rfl rfl Try.underlying88 (.bool false) 1 info4 rfl (by decide) (by omega) false (ok := fun _ => True) (okp := fun _ => True) rfl (fun _ hk => hk) trivial (by omega) (by omega) (Below.refl _ _) (Nat.le_refl _) ?_
          intro v265 w10 ho11 hb hg_ hnew_
          clear hg_ hnew_
          (first | rw [← Ny264.out] at ho11 | (simp only [Int.reduceToNat] at ho11; rw [← Ny264.out] at ho11))
          have n0_ := Aside0.mk (Kd.R_elder' (by (with_reducible repeat (first | apply Kd.R_alloc | apply Kd.R_drewN | apply Kd.R_drew)); exact HO263.out) (Kd.R_base ho11) hb)
          have n1_ := Aside0.mk (Kd.R_lower (Kd.R_new' ho11 (Kd.R_lt (by (with_reducible repeat (first | apply Kd.R_alloc | apply Kd.R_drewN | apply Kd.R_drew)); exact HO263.out))) (below_size (by repeat (first | (with_reducible first | exact HB.out | apply below_alloc | apply pw_below_drewN | apply below_drew1) | exact HB.out))))
          have n2_ := Aside0.mk (below_step (by repeat (first | (with_reducible first | exact HB.out | apply below_alloc | apply pw_below_drewN | apply below_drew1) | exact HB.out)) hb)
          clear HO263
          clear HB
          have HO263 := n0_
          have HO266 := n1_
          have HB := n2_
          clear n0_ n1_ n2_
          clear hb ho11
          refine hK.out _ _ trivial (fun hHeld => ?_)
          clear hK K
          refine norm_ (a' := ?_) ?_ ?_
          rotate_left
          · show Act.put _ (some 19) _ = _
            simp only [Act.put, List.setIfInBounds_toArray, List.set_cons_zero, List.set_cons_succ, i64_w, i32_w]
            rfl
          exact norm_ (by simp only [putAll, Act.put, List.setIfInBounds_toArray, List.set_cons_zero, List.set_cons_succ]) (hCont (v262, v265) _ ⟨(by (with_reducible repeat (first | apply Kd.R_alloc | apply Kd.R_drewN | apply Kd.R_drew)); exact Kd.R_mono HO263.out (fun _ hk => hk.2)), (by (with_reducible repeat (first | apply Kd.R_alloc | apply Kd.R_drewN | apply Kd.R_drew)); exact Kd.R_mono HO266.out (fun _ hk => hk.2)), (by repeat (first | (with_reducible first | exact HB.out | apply below_alloc | apply pw_below_drewN | apply below_drew1) | exact HB.out))⟩)
        · skip
          refine Kd.R_make_step Kd.bool _ 4 (by rfl) (N := 19) rfl 88 _ _ rfl 8 rfl rfl Try.underlying88 (.bool false) 1 info4 rfl (by decide) (by omega) false (ok := fun _ => True) (okp := fun _ => True) rfl (fun _ hk => hk) trivial (by omega) (by omega) (Below.refl _ _) (Nat.le_refl _) ?_
          intro v265 w8 ho9 hb hg_ hnew_
          clear hg_ hnew_
          (first | rw [← Ny264.out] at ho9 | (simp only [Int.reduceToNat] at ho9; rw [← Ny264.out] at ho9))
          have n0_ := Aside0.mk (Kd.R_lower ho9 (below_size (by repeat (first | (with_reducible first | exact HB.out | apply below_alloc | apply pw_below_drewN | apply below_drew1) | exact HB.out))))
          have n1_ := Aside0.mk (below_step (by repeat (first | (with_reducible first | exact HB.out | apply below_alloc | apply pw_below_drewN | apply below_drew1) | exact HB.out)) hb)
          clear HB
          have HO266 := n0_
          have HB := n1_
          clear n0_ n1_
          clear hb ho9
          refine hK.out _ _ trivial (fun hHeld => ?_)
          clear hK K
          refine norm_ (a' := ?_) ?_ ?_
          rotate_left
          · show Act.put _ (some 19) _ = _
            simp only [Act.put, List.setIfInBounds_toArray, List.set_cons_zero, List.set_cons_succ, i64_w, i32_w]
            rfl
          refine one_ (i := 0) (N := some 18) #[true, true, false, false] rfl rfl (by kernel_rfl) (by decide) (fun K hK => ?_)
          refine Kd.R_make_step Kd.bool _ 4 (by rfl) (N := 18) rfl 88 _ _ rfl 8 rfl rfl Try.underlying88 (.bool false) 1 info4 rfl (by decide) (by omega) false (ok := fun _ => True) (okp := fun _ => True) rfl (fun _ hk => hk) trivial (by omega) (by omega) (Below.refl _ _) (Nat.le_refl _) ?_
          intro v262 w10 ho11 hb hg_ hnew_
          clear hg_ hnew_
          (first | rw [← Ny261.out] at ho11 | (simp only [Int.reduceToNat] at ho11; rw [← Ny261.out] at ho11))
          have n0_ := Aside0.mk (Kd.R_elder' (by (with_reducible repeat (first | apply Kd.R_alloc | apply Kd.R_drewN | apply Kd.R_drew)); exact HO266.out) (Kd.R_base ho11) hb)
          have n1_ := Aside0.mk (Kd.R_lower (Kd.R_new' ho11 (Kd.R_lt (by (with_reducible repeat (first | apply Kd.R_alloc | apply Kd.R_drewN | apply Kd.R_drew)); exact HO266.out))) (below_size (by repeat (first | (with_reducible first | exact HB.out | apply below_alloc | apply pw_below_drewN | apply below_drew1) | exact HB.out))))
          have n2_ := Aside0.mk (below_step (by repeat (first | (with_reducible first | exact HB.out | apply below_alloc | apply pw_below_drewN | apply below_drew1) | exact HB.out)) hb)
          clear HO266
          clear HB
          have HO266 := n0_
          have HO263 := n1_
          have HB := n2_
          clear n0_ n1_ n2_
          clear hb ho11
          refine hK.out _ _ trivial (fun hHeld => ?_)
          clear hK K
          refine norm_ (a' := ?_) ?_ ?_
          rotate_left
          · show Act.put _ (some 18) _ = _
            simp only [Act.put, List.setIfInBounds_toArray, List.set_cons_zero, List.set_cons_succ, i64_w, i32_w]
            rfl
          refine pure_ (i := 2) (N := some 6) (v := ?_) (a' := ?_) #[true, true, true, false] rfl rfl (by kernel_rfl) (fun _ _ _ h => h) (Or.inl ⟨by rfl, ?_⟩) ?_ ?_
          rotate_left
          · intro w'
            go_simp
            with_reducible rfl
          rotate_left
          · simp only [Act.put, List.setIfInBounds_toArray, List.set_cons_zero, List.set_cons_succ, i64_w, i32_w]
            rfl
          exact norm_ (by simp only [putAll, Act.put, List.setIfInBounds_toArray, List.set_cons_zero, List.set_cons_succ]) (hCont (v262, v265) _ ⟨(by (with_reducible repeat (first | apply Kd.R_alloc | apply Kd.R_drewN | apply Kd.R_drew)); exact Kd.R_mono HO263.out (fun _ hk => hk.2)), (by (with_reducible repeat (first | apply Kd.R_alloc | apply Kd.R_drewN | apply Kd.R_drew)); exact Kd.R_mono HO266.out (fun _ hk => hk.2)), (by repeat (first | (with_reducible first | exact HB.out | apply below_alloc | apply pw_below_drewN | apply below_drew1) | exact HB.out))⟩)
      rintro ⟨v262, v265⟩ w12 ⟨h0_, h1_, h2_⟩
      have n0_ : Aside0 (Kd.R Kd.bool 4 w12 w.heap.size (fun k_ => some k_ ≠ (v265 : Value).ownBlock) v262 y261) := ⟨h0_⟩
      have n1_ : Aside0 (Kd.R Kd.bool 4 w12 w.heap.size (fun k_ => some k_ ≠ (v262 : Value).ownBlock) v265 y264) := ⟨h1_⟩
      have n2_ : Aside0 (Below w.heap.size w w12) := ⟨h2_⟩
      clear HB
      clear h0_ h1_ h2_
      have HO263 := n0_
      have HO266 := n1_
      have HB := n2_
      clear n0_ n1_ n2_
      have hHeld := trivial
      refine norm_ (a' := ?_) ?_ ?_
      rotate_left
      · simp only [putAll, Act.put, List.setIfInBounds_toArray, List.set_cons_zero, List.set_cons_succ]
        rfl
      refine pure_ (i := 3) (N := some 7) (v := ?_) (a' := ?_) #[true, true, true, true] rfl rfl (by kernel_rfl) (fun _ _ _ h => h) (Or.inl ⟨by rfl, ?_⟩) ?_ ?_
      rotate_left
      · intro w'
        go_simp
        with_reducible rfl
      rotate_left
      · simp only [Act.put, List.setIfInBounds_toArray, List.set_cons_zero, List.set_cons_succ, i64_w, i32_w]
        rfl
      refine done_ (by kernel_rfl) ?_
      try go_wp2
      go_loopg [22] k (fun kq v22 w' => ∃ (x6_1 : List Bool) (x7_1 : List Bool) (x22_1 : Int), v22 = .int .i64 x22_1 ∧ Aside0 (impl_NeedsAhead.l0 kq l1 x6_1 x7_1 l0 (l0.length : Int) x22_1 = some (r1, r2)) ∧ Aside0 (kq ≤ k) ∧ Aside0 (Kd.R Kd.bool 4 w' w.heap.size (fun k_ => some k_ ≠ (v265 : Value).ownBlock) v262 x6_1) ∧ Aside0 (Kd.R Kd.bool 4 w' w.heap.size (fun k_ => some k_ ≠ (v262 : Value).ownBlock) v265 x7_1) ∧ Aside0 (Below w.heap.size w w'))
      case atStart => exact ⟨(y261), (y264), (0), (by first | rfl | (simp; done) | (simp [*]; done)), H', ⟨Nat.le_refl _⟩, ⟨by (with_reducible repeat (first | apply Kd.R_alloc | apply Kd.R_drewN | apply Kd.R_drew)); exact HO263.out⟩, ⟨by (with_reducible repeat (first | apply Kd.R_alloc | apply Kd.R_drewN | apply Kd.R_drew)); exact HO266.out⟩, ⟨by repeat (first | (with_reducible first | exact HB.out | apply below_alloc | apply pw_below_drewN | apply below_drew1) | exact HB.out)⟩⟩
      case round =>
        clear H'
        try clear c1
        try clear c2
        try clear p2
        try clear c4
        try clear c5
        try clear c5b0
        try clear c5b1
        try clear c6
        obtain ⟨x6_1, x7_1, x22_1, rfl, HA, HK1, HO_6, HO_7, HB⟩ := hrel
        cases gk with
        | zero => exact absurd HA.out (by simp [impl_NeedsAhead.l0])
        | succ k1 =>
          have H := HA.out
          clear HA
          simp only [impl_NeedsAhead.l0] at H
          by_cases c13 : x22_1 < (l0.length : Int)
          · rw [if_pos c13] at H
            have c13b0 : decide (x22_1 < (l0.length : Int)) = true := decide_eq_true c13
            clear c13
            by_cases c14 : 0 ≤ x22_1
            · rw [if_pos c14] at H
              have c14b0 : decide (0 ≤ x22_1) = true := decide_eq_true c14
              clear c14
              by_cases c15 : x22_1 < (l0.length : Int)
              · rw [if_pos c15] at H
                have c15b0 : decide (x22_1 < (l0.length : Int)) = true := decide_eq_true c15
                clear c15
                replace H := Option.bind_eq_some_iff.mp H
                obtain ⟨t269, A160, H⟩ := H
                replace H : (impl_NeedsAhead.l1 k1 l1 x6_1 x7_1 l0 (l0.length : Int) x22_1 t269 (t269.length : Int) 0 ((rd_T77 l0 x22_1).f0) ((rd_T77 l0 x22_1).f1) ((rd_T77 l0 x22_1).f2) ((rd_T77 l0 x22_1).f3) ((rd_T77 l0 x22_1).f4) ((rd_T77 l0 x22_1).f5)) = some (r1, r2) := H
                have A16 := Aside0.mk A160
                clear A160
                have H' := Aside0.mk H
                clear H
                have p267 : 0 ≤ (x22_1 : Int) := of_decide_eq_true (by first | (with_reducible assumption) | assumption)
                have q267 : x22_1 < (l0.length : Int) := of_decide_eq_true (by first | (with_reducible assumption) | assumption)
                obtain ⟨ad267, e267, hx267_0, hx267_1, hx267_2, hx267_3, hx267_4, hx267_5⟩ := at_T77 HR0.out x22_1 p267 q267
                cases e267
                replace hx267_0 := (HB.out.cell (World.block_lt_of_cell? w _ hx267_0)).trans hx267_0
                replace hx267_1 := (HB.out.cell (World.block_lt_of_cell? w _ hx267_1)).trans hx267_1
                replace hx267_2 := (HB.out.cell (World.block_lt_of_cell? w _ hx267_2)).trans hx267_2
                replace hx267_3 := (HB.out.cell (World.block_lt_of_cell? w _ hx267_3)).trans hx267_3
                replace hx267_4 := (HB.out.cell (World.block_lt_of_cell? w _ hx267_4)).trans hx267_4
                replace hx267_5 := (HB.out.cell (World.block_lt_of_cell? w _ hx267_5)).trans hx267_5
                replace p267 := eq_true p267
                replace q267 := eq_true q267
                go_wp2_with (first | ((with_reducible refine gate_dst (N := 9) rfl ?_); refine box_event ?hg (N := 9) ?hd (cs := #[.int .i64 0, .int .i64 0, .int .i64 0, .int .i64 0, .int .i64 0, .int .i64 0]) (t := 77) ?hr ?_; (case hd => rfl); (case hg => rfl); (case hr => first | (go_simp; done) | (go_simp; rfl)); intro gb268 hg w17 hbox hb; have n0_ := Aside0.mk (Kd.R_below (by (with_reducible repeat (first | apply Kd.R_alloc | apply Kd.R_drewN | apply Kd.R_drew)); exact HO_6.out) hb); have n1_ := Aside0.mk (Kd.R_below (by (with_reducible repeat (first | apply Kd.R_alloc | apply Kd.R_drewN | apply Kd.R_drew)); exact HO_7.out) hb); have n2_ := Aside0.mk (below_step (by repeat (first | (with_reducible first | exact HB.out | apply below_alloc | apply pw_below_drewN | apply below_drew1) | exact HB.out)) hb); have n3_ := Aside0.mk (hbox); have n4_ := Aside0.mk ((by rw [hg]; exact (below_size (by repeat (first | (with_reducible first | exact HB.out | apply below_alloc | apply pw_below_drewN | apply below_drew1) | exact HB.out))) : w.heap.size ≤ gb268)); have n5_ := Aside0.mk ((by rw [hg]; exact (below_size (by repeat (first | (with_reducible first | exact HB.out | apply below_alloc | apply pw_below_drewN | apply below_drew1) | exact HB.out))) : w.heap.size ≤ gb268)); clear HO_6; clear HO_7; clear HB; have HO_6 := n0_; have HO_7 := n1_; have HB := n2_; have BK268 := n3_; have GW268 := n4_; have GE268 := n5_; clear n0_ n1_ n2_ n3_ n4_ n5_; clear hb hbox hg; have hcz18_0 : w17.cell? ⟨gb268, 0, none⟩ = some (.int .i64 0) := (blk_cell BK268.out 0).trans rfl; have hcz18_1 : w17.cell? ⟨gb268, 1, none⟩ = some (.int .i64 0) := (blk_cell BK268.out 1).trans rfl; have hcz18_2 : w17.cell? ⟨gb268, 2, none⟩ = some (.int .i64 0) := (blk_cell BK268.out 2).trans rfl; have hcz18_3 : w17.cell? ⟨gb268, 3, none⟩ = some (.int .i64 0) := (blk_cell BK268.out 3).trans rfl; have hcz18_4 : w17.cell? ⟨gb268, 4, none⟩ = some (.int .i64 0) := (blk_cell BK268.out 4).trans rfl; have hcz18_5 : w17.cell? ⟨gb268, 5, none⟩ = some (.int .i64 0) := (blk_cell BK268.out 5).trans rfl; have hfz18_0 := blk_frozen BK268.out 0; have hfz18_1 := blk_frozen BK268.out 1; have hfz18_2 := blk_frozen BK268.out 2; have hfz18_3 := blk_frozen BK268.out 3; have hfz18_4 := blk_frozen BK268.out 4; have hfz18_5 := blk_frozen BK268.out 5) | ((with_reducible refine gate_callee (f := 72) rfl ?_); refine goesL_ (some 27) rfl rfl Try.func72 (by kernel_rfl) rfl #[.agg #[.int .i64 ((rd_T77 l0 x22_1).f0), .int .i64 ((rd_T77 l0 x22_1).f1), .int .i64 ((rd_T77 l0 x22_1).f2), .int .i64 ((rd_T77 l0 x22_1).f3), .int .i64 ((rd_T77 l0 x22_1).f4), .int .i64 ((rd_T77 l0 x22_1).f5)]] rfl (by (try simp only [List.map_toArray, List.map_cons, List.map_nil]); first | done | rfl | (simp only [List.length_drop, List.length_take]; rfl)) ?_; (with_reducible refine (impl_Flat_uses.calls k1 ((rd_T77 l0 x22_1).f0) ((rd_T77 l0 x22_1).f1) ((rd_T77 l0 x22_1).f2) ((rd_T77 l0 x22_1).f3) ((rd_T77 l0 x22_1).f4) ((rd_T77 l0 x22_1).f5) t269 _ A16.out).mono ?_); rintro e w19 ⟨v270, rfl, ho0, hb⟩; refine ⟨_, rfl, ?_⟩; have n0_ := Aside0.mk (Kd.R_below (by (with_reducible repeat (first | apply Kd.R_alloc | apply Kd.R_drewN | apply Kd.R_drew)); exact (Kd.R_mono (Kd.R_far (p := ⟨gb268, 5, none⟩) (Kd.R_far (p := ⟨gb268, 4, none⟩) (Kd.R_far (p := ⟨gb268, 3, none⟩) (Kd.R_far (p := ⟨gb268, 2, none⟩) (Kd.R_far (p := ⟨gb268, 1, none⟩) (Kd.R_far (p := ⟨gb268, 0, none⟩) (Kd.R_types HO_6.out BK268.out (by decide)) (fun _ hk => hk.2) (.int .i64 ((rd_T77 l0 x22_1).f0))) (fun _ hk => hk.2) (.int .i64 ((rd_T77 l0 x22_1).f1))) (fun _ hk => hk.2) (.int .i64 ((rd_T77 l0 x22_1).f2))) (fun _ hk => hk.2) (.int .i64 ((rd_T77 l0 x22_1).f3))) (fun _ hk => hk.2) (.int .i64 ((rd_T77 l0 x22_1).f4))) (fun _ hk => hk.2) (.int .i64 ((rd_T77 l0 x22_1).f5))) (fun _ h_ => h_.1))) hb); have n1_ := Aside0.mk (Kd.R_below (by (with_reducible repeat (first | apply Kd.R_alloc | apply Kd.R_drewN | apply Kd.R_drew)); exact (Kd.R_mono (Kd.R_far (p := ⟨gb268, 5, none⟩) (Kd.R_far (p := ⟨gb268, 4, none⟩) (Kd.R_far (p := ⟨gb268, 3, none⟩) (Kd.R_far (p := ⟨gb268, 2, none⟩) (Kd.R_far (p := ⟨gb268, 1, none⟩) (Kd.R_far (p := ⟨gb268, 0, none⟩) (Kd.R_types HO_7.out BK268.out (by decide)) (fun _ hk => hk.2) (.int .i64 ((rd_T77 l0 x22_1).f0))) (fun _ hk => hk.2) (.int .i64 ((rd_T77 l0 x22_1).f1))) (fun _ hk => hk.2) (.int .i64 ((rd_T77 l0 x22_1).f2))) (fun _ hk => hk.2) (.int .i64 ((rd_T77 l0 x22_1).f3))) (fun _ hk => hk.2) (.int .i64 ((rd_T77 l0 x22_1).f4))) (fun _ hk => hk.2) (.int .i64 ((rd_T77 l0 x22_1).f5))) (fun _ h_ => h_.1))) hb); have n2_ := Aside0.mk (Kd.R_lower ho0 (below_size (by repeat (first | (with_reducible first | exact HB.out | apply below_alloc | apply pw_below_drewN | apply below_drew1 | refine below_set ?_ GE268.out) | exact HB.out)))); have n3_ := Aside0.mk (blk_below (g := gb268) (o := .cells #[.int .i64 ((rd_T77 l0 x22_1).f0), .int .i64 ((rd_T77 l0 x22_1).f1), .int .i64 ((rd_T77 l0 x22_1).f2), .int .i64 ((rd_T77 l0 x22_1).f3), .int .i64 ((rd_T77 l0 x22_1).f4), .int .i64 ((rd_T77 l0 x22_1).f5)] 77 (0, 0)) (by (with_reducible repeat (first | refine blk_drewN ?_ _ | refine blk_drew ?_ | refine blk_alloc ?_ _)); refine blk_put (cs := #[.int .i64 ((rd_T77 l0 x22_1).f0), .int .i64 ((rd_T77 l0 x22_1).f1), .int .i64 ((rd_T77 l0 x22_1).f2), .int .i64 ((rd_T77 l0 x22_1).f3), .int .i64 ((rd_T77 l0 x22_1).f4), .int .i64 0]) ?_ 5 _ rfl; (with_reducible repeat (first | refine blk_drewN ?_ _ | refine blk_drew ?_ | refine blk_alloc ?_ _)); refine blk_put (cs := #[.int .i64 ((rd_T77 l0 x22_1).f0), .int .i64 ((rd_T77 l0 x22_1).f1), .int .i64 ((rd_T77 l0 x22_1).f2), .int .i64 ((rd_T77 l0 x22_1).f3), .int .i64 0, .int .i64 0]) ?_ 4 _ rfl; (with_reducible repeat (first | refine blk_drewN ?_ _ | refine blk_drew ?_ | refine blk_alloc ?_ _)); refine blk_put (cs := #[.int .i64 ((rd_T77 l0 x22_1).f0), .int .i64 ((rd_T77 l0 x22_1).f1), .int .i64 ((rd_T77 l0 x22_1).f2), .int .i64 0, .int .i64 0, .int .i64 0]) ?_ 3 _ rfl; (with_reducible repeat (first | refine blk_drewN ?_ _ | refine blk_drew ?_ | refine blk_alloc ?_ _)); refine blk_put (cs := #[.int .i64 ((rd_T77 l0 x22_1).f0), .int .i64 ((rd_T77 l0 x22_1).f1), .int .i64 0, .int .i64 0, .int .i64 0, .int .i64 0]) ?_ 2 _ rfl; (with_reducible repeat (first | refine blk_drewN ?_ _ | refine blk_drew ?_ | refine blk_alloc ?_ _)); refine blk_put (cs := #[.int .i64 ((rd_T77 l0 x22_1).f0), .int .i64 0, .int .i64 0, .int .i64 0, .int .i64 0, .int .i64 0]) ?_ 1 _ rfl; (with_reducible repeat (first | refine blk_drewN ?_ _ | refine blk_drew ?_ | refine blk_alloc ?_ _)); refine blk_put (cs := #[.int .i64 0, .int .i64 0, .int .i64 0, .int .i64 0, .int .i64 0, .int .i64 0]) ?_ 0 _ rfl; (with_reducible repeat (first | refine blk_drewN ?_ _ | refine blk_drew ?_ | refine blk_alloc ?_ _)); exact BK268.out) hb); have n4_ := Aside0.mk (below_step (by repeat (first | (with_reducible first | exact HB.out | apply below_alloc | apply pw_below_drewN | apply below_drew1 | refine below_set ?_ GE268.out) | exact HB.out)) hb); clear HO_6; clear HO_7; clear BK268; clear HB; have HO_6 := n0_; have HO_7 := n1_; have HO271 := n2_; have BK268 := n3_; have HB := n4_; clear n0_ n1_ n2_ n3_ n4_; (try clear hb); (try clear hb2); (try clear hk); (try clear hi); (try clear ho0); obtain ⟨Ao20, co20, eo20⟩ := Kd.R_slice HO271.out; subst eo20))
                go_loopg [29] k1 (fun kq v29 w' => ∃ (x6_2 : List Bool) (x29_2 : Int), v29 = .int .i64 x29_2 ∧ Aside0 (impl_NeedsAhead.l1 kq l1 x6_2 x7_1 l0 (l0.length : Int) x22_1 t269 (t269.length : Int) x29_2 ((rd_T77 l0 x22_1).f0) ((rd_T77 l0 x22_1).f1) ((rd_T77 l0 x22_1).f2) ((rd_T77 l0 x22_1).f3) ((rd_T77 l0 x22_1).f4) ((rd_T77 l0 x22_1).f5) = some (r1, r2)) ∧ Aside0 (kq ≤ k1) ∧ Aside0 (Kd.R Kd.bool 4 w' w.heap.size (fun k_ => some k_ ≠ (v265 : Value).ownBlock) v262 x6_2) ∧ Aside0 (Kd.R Kd.bool 4 w' w.heap.size (fun k_ => some k_ ≠ (v262 : Value).ownBlock) v265 x7_1) ∧ Aside0 (Kd.R (Kd.int .i64) 3 w' w.heap.size (fun _ => True) (.slice Ao20 t269.length co20) t269) ∧ Aside0 (w'.heap[gb268]? = some (.cells #[.int .i64 ((rd_T77 l0 x22_1).f0), .int .i64 ((rd_T77 l0 x22_1).f1), .int .i64 ((rd_T77 l0 x22_1).f2), .int .i64 ((rd_T77 l0 x22_1).f3), .int .i64 ((rd_T77 l0 x22_1).f4), .int .i64 ((rd_T77 l0 x22_1).f5)] 77 (0, 0))) ∧ Aside0 (Below w.heap.size w w'))
                case atStart => exact ⟨(x6_1), (0), (by first | rfl | (simp; done) | (simp [*]; done)), H', ⟨Nat.le_refl _⟩, ⟨by (with_reducible repeat (first | apply Kd.R_alloc | apply Kd.R_drewN | apply Kd.R_drew)); exact HO_6.out⟩, ⟨by (with_reducible repeat (first | apply Kd.R_alloc | apply Kd.R_drewN | apply Kd.R_drew)); exact HO_7.out⟩, ⟨by (with_reducible repeat (first | apply Kd.R_alloc | apply Kd.R_drewN | apply Kd.R_drew)); exact HO271.out⟩, ⟨by (with_reducible repeat (first | refine blk_drewN ?_ _ | refine blk_drew ?_ | refine blk_alloc ?_ _)); exact BK268.out⟩, ⟨by repeat (first | (with_reducible first | exact HB.out | apply below_alloc | apply pw_below_drewN | apply below_drew1 | refine below_set ?_ GE268.out) | exact HB.out)⟩⟩
                case round =>
                  clear H'
                  try clear c1
                  try clear c2
                  try clear p2
                  try clear q2
                  try clear hx2
                  try clear c4
                  try clear c5
                  try clear c5b0
                  try clear c5b1
                  try clear c6
                  try clear c7
                  try clear c13
                  try clear c13b0
                  try clear c14
                  try clear c14b0
                  try clear c15
                  try clear c15b0
                  try clear hcz18_0
                  try clear hcz18_1
                  try clear hcz18_2
                  try clear hcz18_3
                  try clear hcz18_4
                  try clear hcz18_5
                  try clear hfz18_0
                  try clear hfz18_1
                  try clear hfz18_2
                  try clear hfz18_3
                  try clear hfz18_4
                  try clear hfz18_5
                  try clear hx267_0
                  try clear hx267_1
                  try clear hx267_2
                  try clear hx267_3
                  try clear hx267_4
                  try clear hx267_5
                  try clear p2
                  try clear p267
                  try clear q267
                  obtain ⟨x6_2, x29_2, rfl, HA, HK2, HO_6, HO_7, HO_27, BK268, HB⟩ := hrel
                  cases gk with
                  | zero => exact absurd HA.out (by simp [impl_NeedsAhead.l1])
                  | succ k2 =>
                    have H := HA.out
                    clear HA
                    simp only [impl_NeedsAhead.l1] at H
                    by_cases c21 : x29_2 < (t269.length : Int)
                    · rw [if_pos c21] at H
                      have c21b0 : decide (x29_2 < (t269.length : Int)) = true := decide_eq_true c21
                      clear c21
                      by_cases c22 : 0 ≤ x29_2
                      · rw [if_pos c22] at H
                        have c22b0 : decide (0 ≤ x29_2) = true := decide_eq_true c22
                        clear c22
                        by_cases c23 : x29_2 < (t269.length : Int)
                        · rw [if_pos c23] at H
                          have c23b0 : decide (x29_2 < (t269.length : Int)) = true := decide_eq_true c23
                          clear c23
                          by_cases c24 : 0 ≤ (rd t269 x29_2)
                          · rw [if_pos c24] at H
                            have c24b0 : decide (0 ≤ (rd t269 x29_2)) = true := decide_eq_true c24
                            clear c24
                            by_cases c25 : (rd t269 x29_2) < (x6_2.length : Int)
                            · rw [if_pos c25] at H
                              have c25b0 : decide ((rd t269 x29_2) < (x6_2.length : Int)) = true := decide_eq_true c25
                              clear c25
                              obtain ⟨bq26, hbq26⟩ : ∃ b_ : Bool, b_ = (rdOf false x6_2 (rd t269 x29_2)) := ⟨_, rfl⟩
                              replace H : (if bq26 = true then (impl_NeedsAhead.l1 k2 l1 (x6_2.set ((rd t269 x29_2) : Int).toNat true) x7_1 l0 (l0.length : Int) x22_1 t269 (t269.length : Int) (wrap64 (x29_2 + 1)) ((rd_T77 l0 x22_1).f0) ((rd_T77 l0 x22_1).f1) ((rd_T77 l0 x22_1).f2) ((rd_T77 l0 x22_1).f3) ((rd_T77 l0 x22_1).f4) ((rd_T77 l0 x22_1).f5)) else (if (rd t269 x29_2) < (x7_1.length : Int) then (impl_NeedsAhead.l1 k2 l1 (x6_2.set ((rd t269 x29_2) : Int).toNat (!(rdOf false x7_1 (rd t269 x29_2)))) x7_1 l0 (l0.length : Int) x22_1 t269 (t269.length : Int) (wrap64 (x29_2 + 1)) ((rd_T77 l0 x22_1).f0) ((rd_T77 l0 x22_1).f1) ((rd_T77 l0 x22_1).f2) ((rd_T77 l0 x22_1).f3) ((rd_T77 l0 x22_1).f4) ((rd_T77 l0 x22_1).f5)) else (none))) = some (r1, r2) := by rw [← hbq26] at H; exact H
                              have Nbq26 := Aside0.mk hbq26
                              clear hbq26
                              by_cases c27 : bq26 = true
                              · subst c27
                                have H1 : (impl_NeedsAhead.l1 k2 l1 (x6_2.set ((rd t269 x29_2) : Int).toNat true) x7_1 l0 (l0.length : Int) x22_1 t269 (t269.length : Int) (wrap64 (x29_2 + 1)) ((rd_T77 l0 x22_1).f0) ((rd_T77 l0 x22_1).f1) ((rd_T77 l0 x22_1).f2) ((rd_T77 l0 x22_1).f3) ((rd_T77 l0 x22_1).f4) ((rd_T77 l0 x22_1).f5)) = some (r1, r2) := by rw [if_pos rfl] at H; exact H
                                clear H
                                have H := H1
                                clear H1
                                obtain ⟨y274, hy274⟩ : ∃ y_ : List Bool, y_ = (x6_2.set ((rd t269 x29_2) : Int).toNat true) := ⟨_, rfl⟩
                                replace H : (impl_NeedsAhead.l1 k2 l1 y274 x7_1 l0 (l0.length : Int) x22_1 t269 (t269.length : Int) (wrap64 (x29_2 + 1)) ((rd_T77 l0 x22_1).f0) ((rd_T77 l0 x22_1).f1) ((rd_T77 l0 x22_1).f2) ((rd_T77 l0 x22_1).f3) ((rd_T77 l0 x22_1).f4) ((rd_T77 l0 x22_1).f5)) = some (r1, r2) := by first | (rw [hy274]; with_reducible exact H) | (have H2_ := (Option.bind_some _ _).symm.trans H; rw [hy274]; with_reducible exact H2_) | (have H2_ := (Option.bind_some _ _).symm.trans H; with_reducible exact H2_) | with_reducible exact H | (rw [hy274]; exact H) | exact H
                                have Ny274 := Aside0.mk hy274
                                clear hy274
                                have H' := Aside0.mk H
                                clear H
                                have p272 : 0 ≤ (x29_2 : Int) := of_decide_eq_true (by first | (with_reducible assumption) | assumption)
                                have q272 : x29_2 < (t269.length : Int) := of_decide_eq_true (by first | (with_reducible assumption) | assumption)
                                obtain ⟨ad272, e272, hx272_0⟩ := Kd.at_int (Kd.R_reads' HO_27.out).2.2 x29_2 p272 q272
                                cases e272
                                replace p272 := eq_true p272
                                replace q272 := eq_true q272
                                obtain ⟨Ao29, co29, eo29⟩ := Kd.R_slice HO_6.out
                                subst eo29
                                have p273 : 0 ≤ ((rd t269 x29_2) : Int) := of_decide_eq_true (by first | (with_reducible assumption) | assumption)
                                have q273 : (rd t269 x29_2) < (x6_2.length : Int) := of_decide_eq_true (by first | (with_reducible assumption) | assumption)
                                obtain ⟨ad273, e273, hx273_0⟩ := Kd.at_bool (Kd.R_reads' HO_6.out).2.2 (rd t269 x29_2) p273 q273
                                (try rw [← Nbq26.out] at hx273_0)
                                cases e273
                                replace p273 := eq_true p273
                                replace q273 := eq_true q273
                                have p28 : 0 ≤ ((rd t269 x29_2) : Int) := of_decide_eq_true (by first | (with_reducible assumption) | assumption)
                                have q28 : ((rd t269 x29_2) : Int) < ((x6_2.length : Int) : Int) := of_decide_eq_true (by first | (with_reducible assumption) | assumption)
                                obtain ⟨go28, co28, eo28, gb28, gl28, cl28, HG28⟩ := Kd.R_form HO_6.out (by omega)
                                (first | cases eo28 | (injection eo28 with ea_ en_ ec_; (first | subst ea_ | (injection ea_ with ea_; subst ea_)); subst ec_; clear en_))
                                have GB28 := Aside0.mk gb28
                                have GG28 := Aside0.mk HG28
                                clear gb28 gl28 HG28
                                (first | simp only [add_plain] at hx273_0 | skip)
                                obtain ⟨hx28_0, hf28_0⟩ := Kd.R_celln false HO_6.out ((rd t269 x29_2) : Int) p28 q28
                                replace p28 := eq_true p28
                                replace q28 := eq_true q28
                                have HP30 := Kd.R_putg HO_6.out ((rd t269 x29_2) : Int) true
                                go_wp2_with (first | ((with_reducible refine gate_store (t := 4) (p := 46) rfl ?_); refine store_event (t := 4) (p := 46) (v := ?vo_w31) (w1 := (wr.setCell ⟨go28, ((rd t269 x29_2) : Int).toNat, none⟩ (.bool true))) ?hg ?ho ?hn ?hr ?_; (case ho => rfl); (case hg => rfl); (case hn => rfl); (case hr => first | (go_simp; done) | (go_simp; rfl)); intro w31 hw; have hg : wr.grownBy w31 (some go28) := (by rw [hw]; exact HP30.2); have hp_ : Kd.R Kd.bool 4 w31 w.heap.size (fun k_ => some k_ ≠ (v265 : Value).ownBlock) (.slice (some ⟨go28, 0, none⟩) x6_2.length co29) y274 := (by rw [hw, Ny274.out]; exact HP30.1); clear HP30; have n0_ := Aside0.mk (hp_); have n1_ := Aside0.mk (Kd.R_after (v := (.slice (some ⟨go28, 0, none⟩) x6_2.length co29)) (v1 := (.slice (some ⟨go28, 0, none⟩) x6_2.length co29)) (ok := (fun _ => True)) (by (with_reducible repeat (first | apply Kd.R_alloc | apply Kd.R_drewN | apply Kd.R_drew)); exact Kd.R_mono HO_7.out (fun _ hk => ⟨trivial, hk⟩)) hg (.inl rfl)); have n2_ := Aside0.mk (Kd.R_over' (v := (.slice (some ⟨go28, 0, none⟩) x6_2.length co29)) (by (with_reducible repeat (first | apply Kd.R_alloc | apply Kd.R_drewN | apply Kd.R_drew)); exact HO_27.out) (Kd.R_typed HO_6.out) (by decide) hg); have n3_ := Aside0.mk (blk_grown (g := gb268) (o := .cells #[.int .i64 ((rd_T77 l0 x22_1).f0), .int .i64 ((rd_T77 l0 x22_1).f1), .int .i64 ((rd_T77 l0 x22_1).f2), .int .i64 ((rd_T77 l0 x22_1).f3), .int .i64 ((rd_T77 l0 x22_1).f4), .int .i64 ((rd_T77 l0 x22_1).f5)] 77 (0, 0)) (by (with_reducible repeat (first | refine blk_drewN ?_ _ | refine blk_drew ?_ | refine blk_alloc ?_ _)); exact BK268.out) hg (Kd.R_ne HO_6.out BK268.out (by decide))); have n4_ := Aside0.mk ((by rw [hw]; exact below_set (HB.out) GB28.out : Below w.heap.size w w31)); clear HO_6; clear HO_7; clear HO_27; clear BK268; clear HB; have HO_6 := n0_; have HO_7 := n1_; have HO_27 := n2_; have BK268 := n3_; have HB := n4_; clear n0_ n1_ n2_ n3_ n4_; clear hg hw hp_))
                                go_roundg k2
                                case measure => have := HK1.out; have := HK2.out; omega
                                case rel => exact ⟨(y274), (wrap64 (x29_2 + 1)), (by first | rfl | (simp; done) | (simp [*]; done)), H', ⟨by have := HK1.out; have := HK2.out; omega⟩, ⟨by (with_reducible repeat (first | apply Kd.R_alloc | apply Kd.R_drewN | apply Kd.R_drew)); exact HO_6.out⟩, ⟨by (with_reducible repeat (first | apply Kd.R_alloc | apply Kd.R_drewN | apply Kd.R_drew)); exact Kd.R_mono HO_7.out (fun _ hk => hk.2)⟩, ⟨by (with_reducible repeat (first | apply Kd.R_alloc | apply Kd.R_drewN | apply Kd.R_drew)); exact HO_27.out⟩, ⟨by (with_reducible repeat (first | refine blk_drewN ?_ _ | refine blk_drew ?_ | refine blk_alloc ?_ _)); exact BK268.out⟩, ⟨by repeat (first | (with_reducible first | exact HB.out | apply below_alloc | apply pw_below_drewN | apply below_drew1 | refine below_set ?_ GE268.out) | exact HB.out)⟩⟩
                              · replace c27 := Bool.eq_false_iff.mpr c27
                                subst c27
                                have H1 : (if (rd t269 x29_2) < (x7_1.length : Int) then (impl_NeedsAhead.l1 k2 l1 (x6_2.set ((rd t269 x29_2) : Int).toNat (!(rdOf false x7_1 (rd t269 x29_2)))) x7_1 l0 (l0.length : Int) x22_1 t269 (t269.length : Int) (wrap64 (x29_2 + 1)) ((rd_T77 l0 x22_1).f0) ((rd_T77 l0 x22_1).f1) ((rd_T77 l0 x22_1).f2) ((rd_T77 l0 x22_1).f3) ((rd_T77 l0 x22_1).f4) ((rd_T77 l0 x22_1).f5)) else (none)) = some (r1, r2) := by rw [if_neg (show ¬ (false = true) by decide)] at H; exact H
                                clear H
                                have H := H1
                                clear H1
                                by_cases c32 : (rd t269 x29_2) < (x7_1.length : Int)
                                · rw [if_pos c32] at H
                                  have c32b0 : decide ((rd t269 x29_2) < (x7_1.length : Int)) = true := decide_eq_true c32
                                  clear c32
                                  obtain ⟨y276, hy276⟩ : ∃ y_ : List Bool, y_ = (x6_2.set ((rd t269 x29_2) : Int).toNat (!(rdOf false x7_1 (rd t269 x29_2)))) := ⟨_, rfl⟩
                                  replace H : (impl_NeedsAhead.l1 k2 l1 y276 x7_1 l0 (l0.length : Int) x22_1 t269 (t269.length : Int) (wrap64 (x29_2 + 1)) ((rd_T77 l0 x22_1).f0) ((rd_T77 l0 x22_1).f1) ((rd_T77 l0 x22_1).f2) ((rd_T77 l0 x22_1).f3) ((rd_T77 l0 x22_1).f4) ((rd_T77 l0 x22_1).f5)) = some (r1, r2) := by first | (rw [hy276]; with_reducible exact H) | (have H2_ := (Option.bind_some _ _).symm.trans H; rw [hy276]; with_reducible exact H2_) | (have H2_ := (Option.bind_some _ _).symm.trans H; with_reducible exact H2_) | with_reducible exact H | (rw [hy276]; exact H) | exact H
                                  have Ny276 := Aside0.mk hy276
                                  clear hy276
                                  have H' := Aside0.mk H
                                  clear H
                                  have p272 : 0 ≤ (x29_2 : Int) := of_decide_eq_true (by first | (with_reducible assumption) | assumption)
                                  have q272 : x29_2 < (t269.length : Int) := of_decide_eq_true (by first | (with_reducible assumption) | assumption)
                                  obtain ⟨ad272, e272, hx272_0⟩ := Kd.at_int (Kd.R_reads' HO_27.out).2.2 x29_2 p272 q272
                                  cases e272
                                  replace p272 := eq_true p272
                                  replace q272 := eq_true q272
                                  obtain ⟨Ao34, co34, eo34⟩ := Kd.R_slice HO_6.out
                                  subst eo34
                                  have p273 : 0 ≤ ((rd t269 x29_2) : Int) := of_decide_eq_true (by first | (with_reducible assumption) | assumption)
                                  have q273 : (rd t269 x29_2) < (x6_2.length : Int) := of_decide_eq_true (by first | (with_reducible assumption) | assumption)
                                  obtain ⟨ad273, e273, hx273_0⟩ := Kd.at_bool (Kd.R_reads' HO_6.out).2.2 (rd t269 x29_2) p273 q273
                                  (try rw [← Nbq26.out] at hx273_0)
                                  cases e273
                                  replace p273 := eq_true p273
                                  replace q273 := eq_true q273
                                  obtain ⟨Ao35, co35, eo35⟩ := Kd.R_slice HO_7.out
                                  subst eo35
                                  have p275 : 0 ≤ ((rd t269 x29_2) : Int) := of_decide_eq_true (by first | (with_reducible assumption) | assumption)
                                  have q275 : (rd t269 x29_2) < (x7_1.length : Int) := of_decide_eq_true (by first | (with_reducible assumption) | assumption)
                                  obtain ⟨ad275, e275, hx275_0⟩ := Kd.at_bool (Kd.R_reads' HO_7.out).2.2 (rd t269 x29_2) p275 q275
                                  (try rw [← Nbq26.out] at hx275_0)
                                  cases e275
                                  replace p275 := eq_true p275
                                  replace q275 := eq_true q275
                                  have p33 : 0 ≤ ((rd t269 x29_2) : Int) := of_decide_eq_true (by first | (with_reducible assumption) | assumption)
                                  have q33 : ((rd t269 x29_2) : Int) < ((x6_2.length : Int) : Int) := of_decide_eq_true (by first | (with_reducible assumption) | assumption)
                                  obtain ⟨go33, co33, eo33, gb33, gl33, cl33, HG33⟩ := Kd.R_form HO_6.out (by omega)
                                  (first | cases eo33 | (injection eo33 with ea_ en_ ec_; (first | subst ea_ | (injection ea_ with ea_; subst ea_)); subst ec_; clear en_))
                                  have GB33 := Aside0.mk gb33
                                  have GG33 := Aside0.mk HG33
                                  clear gb33 gl33 HG33
                                  (first | simp only [add_plain] at hx273_0 | skip)
                                  obtain ⟨hx33_0, hf33_0⟩ := Kd.R_celln false HO_6.out ((rd t269 x29_2) : Int) p33 q33
                                  replace p33 := eq_true p33
                                  replace q33 := eq_true q33
                                  have HP36 := Kd.R_putg HO_6.out ((rd t269 x29_2) : Int) (!(rdOf false x7_1 (rd t269 x29_2)))
                                  go_wp2_with (first | ((with_reducible refine gate_store (t := 4) (p := 46) rfl ?_); refine store_event (t := 4) (p := 46) (v := ?vo_w37) (w1 := (wr.setCell ⟨go33, ((rd t269 x29_2) : Int).toNat, none⟩ (.bool (!(rdOf false x7_1 (rd t269 x29_2)))))) ?hg ?ho ?hn ?hr ?_; (case ho => rfl); (case hg => rfl); (case hn => rfl); (case hr => first | (go_simp; done) | (go_simp; rfl)); intro w37 hw; have hg : wr.grownBy w37 (some go33) := (by rw [hw]; exact HP36.2); have hp_ : Kd.R Kd.bool 4 w37 w.heap.size (fun k_ => some k_ ≠ (.slice (some ad275) x7_1.length co35 : Value).ownBlock) (.slice (some ⟨go33, 0, none⟩) x6_2.length co34) y276 := (by rw [hw, Ny276.out]; exact HP36.1); clear HP36; have n0_ := Aside0.mk (hp_); have n1_ := Aside0.mk (Kd.R_after (v := (.slice (some ⟨go33, 0, none⟩) x6_2.length co34)) (v1 := (.slice (some ⟨go33, 0, none⟩) x6_2.length co34)) (ok := (fun _ => True)) (by (with_reducible repeat (first | apply Kd.R_alloc | apply Kd.R_drewN | apply Kd.R_drew)); exact Kd.R_mono HO_7.out (fun _ hk => ⟨trivial, hk⟩)) hg (.inl rfl)); have n2_ := Aside0.mk (Kd.R_over' (v := (.slice (some ⟨go33, 0, none⟩) x6_2.length co34)) (by (with_reducible repeat (first | apply Kd.R_alloc | apply Kd.R_drewN | apply Kd.R_drew)); exact HO_27.out) (Kd.R_typed HO_6.out) (by decide) hg); have n3_ := Aside0.mk (blk_grown (g := gb268) (o := .cells #[.int .i64 ((rd_T77 l0 x22_1).f0), .int .i64 ((rd_T77 l0 x22_1).f1), .int .i64 ((rd_T77 l0 x22_1).f2), .int .i64 ((rd_T77 l0 x22_1).f3), .int .i64 ((rd_T77 l0 x22_1).f4), .int .i64 ((rd_T77 l0 x22_1).f5)] 77 (0, 0)) (by (with_reducible repeat (first | refine blk_drewN ?_ _ | refine blk_drew ?_ | refine blk_alloc ?_ _)); exact BK268.out) hg (Kd.R_ne HO_6.out BK268.out (by decide))); have n4_ := Aside0.mk ((by rw [hw]; exact below_set (HB.out) GB33.out : Below w.heap.size w w37)); clear HO_6; clear HO_7; clear HO_27; clear BK268; clear HB; have HO_6 := n0_; have HO_7 := n1_; have HO_27 := n2_; have BK268 := n3_; have HB := n4_; clear n0_ n1_ n2_ n3_ n4_; clear hg hw hp_))
                                  go_roundg k2
                                  case measure => have := HK1.out; have := HK2.out; omega
                                  case rel => exact ⟨(y276), (wrap64 (x29_2 + 1)), (by first | rfl | (simp; done) | (simp [*]; done)), H', ⟨by have := HK1.out; have := HK2.out; omega⟩, ⟨by (with_reducible repeat (first | apply Kd.R_alloc | apply Kd.R_drewN | apply Kd.R_drew)); exact HO_6.out⟩, ⟨by (with_reducible repeat (first | apply Kd.R_alloc | apply Kd.R_drewN | apply Kd.R_drew)); exact Kd.R_mono HO_7.out (fun _ hk => hk.2)⟩, ⟨by (with_reducible repeat (first | apply Kd.R_alloc | apply Kd.R_drewN | apply Kd.R_drew)); exact HO_27.out⟩, ⟨by (with_reducible repeat (first | refine blk_drewN ?_ _ | refine blk_drew ?_ | refine blk_alloc ?_ _)); exact BK268.out⟩, ⟨by repeat (first | (with_reducible first | exact HB.out | apply below_alloc | apply pw_below_drewN | apply below_drew1 | refine below_set ?_ GE268.out) | exact HB.out)⟩⟩
                                · rw [if_neg c32] at H
                                  exact absurd H (by simp)
                            · rw [if_neg c25] at H
                              exact absurd H (by simp)
                          · rw [if_neg c24] at H
                            exact absurd H (by simp)
                        · rw [if_neg c23] at H
                          exact absurd H (by simp)
                      · rw [if_neg c22] at H
                        exact absurd H (by simp)
                    · rw [if_neg c21] at H
                      have c21b0 : decide (x29_2 < (t269.length : Int)) = false := decide_eq_false c21
                      clear c21
                      replace H := Option.bind_eq_some_iff.mp H
                      obtain ⟨t277, A380, H⟩ := H
                      replace H : (if t277 = true then (if 0 ≤ ((rd_T77 l0 x22_1).f2) then (if ((rd_T77 l0 x22_1).f2) < (x7_1.length : Int) then (impl_NeedsAhead.l0 k2 l1 x6_2 (x7_1.set (((rd_T77 l0 x22_1).f2) : Int).toNat true) l0 (l0.length : Int) (wrap64 (x22_1 + 1))) else (none)) else (none)) else (impl_NeedsAhead.l0 k2 l1 x6_2 x7_1 l0 (l0.length : Int) (wrap64 (x22_1 + 1)))) = some (r1, r2) := H
                      have A38 := Aside0.mk A380
                      clear A380
                      by_cases c39 : t277 = true
                      · subst c39
                        have H1 : (if 0 ≤ ((rd_T77 l0 x22_1).f2) then (if ((rd_T77 l0 x22_1).f2) < (x7_1.length : Int) then (impl_NeedsAhead.l0 k2 l1 x6_2 (x7_1.set (((rd_T77 l0 x22_1).f2) : Int).toNat true) l0 (l0.length : Int) (wrap64 (x22_1 + 1))) else (none)) else (none)) = some (r1, r2) := by rw [if_pos rfl] at H; exact H
                        clear H
                        have H := H1
                        clear H1
                        by_cases c40 : 0 ≤ ((rd_T77 l0 x22_1).f2)
                        · rw [if_pos c40] at H
                          have c40b0 : decide (0 ≤ ((rd_T77 l0 x22_1).f2)) = true := decide_eq_true c40
                          clear c40
                          by_cases c41 : ((rd_T77 l0 x22_1).f2) < (x7_1.length : Int)
                          · rw [if_pos c41] at H
                            have c41b0 : decide (((rd_T77 l0 x22_1).f2) < (x7_1.length : Int)) = true := decide_eq_true c41
                            clear c41
                            obtain ⟨y278, hy278⟩ : ∃ y_ : List Bool, y_ = (x7_1.set (((rd_T77 l0 x22_1).f2) : Int).toNat true) := ⟨_, rfl⟩
                            replace H : (impl_NeedsAhead.l0 k2 l1 x6_2 y278 l0 (l0.length : Int) (wrap64 (x22_1 + 1))) = some (r1, r2) := by first | (rw [hy278]; with_reducible exact H) | (have H2_ := (Option.bind_some _ _).symm.trans H; rw [hy278]; with_reducible exact H2_) | (have H2_ := (Option.bind_some _ _).symm.trans H; with_reducible exact H2_) | with_reducible exact H | (rw [hy278]; exact H) | exact H
                            have Ny278 := Aside0.mk hy278
                            clear hy278
                            have H' := Aside0.mk H
                            clear H
                            have hcz43_0 : wr.cell? ⟨gb268, 0, none⟩ = some (.int .i64 ((rd_T77 l0 x22_1).f0)) := (blk_cell BK268.out 0).trans rfl
                            have hcz43_1 : wr.cell? ⟨gb268, 1, none⟩ = some (.int .i64 ((rd_T77 l0 x22_1).f1)) := (blk_cell BK268.out 1).trans rfl
                            have hcz43_2 : wr.cell? ⟨gb268, 2, none⟩ = some (.int .i64 ((rd_T77 l0 x22_1).f2)) := (blk_cell BK268.out 2).trans rfl
                            have hcz43_3 : wr.cell? ⟨gb268, 3, none⟩ = some (.int .i64 ((rd_T77 l0 x22_1).f3)) := (blk_cell BK268.out 3).trans rfl
                            have hcz43_4 : wr.cell? ⟨gb268, 4, none⟩ = some (.int .i64 ((rd_T77 l0 x22_1).f4)) := (blk_cell BK268.out 4).trans rfl
                            have hcz43_5 : wr.cell? ⟨gb268, 5, none⟩ = some (.int .i64 ((rd_T77 l0 x22_1).f5)) := (blk_cell BK268.out 5).trans rfl
                            have hfz43_0 := blk_frozen BK268.out 0
                            have hfz43_1 := blk_frozen BK268.out 1
                            have hfz43_2 := blk_frozen BK268.out 2
                            have hfz43_3 := blk_frozen BK268.out 3
                            have hfz43_4 := blk_frozen BK268.out 4
                            have hfz43_5 := blk_frozen BK268.out 5
                            go_wp2_with (first | ((with_reducible refine gate_callee (f := 66) rfl ?_); refine goesL_ (some 49) rfl rfl Try.func66 (by kernel_rfl) rfl #[.agg #[.int .i64 ((rd_T77 l0 x22_1).f0), .int .i64 ((rd_T77 l0 x22_1).f1), .int .i64 ((rd_T77 l0 x22_1).f2), .int .i64 ((rd_T77 l0 x22_1).f3), .int .i64 ((rd_T77 l0 x22_1).f4), .int .i64 ((rd_T77 l0 x22_1).f5)]] rfl (by (try simp only [List.map_toArray, List.map_cons, List.map_nil]); first | done | rfl | (simp only [List.length_drop, List.length_take]; rfl)) ?_; (with_reducible refine (impl_Flat_hasDst.calls k2 ((rd_T77 l0 x22_1).f0) ((rd_T77 l0 x22_1).f1) ((rd_T77 l0 x22_1).f2) ((rd_T77 l0 x22_1).f3) ((rd_T77 l0 x22_1).f4) ((rd_T77 l0 x22_1).f5) true _ A38.out).mono ?_); rintro e w44 ⟨rfl, hb⟩; refine ⟨_, rfl, ?_⟩; have n0_ := Aside0.mk (Kd.R_below (by (with_reducible repeat (first | apply Kd.R_alloc | apply Kd.R_drewN | apply Kd.R_drew)); exact HO_6.out) hb); have n1_ := Aside0.mk (Kd.R_below (by (with_reducible repeat (first | apply Kd.R_alloc | apply Kd.R_drewN | apply Kd.R_drew)); exact HO_7.out) hb); have n2_ := Aside0.mk (Kd.R_below (by (with_reducible repeat (first | apply Kd.R_alloc | apply Kd.R_drewN | apply Kd.R_drew)); exact HO_27.out) hb); have n3_ := Aside0.mk (blk_below (g := gb268) (o := .cells #[.int .i64 ((rd_T77 l0 x22_1).f0), .int .i64 ((rd_T77 l0 x22_1).f1), .int .i64 ((rd_T77 l0 x22_1).f2), .int .i64 ((rd_T77 l0 x22_1).f3), .int .i64 ((rd_T77 l0 x22_1).f4), .int .i64 ((rd_T77 l0 x22_1).f5)] 77 (0, 0)) (by (with_reducible repeat (first | refine blk_drewN ?_ _ | refine blk_drew ?_ | refine blk_alloc ?_ _)); exact BK268.out) hb); have n4_ := Aside0.mk (below_step (by repeat (first | (with_reducible first | exact HB.out | apply below_alloc | apply pw_below_drewN | apply below_drew1 | refine below_set ?_ GE268.out) | exact HB.out)) hb); clear HO_6; clear HO_7; clear HO_27; clear BK268; clear HB; have HO_6 := n0_; have HO_7 := n1_; have HO_27 := n2_; have BK268 := n3_; have HB := n4_; clear n0_ n1_ n2_ n3_ n4_; (try clear hb); (try clear hb2); (try clear hk); (try clear hi); have hcz45_0 : w44.cell? ⟨gb268, 0, none⟩ = some (.int .i64 ((rd_T77 l0 x22_1).f0)) := (blk_cell BK268.out 0).trans rfl; have hcz45_1 : w44.cell? ⟨gb268, 1, none⟩ = some (.int .i64 ((rd_T77 l0 x22_1).f1)) := (blk_cell BK268.out 1).trans rfl; have hcz45_2 : w44.cell? ⟨gb268, 2, none⟩ = some (.int .i64 ((rd_T77 l0 x22_1).f2)) := (blk_cell BK268.out 2).trans rfl; have hcz45_3 : w44.cell? ⟨gb268, 3, none⟩ = some (.int .i64 ((rd_T77 l0 x22_1).f3)) := (blk_cell BK268.out 3).trans rfl; have hcz45_4 : w44.cell? ⟨gb268, 4, none⟩ = some (.int .i64 ((rd_T77 l0 x22_1).f4)) := (blk_cell BK268.out 4).trans rfl; have hcz45_5 : w44.cell? ⟨gb268, 5, none⟩ = some (.int .i64 ((rd_T77 l0 x22_1).f5)) := (blk_cell BK268.out 5).trans rfl; have hfz45_0 := blk_frozen BK268.out 0; have hfz45_1 := blk_frozen BK268.out 1; have hfz45_2 := blk_frozen BK268.out 2; have hfz45_3 := blk_frozen BK268.out 3; have hfz45_4 := blk_frozen BK268.out 4; have hfz45_5 := blk_frozen BK268.out 5; have p42 : 0 ≤ (((rd_T77 l0 x22_1).f2) : Int) := of_decide_eq_true (by first | (with_reducible assumption) | assumption); have q42 : (((rd_T77 l0 x22_1).f2) : Int) < ((x7_1.length : Int) : Int) := of_decide_eq_true (by first | (with_reducible assumption) | assumption); obtain ⟨go42, co42, eo42, gb42, gl42, cl42, HG42⟩ := Kd.R_form HO_7.out (by omega); (first | cases eo42 | (injection eo42 with ea_ en_ ec_; (first | subst ea_ | (injection ea_ with ea_; subst ea_)); subst ec_; clear en_)); have GB42 := Aside0.mk gb42; have GG42 := Aside0.mk HG42; clear gb42 gl42 HG42; obtain ⟨hx42_0, hf42_0⟩ := Kd.R_celln false HO_7.out (((rd_T77 l0 x22_1).f2) : Int) p42 q42; replace p42 := eq_true p42; replace q42 := eq_true q42; obtain ⟨hy46_, hz46_⟩ := Kd.R_celln false HO_7.out (((rd_T77 l0 x22_1).f2) : Int) (of_decide_eq_true (by first | (with_reducible assumption) | assumption)) (of_decide_eq_true (by first | (with_reducible assumption) | assumption)); have HP46 := Kd.R_putg HO_7.out (((rd_T77 l0 x22_1).f2) : Int) true) | ((with_reducible refine gate_store (t := 4) (p := 53) rfl ?_); refine store_event (t := 4) (p := 53) (v := ?vo_w47) (w1 := (w44.setCell ⟨go42, (((rd_T77 l0 x22_1).f2) : Int).toNat, none⟩ (.bool true))) ?hg ?ho ?hn ?hr ?_; (case ho => rfl); (case hg => rfl); (case hn => rfl); (case hr => first | (go_simp; done) | (go_simp; rfl)); intro w47 hw; have hg : w44.grownBy w47 (some go42) := (by rw [hw]; exact HP46.2); have hp_ : Kd.R Kd.bool 4 w47 w.heap.size (fun k_ => some k_ ≠ (v262 : Value).ownBlock) (.slice (some ⟨go42, 0, none⟩) x7_1.length co42) y278 := (by rw [hw, Ny278.out]; exact HP46.1); clear HP46; have n0_ := Aside0.mk (Kd.R_after (v := (.slice (some ⟨go42, 0, none⟩) x7_1.length co42)) (v1 := (.slice (some ⟨go42, 0, none⟩) x7_1.length co42)) (ok := (fun _ => True)) (by (with_reducible repeat (first | apply Kd.R_alloc | apply Kd.R_drewN | apply Kd.R_drew)); exact Kd.R_mono HO_6.out (fun _ hk => ⟨trivial, hk⟩)) hg (.inl rfl)); have n1_ := Aside0.mk (hp_); have n2_ := Aside0.mk (Kd.R_over' (v := (.slice (some ⟨go42, 0, none⟩) x7_1.length co42)) (by (with_reducible repeat (first | apply Kd.R_alloc | apply Kd.R_drewN | apply Kd.R_drew)); exact HO_27.out) (Kd.R_typed HO_7.out) (by decide) hg); have n3_ := Aside0.mk (blk_grown (g := gb268) (o := .cells #[.int .i64 ((rd_T77 l0 x22_1).f0), .int .i64 ((rd_T77 l0 x22_1).f1), .int .i64 ((rd_T77 l0 x22_1).f2), .int .i64 ((rd_T77 l0 x22_1).f3), .int .i64 ((rd_T77 l0 x22_1).f4), .int .i64 ((rd_T77 l0 x22_1).f5)] 77 (0, 0)) (by (with_reducible repeat (first | refine blk_drewN ?_ _ | refine blk_drew ?_ | refine blk_alloc ?_ _)); exact BK268.out) hg (Kd.R_ne HO_7.out BK268.out (by decide))); have n4_ := Aside0.mk ((by rw [hw]; exact below_set (HB.out) GB42.out : Below w.heap.size w w47)); clear HO_6; clear HO_7; clear HO_27; clear BK268; clear HB; have HO_6 := n0_; have HO_7 := n1_; have HO_27 := n2_; have BK268 := n3_; have HB := n4_; clear n0_ n1_ n2_ n3_ n4_; clear hg hw hp_))
                            go_roundg k2
                            case measure => have := HK1.out; have := HK2.out; omega
                            case rel => exact ⟨(x6_2), (y278), (wrap64 (x22_1 + 1)), (by first | rfl | (simp; done) | (simp [*]; done)), H', ⟨by have := HK1.out; have := HK2.out; omega⟩, ⟨by (with_reducible repeat (first | apply Kd.R_alloc | apply Kd.R_drewN | apply Kd.R_drew)); exact Kd.R_mono HO_6.out (fun _ hk => hk.2)⟩, ⟨by (with_reducible repeat (first | apply Kd.R_alloc | apply Kd.R_drewN | apply Kd.R_drew)); exact HO_7.out⟩, ⟨by repeat (first | (with_reducible first | exact HB.out | apply below_alloc | apply pw_below_drewN | apply below_drew1 | refine below_set ?_ GE268.out) | exact HB.out)⟩⟩
                          · rw [if_neg c41] at H
                            exact absurd H (by simp)
                        · rw [if_neg c40] at H
                          exact absurd H (by simp)
                      · replace c39 := Bool.eq_false_iff.mpr c39
                        subst c39
                        have H1 : (impl_NeedsAhead.l0 k2 l1 x6_2 x7_1 l0 (l0.length : Int) (wrap64 (x22_1 + 1))) = some (r1, r2) := by rw [if_neg (show ¬ (false = true) by decide)] at H; exact H
                        clear H
                        have H := H1
                        clear H1
                        have H' := Aside0.mk H
                        clear H
                        have hcz48_0 : wr.cell? ⟨gb268, 0, none⟩ = some (.int .i64 ((rd_T77 l0 x22_1).f0)) := (blk_cell BK268.out 0).trans rfl
                        have hcz48_1 : wr.cell? ⟨gb268, 1, none⟩ = some (.int .i64 ((rd_T77 l0 x22_1).f1)) := (blk_cell BK268.out 1).trans rfl
                        have hcz48_2 : wr.cell? ⟨gb268, 2, none⟩ = some (.int .i64 ((rd_T77 l0 x22_1).f2)) := (blk_cell BK268.out 2).trans rfl
                        have hcz48_3 : wr.cell? ⟨gb268, 3, none⟩ = some (.int .i64 ((rd_T77 l0 x22_1).f3)) := (blk_cell BK268.out 3).trans rfl
                        have hcz48_4 : wr.cell? ⟨gb268, 4, none⟩ = some (.int .i64 ((rd_T77 l0 x22_1).f4)) := (blk_cell BK268.out 4).trans rfl
                        have hcz48_5 : wr.cell? ⟨gb268, 5, none⟩ = some (.int .i64 ((rd_T77 l0 x22_1).f5)) := (blk_cell BK268.out 5).trans rfl
                        have hfz48_0 := blk_frozen BK268.out 0
                        have hfz48_1 := blk_frozen BK268.out 1
                        have hfz48_2 := blk_frozen BK268.out 2
                        have hfz48_3 := blk_frozen BK268.out 3
                        have hfz48_4 := blk_frozen BK268.out 4
                        have hfz48_5 := blk_frozen BK268.out 5
                        go_wp2_with (first | ((with_reducible refine gate_callee (f := 66) rfl ?_); refine goesL_ (some 49) rfl rfl Try.func66 (by kernel_rfl) rfl #[.agg #[.int .i64 ((rd_T77 l0 x22_1).f0), .int .i64 ((rd_T77 l0 x22_1).f1), .int .i64 ((rd_T77 l0 x22_1).f2), .int .i64 ((rd_T77 l0 x22_1).f3), .int .i64 ((rd_T77 l0 x22_1).f4), .int .i64 ((rd_T77 l0 x22_1).f5)]] rfl (by (try simp only [List.map_toArray, List.map_cons, List.map_nil]); first | done | rfl | (simp only [List.length_drop, List.length_take]; rfl)) ?_; (with_reducible refine (impl_Flat_hasDst.calls k2 ((rd_T77 l0 x22_1).f0) ((rd_T77 l0 x22_1).f1) ((rd_T77 l0 x22_1).f2) ((rd_T77 l0 x22_1).f3) ((rd_T77 l0 x22_1).f4) ((rd_T77 l0 x22_1).f5) false _ A38.out).mono ?_); rintro e w49 ⟨rfl, hb⟩; refine ⟨_, rfl, ?_⟩; have n0_ := Aside0.mk (Kd.R_below (by (with_reducible repeat (first | apply Kd.R_alloc | apply Kd.R_drewN | apply Kd.R_drew)); exact HO_6.out) hb); have n1_ := Aside0.mk (Kd.R_below (by (with_reducible repeat (first | apply Kd.R_alloc | apply Kd.R_drewN | apply Kd.R_drew)); exact HO_7.out) hb); have n2_ := Aside0.mk (Kd.R_below (by (with_reducible repeat (first | apply Kd.R_alloc | apply Kd.R_drewN | apply Kd.R_drew)); exact HO_27.out) hb); have n3_ := Aside0.mk (blk_below (g := gb268) (o := .cells #[.int .i64 ((rd_T77 l0 x22_1).f0), .int .i64 ((rd_T77 l0 x22_1).f1), .int .i64 ((rd_T77 l0 x22_1).f2), .int .i64 ((rd_T77 l0 x22_1).f3), .int .i64 ((rd_T77 l0 x22_1).f4), .int .i64 ((rd_T77 l0 x22_1).f5)] 77 (0, 0)) (by (with_reducible repeat (first | refine blk_drewN ?_ _ | refine blk_drew ?_ | refine blk_alloc ?_ _)); exact BK268.out) hb); have n4_ := Aside0.mk (below_step (by repeat (first | (with_reducible first | exact HB.out | apply below_alloc | apply pw_below_drewN | apply below_drew1 | refine below_set ?_ GE268.out) | exact HB.out)) hb); clear HO_6; clear HO_7; clear HO_27; clear BK268; clear HB; have HO_6 := n0_; have HO_7 := n1_; have HO_27 := n2_; have BK268 := n3_; have HB := n4_; clear n0_ n1_ n2_ n3_ n4_; (try clear hb); (try clear hb2); (try clear hk); (try clear hi)))
                        go_roundg k2
                        case measure => have := HK1.out; have := HK2.out; omega
                        case rel => exact ⟨(x6_2), (x7_1), (wrap64 (x22_1 + 1)), (by first | rfl | (simp; done) | (simp [*]; done)), H', ⟨by have := HK1.out; have := HK2.out; omega⟩, ⟨by (with_reducible repeat (first | apply Kd.R_alloc | apply Kd.R_drewN | apply Kd.R_drew)); exact HO_6.out⟩, ⟨by (with_reducible repeat (first | apply Kd.R_alloc | apply Kd.R_drewN | apply Kd.R_drew)); exact HO_7.out⟩, ⟨by repeat (first | (with_reducible first | exact HB.out | apply below_alloc | apply pw_below_drewN | apply below_drew1 | refine below_set ?_ GE268.out) | exact HB.out)⟩⟩
              · rw [if_neg c15] at H
                exact absurd H (by simp)
            · rw [if_neg c14] at H
              exact absurd H (by simp)
          · rw [if_neg c13] at H
            have c13b0 : decide (x22_1 < (l0.length : Int)) = false := decide_eq_false c13
            clear c13
            have H' := Aside0.mk H
            clear H
            go_wp2
            go_loopg [57] k1 (fun kq v57 w' => ∃ (x6_2 : List Bool) (x57_2 : Int), v57 = .int .i64 x57_2 ∧ Aside0 (impl_NeedsAhead.l2 kq x6_2 x7_1 l1 (l1.length : Int) x57_2 = some (r1, r2)) ∧ Aside0 (kq ≤ k1) ∧ Aside0 (Kd.R Kd.bool 4 w' w.heap.size (fun k_ => some k_ ≠ (v265 : Value).ownBlock) v262 x6_2) ∧ Aside0 (Kd.R Kd.bool 4 w' w.heap.size (fun k_ => some k_ ≠ (v262 : Value).ownBlock) v265 x7_1) ∧ Aside0 (Below w.heap.size w w'))
            case atStart => exact ⟨(x6_1), (0), (by first | rfl | (simp; done) | (simp [*]; done)), H', ⟨Nat.le_refl _⟩, ⟨by (with_reducible repeat (first | apply Kd.R_alloc | apply Kd.R_drewN | apply Kd.R_drew)); exact HO_6.out⟩, ⟨by (with_reducible repeat (first | apply Kd.R_alloc | apply Kd.R_drewN | apply Kd.R_drew)); exact HO_7.out⟩, ⟨by repeat (first | (with_reducible first | exact HB.out | apply below_alloc | apply pw_below_drewN | apply below_drew1) | exact HB.out)⟩⟩
            case round =>
              clear H'
              try clear c1
              try clear c2
              try clear p2
              try clear q2
              try clear hx2
              try clear hf2
              try clear c3
              try clear p3
              try clear q3
              try clear hx3
              try clear hf3
              try clear c4
              try clear p4
              try clear q4
              try clear hx4
              try clear hf4
              try clear c5
              try clear c5b0
              try clear c5b1
              try clear c6
              try clear p6
              try clear c7
              try clear c13
              try clear c13b0
              try clear c14
              try clear c14b0
              try clear c15
              try clear c15b0
              try clear c21
              try clear c21b0
              try clear c22
              try clear c22b0
              try clear c23
              try clear c23b0
              try clear c24
              try clear c24b0
              try clear c25
              try clear c25b0
              try clear p26
              try clear q26
              try clear hx26
              try clear c27
              try clear p27
              try clear q27
              try clear hx27
              try clear p28
              try clear q28
              try clear hx28
              try clear hf28
              try clear c32
              try clear c32b0
              try clear p33
              try clear q33
              try clear hx33
              try clear hf33
              try clear c39
              try clear c40
              try clear c40b0
              try clear c41
              try clear c41b0
              try clear p42
              try clear q42
              try clear hx42
              try clear hf42
              try clear hcz18_0
              try clear hcz18_1
              try clear hcz18_2
              try clear hcz18_3
              try clear hcz18_4
              try clear hcz18_5
              try clear hcz43_0
              try clear hcz43_1
              try clear hcz43_2
              try clear hcz43_3
              try clear hcz43_4
              try clear hcz43_5
              try clear hcz45_0
              try clear hcz45_1
              try clear hcz45_2
              try clear hcz45_3
              try clear hcz45_4
              try clear hcz45_5
              try clear hcz48_0
              try clear hcz48_1
              try clear hcz48_2
              try clear hcz48_3
              try clear hcz48_4
              try clear hcz48_5
              try clear hfz18_0
              try clear hfz18_1
              try clear hfz18_2
              try clear hfz18_3
              try clear hfz18_4
              try clear hfz18_5
              try clear hfz43_0
              try clear hfz43_1
              try clear hfz43_2
              try clear hfz43_3
              try clear hfz43_4
              try clear hfz43_5
              try clear hfz45_0
              try clear hfz45_1
              try clear hfz45_2
              try clear hfz45_3
              try clear hfz45_4
              try clear hfz45_5
              try clear hfz48_0
              try clear hfz48_1
              try clear hfz48_2
              try clear hfz48_3
              try clear hfz48_4
              try clear hfz48_5
              try clear hx267_0
              try clear hx267_1
              try clear hx267_2
              try clear hx267_3
              try clear hx267_4
              try clear hx267_5
              try clear hx272_0
              try clear hx273_0
              try clear hx275_0
              try clear hx28_0
              try clear hx33_0
              try clear hx42_0
              try clear p2
              try clear p267
              try clear p272
              try clear p273
              try clear p275
              try clear p28
              try clear p33
              try clear p42
              try clear q2
              try clear q267
              try clear q272
              try clear q273
              try clear q275
              try clear q28
              try clear q33
              try clear q42
              obtain ⟨x6_2, x57_2, rfl, HA, HK2, HO_6, HO_7, HB⟩ := hrel
              cases gk with
              | zero => exact absurd HA.out (by simp [impl_NeedsAhead.l2])
              | succ k2 =>
                have H := HA.out
                clear HA
                simp only [impl_NeedsAhead.l2] at H
                by_cases c50 : x57_2 < (l1.length : Int)
                · rw [if_pos c50] at H
                  have c50b0 : decide (x57_2 < (l1.length : Int)) = true := decide_eq_true c50
                  clear c50
                  by_cases c51 : 0 ≤ x57_2
                  · rw [if_pos c51] at H
                    have c51b0 : decide (0 ≤ x57_2) = true := decide_eq_true c51
                    clear c51
                    by_cases c52 : x57_2 < (l1.length : Int)
                    · rw [if_pos c52] at H
                      have c52b0 : decide (x57_2 < (l1.length : Int)) = true := decide_eq_true c52
                      clear c52
                      by_cases c53 : 0 ≤ (rd l1 x57_2)
                      · rw [if_pos c53] at H
                        have c53b0 : decide (0 ≤ (rd l1 x57_2)) = true := decide_eq_true c53
                        clear c53
                        by_cases c54 : (rd l1 x57_2) < (x6_2.length : Int)
                        · rw [if_pos c54] at H
                          have c54b0 : decide ((rd l1 x57_2) < (x6_2.length : Int)) = true := decide_eq_true c54
                          clear c54
                          obtain ⟨bq55, hbq55⟩ : ∃ b_ : Bool, b_ = (rdOf false x6_2 (rd l1 x57_2)) := ⟨_, rfl⟩
                          replace H : (if bq55 = true then (impl_NeedsAhead.l2 k2 (x6_2.set ((rd l1 x57_2) : Int).toNat true) x7_1 l1 (l1.length : Int) (wrap64 (x57_2 + 1))) else (if (rd l1 x57_2) < (x7_1.length : Int) then (impl_NeedsAhead.l2 k2 (x6_2.set ((rd l1 x57_2) : Int).toNat (!(rdOf false x7_1 (rd l1 x57_2)))) x7_1 l1 (l1.length : Int) (wrap64 (x57_2 + 1))) else (none))) = some (r1, r2) := by rw [← hbq55] at H; exact H
                          have Nbq55 := Aside0.mk hbq55
                          clear hbq55
                          by_cases c56 : bq55 = true
                          · subst c56
                            have H1 : (impl_NeedsAhead.l2 k2 (x6_2.set ((rd l1 x57_2) : Int).toNat true) x7_1 l1 (l1.length : Int) (wrap64 (x57_2 + 1))) = some (r1, r2) := by rw [if_pos rfl] at H; exact H
                            clear H
                            have H := H1
                            clear H1
                            obtain ⟨y281, hy281⟩ : ∃ y_ : List Bool, y_ = (x6_2.set ((rd l1 x57_2) : Int).toNat true) := ⟨_, rfl⟩
                            replace H : (impl_NeedsAhead.l2 k2 y281 x7_1 l1 (l1.length : Int) (wrap64 (x57_2 + 1))) = some (r1, r2) := by first | (rw [hy281]; with_reducible exact H) | (have H2_ := (Option.bind_some _ _).symm.trans H; rw [hy281]; with_reducible exact H2_) | (have H2_ := (Option.bind_some _ _).symm.trans H; with_reducible exact H2_) | with_reducible exact H | (rw [hy281]; exact H) | exact H
                            have Ny281 := Aside0.mk hy281
                            clear hy281
                            have H' := Aside0.mk H
                            clear H
                            have p279 : 0 ≤ (x57_2 : Int) := of_decide_eq_true (by first | (with_reducible assumption) | assumption)
                            have q279 : x57_2 < (l1.length : Int) := of_decide_eq_true (by first | (with_reducible assumption) | assumption)
                            obtain ⟨ad279, e279, hx279_0⟩ := Kd.at_int HR1.out x57_2 p279 q279
                            cases e279
                            replace hx279_0 := (HB.out.cell (World.block_lt_of_cell? w _ hx279_0)).trans hx279_0
                            replace p279 := eq_true p279
                            replace q279 := eq_true q279
                            obtain ⟨Ao58, co58, eo58⟩ := Kd.R_slice HO_6.out
                            subst eo58
                            have p280 : 0 ≤ ((rd l1 x57_2) : Int) := of_decide_eq_true (by first | (with_reducible assumption) | assumption)
                            have q280 : (rd l1 x57_2) < (x6_2.length : Int) := of_decide_eq_true (by first | (with_reducible assumption) | assumption)
                            obtain ⟨ad280, e280, hx280_0⟩ := Kd.at_bool (Kd.R_reads' HO_6.out).2.2 (rd l1 x57_2) p280 q280
                            (try rw [← Nbq55.out] at hx280_0)
                            cases e280
                            replace p280 := eq_true p280
                            replace q280 := eq_true q280
                            have p57 : 0 ≤ ((rd l1 x57_2) : Int) := of_decide_eq_true (by first | (with_reducible assumption) | assumption)
                            have q57 : ((rd l1 x57_2) : Int) < ((x6_2.length : Int) : Int) := of_decide_eq_true (by first | (with_reducible assumption) | assumption)
                            obtain ⟨go57, co57, eo57, gb57, gl57, cl57, HG57⟩ := Kd.R_form HO_6.out (by omega)
                            (first | cases eo57 | (injection eo57 with ea_ en_ ec_; (first | subst ea_ | (injection ea_ with ea_; subst ea_)); subst ec_; clear en_))
                            have GB57 := Aside0.mk gb57
                            have GG57 := Aside0.mk HG57
                            clear gb57 gl57 HG57
                            (first | simp only [add_plain] at hx280_0 | skip)
                            obtain ⟨hx57_0, hf57_0⟩ := Kd.R_celln false HO_6.out ((rd l1 x57_2) : Int) p57 q57
                            replace p57 := eq_true p57
                            replace q57 := eq_true q57
                            have HP59 := Kd.R_putg HO_6.out ((rd l1 x57_2) : Int) true
                            go_wp2_with (first | ((with_reducible refine gate_store (t := 4) (p := 74) rfl ?_); refine store_event (t := 4) (p := 74) (v := ?vo_w60) (w1 := (wr.setCell ⟨go57, ((rd l1 x57_2) : Int).toNat, none⟩ (.bool true))) ?hg ?ho ?hn ?hr ?_; (case ho => rfl); (case hg => rfl); (case hn => rfl); (case hr => first | (go_simp; done) | (go_simp; rfl)); intro w60 hw; have hg : wr.grownBy w60 (some go57) := (by rw [hw]; exact HP59.2); have hp_ : Kd.R Kd.bool 4 w60 w.heap.size (fun k_ => some k_ ≠ (v265 : Value).ownBlock) (.slice (some ⟨go57, 0, none⟩) x6_2.length co58) y281 := (by rw [hw, Ny281.out]; exact HP59.1); clear HP59; have n0_ := Aside0.mk (hp_); have n1_ := Aside0.mk (Kd.R_after (v := (.slice (some ⟨go57, 0, none⟩) x6_2.length co58)) (v1 := (.slice (some ⟨go57, 0, none⟩) x6_2.length co58)) (ok := (fun _ => True)) (by (with_reducible repeat (first | apply Kd.R_alloc | apply Kd.R_drewN | apply Kd.R_drew)); exact Kd.R_mono HO_7.out (fun _ hk => ⟨trivial, hk⟩)) hg (.inl rfl)); have n2_ := Aside0.mk ((by rw [hw]; exact below_set (HB.out) GB57.out : Below w.heap.size w w60)); clear HO_6; clear HO_7; clear HB; have HO_6 := n0_; have HO_7 := n1_; have HB := n2_; clear n0_ n1_ n2_; clear hg hw hp_))
                            go_roundg k2
                            case measure => have := HK1.out; have := HK2.out; omega
                            case rel => exact ⟨(y281), (wrap64 (x57_2 + 1)), (by first | rfl | (simp; done) | (simp [*]; done)), H', ⟨by have := HK1.out; have := HK2.out; omega⟩, ⟨by (with_reducible repeat (first | apply Kd.R_alloc | apply Kd.R_drewN | apply Kd.R_drew)); exact HO_6.out⟩, ⟨by (with_reducible repeat (first | apply Kd.R_alloc | apply Kd.R_drewN | apply Kd.R_drew)); exact Kd.R_mono HO_7.out (fun _ hk => hk.2)⟩, ⟨by repeat (first | (with_reducible first | exact HB.out | apply below_alloc | apply pw_below_drewN | apply below_drew1) | exact HB.out)⟩⟩
                          · replace c56 := Bool.eq_false_iff.mpr c56
                            subst c56
                            have H1 : (if (rd l1 x57_2) < (x7_1.length : Int) then (impl_NeedsAhead.l2 k2 (x6_2.set ((rd l1 x57_2) : Int).toNat (!(rdOf false x7_1 (rd l1 x57_2)))) x7_1 l1 (l1.length : Int) (wrap64 (x57_2 + 1))) else (none)) = some (r1, r2) := by rw [if_neg (show ¬ (false = true) by decide)] at H; exact H
                            clear H
                            have H := H1
                            clear H1
                            by_cases c61 : (rd l1 x57_2) < (x7_1.length : Int)
                            · rw [if_pos c61] at H
                              have c61b0 : decide ((rd l1 x57_2) < (x7_1.length : Int)) = true := decide_eq_true c61
                              clear c61
                              obtain ⟨y283, hy283⟩ : ∃ y_ : List Bool, y_ = (x6_2.set ((rd l1 x57_2) : Int).toNat (!(rdOf false x7_1 (rd l1 x57_2)))) := ⟨_, rfl⟩
                              replace H : (impl_NeedsAhead.l2 k2 y283 x7_1 l1 (l1.length : Int) (wrap64 (x57_2 + 1))) = some (r1, r2) := by first | (rw [hy283]; with_reducible exact H) | (have H2_ := (Option.bind_some _ _).symm.trans H; rw [hy283]; with_reducible exact H2_) | (have H2_ := (Option.bind_some _ _).symm.trans H; with_reducible exact H2_) | with_reducible exact H | (rw [hy283]; exact H) | exact H
                              have Ny283 := Aside0.mk hy283
                              clear hy283
                              have H' := Aside0.mk H
                              clear H
                              have p279 : 0 ≤ (x57_2 : Int) := of_decide_eq_true (by first | (with_reducible assumption) | assumption)
                              have q279 : x57_2 < (l1.length : Int) := of_decide_eq_true (by first | (with_reducible assumption) | assumption)
                              obtain ⟨ad279, e279, hx279_0⟩ := Kd.at_int HR1.out x57_2 p279 q279
                              cases e279
                              replace hx279_0 := (HB.out.cell (World.block_lt_of_cell? w _ hx279_0)).trans hx279_0
                              replace p279 := eq_true p279
                              replace q279 := eq_true q279
                              obtain ⟨Ao63, co63, eo63⟩ := Kd.R_slice HO_6.out
                              subst eo63
                              have p280 : 0 ≤ ((rd l1 x57_2) : Int) := of_decide_eq_true (by first | (with_reducible assumption) | assumption)
                              have q280 : (rd l1 x57_2) < (x6_2.length : Int) := of_decide_eq_true (by first | (with_reducible assumption) | assumption)
                              obtain ⟨ad280, e280, hx280_0⟩ := Kd.at_bool (Kd.R_reads' HO_6.out).2.2 (rd l1 x57_2) p280 q280
                              (try rw [← Nbq55.out] at hx280_0)
                              cases e280
                              replace p280 := eq_true p280
                              replace q280 := eq_true q280
                              obtain ⟨Ao64, co64, eo64⟩ := Kd.R_slice HO_7.out
                              subst eo64
                              have p282 : 0 ≤ ((rd l1 x57_2) : Int) := of_decide_eq_true (by first | (with_reducible assumption) | assumption)
                              have q282 : (rd l1 x57_2) < (x7_1.length : Int) := of_decide_eq_true (by first | (with_reducible assumption) | assumption)
                              obtain ⟨ad282, e282, hx282_0⟩ := Kd.at_bool (Kd.R_reads' HO_7.out).2.2 (rd l1 x57_2) p282 q282
                              (try rw [← Nbq55.out] at hx282_0)
                              cases e282
                              replace p282 := eq_true p282
                              replace q282 := eq_true q282
                              have p62 : 0 ≤ ((rd l1 x57_2) : Int) := of_decide_eq_true (by first | (with_reducible assumption) | assumption)
                              have q62 : ((rd l1 x57_2) : Int) < ((x6_2.length : Int) : Int) := of_decide_eq_true (by first | (with_reducible assumption) | assumption)
                              obtain ⟨go62, co62, eo62, gb62, gl62, cl62, HG62⟩ := Kd.R_form HO_6.out (by omega)
                              (first | cases eo62 | (injection eo62 with ea_ en_ ec_; (first | subst ea_ | (injection ea_ with ea_; subst ea_)); subst ec_; clear en_))
                              have GB62 := Aside0.mk gb62
                              have GG62 := Aside0.mk HG62
                              clear gb62 gl62 HG62
                              (first | simp only [add_plain] at hx280_0 | skip)
                              obtain ⟨hx62_0, hf62_0⟩ := Kd.R_celln false HO_6.out ((rd l1 x57_2) : Int) p62 q62
                              replace p62 := eq_true p62
                              replace q62 := eq_true q62
                              have HP65 := Kd.R_putg HO_6.out ((rd l1 x57_2) : Int) (!(rdOf false x7_1 (rd l1 x57_2)))
                              go_wp2_with (first | ((with_reducible refine gate_store (t := 4) (p := 74) rfl ?_); refine store_event (t := 4) (p := 74) (v := ?vo_w66) (w1 := (wr.setCell ⟨go62, ((rd l1 x57_2) : Int).toNat, none⟩ (.bool (!(rdOf false x7_1 (rd l1 x57_2)))))) ?hg ?ho ?hn ?hr ?_; (case ho => rfl); (case hg => rfl); (case hn => rfl); (case hr => first | (go_simp; done) | (go_simp; rfl)); intro w66 hw; have hg : wr.grownBy w66 (some go62) := (by rw [hw]; exact HP65.2); have hp_ : Kd.R Kd.bool 4 w66 w.heap.size (fun k_ => some k_ ≠ (.slice (some ad282) x7_1.length co64 : Value).ownBlock) (.slice (some ⟨go62, 0, none⟩) x6_2.length co63) y283 := (by rw [hw, Ny283.out]; exact HP65.1); clear HP65; have n0_ := Aside0.mk (hp_); have n1_ := Aside0.mk (Kd.R_after (v := (.slice (some ⟨go62, 0, none⟩) x6_2.length co63)) (v1 := (.slice (some ⟨go62, 0, none⟩) x6_2.length co63)) (ok := (fun _ => True)) (by (with_reducible repeat (first | apply Kd.R_alloc | apply Kd.R_drewN | apply Kd.R_drew)); exact Kd.R_mono HO_7.out (fun _ hk => ⟨trivial, hk⟩)) hg (.inl rfl)); have n2_ := Aside0.mk ((by rw [hw]; exact below_set (HB.out) GB62.out : Below w.heap.size w w66)); clear HO_6; clear HO_7; clear HB; have HO_6 := n0_; have HO_7 := n1_; have HB := n2_; clear n0_ n1_ n2_; clear hg hw hp_))
                              go_roundg k2
                              case measure => have := HK1.out; have := HK2.out; omega
                              case rel => exact ⟨(y283), (wrap64 (x57_2 + 1)), (by first | rfl | (simp; done) | (simp [*]; done)), H', ⟨by have := HK1.out; have := HK2.out; omega⟩, ⟨by (with_reducible repeat (first | apply Kd.R_alloc | apply Kd.R_drewN | apply Kd.R_drew)); exact HO_6.out⟩, ⟨by (with_reducible repeat (first | apply Kd.R_alloc | apply Kd.R_drewN | apply Kd.R_drew)); exact Kd.R_mono HO_7.out (fun _ hk => hk.2)⟩, ⟨by repeat (first | (with_reducible first | exact HB.out | apply below_alloc | apply pw_below_drewN | apply below_drew1) | exact HB.out)⟩⟩
                            · rw [if_neg c61] at H
                              exact absurd H (by simp)
                        · rw [if_neg c54] at H
                          exact absurd H (by simp)
                      · rw [if_neg c53] at H
                        exact absurd H (by simp)
                    · rw [if_neg c52] at H
                      exact absurd H (by simp)
                  · rw [if_neg c51] at H
                    exact absurd H (by simp)
                · rw [if_neg c50] at H
                  have c50b0 : decide (x57_2 < (l1.length : Int)) = false := decide_eq_false c50
                  clear c50
                  replace H := Option.bind_eq_some_iff.mp H
                  obtain ⟨t284, A670, H⟩ := H
                  replace H : (some (t284, true)) = some (r1, r2) := H
                  have A67 := Aside0.mk A670
                  clear A670
                  simp only [Option.some.injEq, Prod.mk.injEq] at H
                  obtain ⟨rfl, rfl⟩ := H
                  obtain ⟨Ao68, co68, eo68⟩ := Kd.R_slice HO_6.out
                  subst eo68
                  go_wp2_with (first | ((with_reducible refine gate_callee (f := 73) rfl ?_); refine goesL_ (some 77) rfl rfl Try.func73 (by kernel_rfl) rfl #[.slice Ao68 x6_2.length co68] rfl (by (try simp only [List.map_toArray, List.map_cons, List.map_nil]); first | done | rfl | (simp only [List.length_drop, List.length_take]; rfl)) ?_; (with_reducible refine (impl_listOf.calls k2 _ _ x6_2 t284 _ ?side1 ?side2 A67.out).mono ?_); (case side1 => repeat (first | exact (Kd.R_reads' HO_6.out).2.2 | (with_reducible refine Kd.C_alloc ?_ _) | (with_reducible refine Kd.C_drewN ?_ _) | (with_reducible refine Kd.C_drew ?_))); (case side2 => exact (Kd.R_reads' HO_6.out).2.1); rintro e w69 ⟨v285, rfl, ho0, hb⟩; refine ⟨_, rfl, ?_⟩; have n0_ := Aside0.mk (Kd.R_below (by (with_reducible repeat (first | apply Kd.R_alloc | apply Kd.R_drewN | apply Kd.R_drew)); exact HO_6.out) hb); have n1_ := Aside0.mk (Kd.R_below (by (with_reducible repeat (first | apply Kd.R_alloc | apply Kd.R_drewN | apply Kd.R_drew)); exact HO_7.out) hb); have n2_ := Aside0.mk (Kd.R_lower ho0 (below_size (by repeat (first | (with_reducible first | exact HB.out | apply below_alloc | apply pw_below_drewN | apply below_drew1) | exact HB.out)))); have n3_ := Aside0.mk (below_step (by repeat (first | (with_reducible first | exact HB.out | apply below_alloc | apply pw_below_drewN | apply below_drew1) | exact HB.out)) hb); clear HO_6; clear HO_7; clear HB; have HO_6 := n0_; have HO_7 := n1_; have HO286 := n2_; have HB := n3_; clear n0_ n1_ n2_ n3_; (try clear hb); (try clear hb2); (try clear hk); (try clear hi); (try clear ho0)))
                  go_ret2
                  exact ⟨_, by first | rfl | (simp [errW_none, errW_some] <;> rfl) | (simp [*, errW_none, errW_some] <;> rfl), by (with_reducible repeat (first | apply Kd.R_alloc | apply Kd.R_drewN | apply Kd.R_drew)); exact HO286.out, by repeat (first | (with_reducible first | exact HB.out | apply below_alloc | apply pw_below_drewN | apply below_drew1) | exact HB.out)⟩
    · rw [if_neg c5] at H
      exact absurd H (by simp)
  · replace c4 := Bool.eq_false_iff.mpr c4
    subst c4
    have H1 : (some (([] : List Int), false)) = some (r1, r2) := by rw [if_neg (show ¬ (false = true) by decide)] at H; exact H
    clear H
    have H := H1
    clear H1
    simp only [Option.some.injEq, Prod.mk.injEq] at H
    obtain ⟨rfl, rfl⟩ := H
    go_enter Try.func22, Try.ntmps22
    go_wp2_with (first | ((with_reducible refine gate_callee (f := 64) rfl ?_); refine goesL_ (some 16) rfl rfl Try.func64 (by kernel_rfl) rfl #[.slice A0 l0.length c0, .slice A1 l1.length c1] rfl (by (try simp only [List.map_toArray, List.map_cons, List.map_nil]); first | done | rfl | (simp only [List.length_drop, List.length_take]; rfl)) ?_; (with_reducible refine (impl_stackOK.calls k _ _ l0 _ _ l1 false _ ?side1 ?side2 ?side3 ?side4 A3.out).mono ?_); (case side1 => repeat (first | exact HR0.out | (with_reducible refine Kd.C_alloc ?_ _) | (with_reducible refine Kd.C_drewN ?_ _) | (with_reducible refine Kd.C_drew ?_))); (case side2 => exact HC0.out); (case side3 => repeat (first | exact HR1.out | (with_reducible refine Kd.C_alloc ?_ _) | (with_reducible refine Kd.C_drewN ?_ _) | (with_reducible refine Kd.C_drew ?_))); (case side4 => exact HC1.out); rintro e w70 ⟨rfl, hb⟩; refine ⟨_, rfl, ?_⟩; have n0_ := Aside0.mk (below_step (by repeat (first | (with_reducible first | exact HB.out | apply below_alloc | apply pw_below_drewN | apply below_drew1) | exact HB.out)) hb); clear HB; have HB := n0_; clear n0_; (try clear hb); (try clear hb2); (try clear hk); (try clear hi)))
    go_ret2
    exact ⟨_, by first | rfl | (simp [errW_none, errW_some] <;> rfl) | (simp [*, errW_none, errW_some] <;> rfl), by first | exact Kd.R_nil _ _ _ _ _ | exact Kd.N_nil _ _ _ _ _ | exact Kd.V_nil _ _ _ _ _ | exact Kd.Q_nil _ _ _ _ _ | exact Kd.S_nil _ _ _ _ _, by repeat (first | (with_reducible first | exact HB.out | apply below_alloc | apply pw_below_drewN | apply below_drew1) | exact HB.out)⟩

end Go.Proofs.Ytipikejhchpfnaa.NA
