-- PRINTED by print.py (a twelfth state) out of the translation. Not trusted: Lean checks it.
import Derived.Test.YtipikejhchpfnaaFSx0
import Derived.Test.YtipikejhchpfnaaFSx4
namespace Go.Proofs.Ytipikejhchpfnaa.FS
open Go.RowKit Go.Proofs.YtipikejhchpfnaaW.PrintWords Go.Proofs.YtipikejhchpfnaaW.PrintLast Go.Proofs.YtipikejhchpfnaaW.PrintMore
attribute [local go_sem] max2_int min2_int max_two min_two max_three min_three max_four min_four   -- for this text's walks alone
set_option linter.unusedVariables false
set_option linter.unusedSimpArgs false

/-! ### spec_l14Steps: function 74 -/
mutual
def spec_l14Steps.l0 : Nat → List (S95) → List (S77) → Int → Int → Option ((List (S95)))
  | 0, _, _, _, _ => none
  | k + 1, x1, x7, x8, x9 => if x9 < x8 then (if 0 ≤ x9 then (if x9 < (x7.length : Int) then (if ((rd_T77 x7 x9).f0) = 1 then ((spec_l3Step.f 1 ((rd_T77 x7 x9).f5)).bind fun bt146 => (if x1.length < 3518437208883 then (spec_l14Steps.j1 k (x1 ++ [(⟨bt146.1, bt146.2.1, bt146.2.2⟩ : S95)]) x7 x8 x9 ((rd_T77 x7 x9).f0) ((rd_T77 x7 x9).f1) ((rd_T77 x7 x9).f2) ((rd_T77 x7 x9).f3) ((rd_T77 x7 x9).f4) ((rd_T77 x7 x9).f5)) else (none))) else (if ((rd_T77 x7 x9).f0) = 3 then ((spec_l3Step.f 2 ((rd_T77 x7 x9).f3)).bind fun bt154 => ((spec_l3Step.f 2 ((rd_T77 x7 x9).f4)).bind fun bt159 => ((spec_l3Step.f ((rd_T77 x7 x9).f1) 0).bind fun bt164 => ((some (([(⟨bt154.1, bt154.2.1, bt154.2.2⟩ : S95), (⟨bt159.1, bt159.2.1, bt159.2.2⟩ : S95), (⟨bt164.1, bt164.2.1, bt164.2.2⟩ : S95)] : List (S95)) : List (S95))).bind fun y169 => (if x1.length + y169.length < 3518437208883 then (spec_l14Steps.j1 k (x1 ++ y169) x7 x8 x9 ((rd_T77 x7 x9).f0) ((rd_T77 x7 x9).f1) ((rd_T77 x7 x9).f2) ((rd_T77 x7 x9).f3) ((rd_T77 x7 x9).f4) ((rd_T77 x7 x9).f5)) else (none)))))) else (if ((rd_T77 x7 x9).f0) = 4 then ((spec_l3Step.f 2 ((rd_T77 x7 x9).f3)).bind fun bt175 => ((spec_l3Step.f 10 0).bind fun bt180 => ((some (([(⟨bt175.1, bt175.2.1, bt175.2.2⟩ : S95), (⟨bt180.1, bt180.2.1, bt180.2.2⟩ : S95)] : List (S95)) : List (S95))).bind fun y185 => (if x1.length + y185.length < 3518437208883 then (spec_l14Steps.j1 k (x1 ++ y185) x7 x8 x9 ((rd_T77 x7 x9).f0) ((rd_T77 x7 x9).f1) ((rd_T77 x7 x9).f2) ((rd_T77 x7 x9).f3) ((rd_T77 x7 x9).f4) ((rd_T77 x7 x9).f5)) else (none))))) else (if ((rd_T77 x7 x9).f0) = 5 then ((spec_l3Step.f 2 ((rd_T77 x7 x9).f3)).bind fun bt191 => ((spec_l3Step.f 2 ((rd_T77 x7 x9).f4)).bind fun bt196 => ((spec_l3Step.f 11 0).bind fun bt201 => ((some (([(⟨bt191.1, bt191.2.1, bt191.2.2⟩ : S95), (⟨bt196.1, bt196.2.1, bt196.2.2⟩ : S95), (⟨bt201.1, bt201.2.1, bt201.2.2⟩ : S95)] : List (S95)) : List (S95))).bind fun y206 => (if x1.length + y206.length < 3518437208883 then (spec_l14Steps.j1 k (x1 ++ y206) x7 x8 x9 ((rd_T77 x7 x9).f0) ((rd_T77 x7 x9).f1) ((rd_T77 x7 x9).f2) ((rd_T77 x7 x9).f3) ((rd_T77 x7 x9).f4) ((rd_T77 x7 x9).f5)) else (none)))))) else (if ((rd_T77 x7 x9).f0) = 6 then ((spec_l3Step.f 2 ((rd_T77 x7 x9).f3)).bind fun bt212 => ((spec_l3Step.f 12 0).bind fun bt217 => ((some (([(⟨bt212.1, bt212.2.1, bt212.2.2⟩ : S95), (⟨bt217.1, bt217.2.1, bt217.2.2⟩ : S95)] : List (S95)) : List (S95))).bind fun y222 => (if x1.length + y222.length < 3518437208883 then (spec_l14Steps.j1 k (x1 ++ y222) x7 x8 x9 ((rd_T77 x7 x9).f0) ((rd_T77 x7 x9).f1) ((rd_T77 x7 x9).f2) ((rd_T77 x7 x9).f3) ((rd_T77 x7 x9).f4) ((rd_T77 x7 x9).f5)) else (none))))) else ((spec_l3Step.f 2 ((rd_T77 x7 x9).f3)).bind fun bt228 => (if x1.length < 3518437208883 then (spec_l14Steps.j1 k (x1 ++ [(⟨bt228.1, bt228.2.1, bt228.2.2⟩ : S95)]) x7 x8 x9 ((rd_T77 x7 x9).f0) ((rd_T77 x7 x9).f1) ((rd_T77 x7 x9).f2) ((rd_T77 x7 x9).f3) ((rd_T77 x7 x9).f4) ((rd_T77 x7 x9).f5)) else (none)))))))) else (none)) else (none)) else (some x1)
def spec_l14Steps.j1 : Nat → List (S95) → List (S77) → Int → Int → Int → Int → Int → Int → Int → Int → Option ((List (S95)))
  | 0, _, _, _, _, _, _, _, _, _, _ => none
  | k + 1, x1, x7, x8, x9, x146000, x146001, x146002, x146003, x146004, x146005 => (spec_l9Sets.f x146000).bind fun t236 => (if t236 = true then ((spec_l3Step.f 3 x146002).bind fun bt237 => (if x1.length < 3518437208883 then (spec_l14Steps.l0 k (x1 ++ [(⟨bt237.1, bt237.2.1, bt237.2.2⟩ : S95)]) x7 x8 (wrap64 (x9 + 1))) else (none))) else (spec_l14Steps.l0 k x1 x7 x8 (wrap64 (x9 + 1))))
end
def spec_l14Steps.f (k : Nat) (l0 : List (S77)) (l1 : List (S95)) : Option ((List (S95))) := spec_l14Steps.l0 k l1 l0 (l0.length : Int) 0
theorem spec_l14Steps.mono_l : ∀ k, (∀ y0 y1 y2 y3, LeO (spec_l14Steps.l0 k y0 y1 y2 y3) (spec_l14Steps.l0 (k + 1) y0 y1 y2 y3)) ∧ (∀ y0 y1 y2 y3 y4 y5 y6 y7 y8 y9, LeO (spec_l14Steps.j1 k y0 y1 y2 y3 y4 y5 y6 y7 y8 y9) (spec_l14Steps.j1 (k + 1) y0 y1 y2 y3 y4 y5 y6 y7 y8 y9))
  | 0 => ⟨fun _ _ _ _ r h => by simp [spec_l14Steps.l0] at h, fun _ _ _ _ _ _ _ _ _ _ r h => by simp [spec_l14Steps.j1] at h⟩
  | k + 1 => by
    obtain ⟨ih0, ih1⟩ := spec_l14Steps.mono_l k
    refine ⟨?_, ?_⟩
    · intro y0 y1 y2 y3
      unfold spec_l14Steps.l0
      repeat' first
      | (with_reducible exact ih0 _ _ _ _)
      | (with_reducible exact ih1 _ _ _ _ _ _ _ _ _ _)
      | (with_reducible exact LeO.refl _)
      | (with_reducible exact LeO.none _)
      | (with_reducible refine LeO.ite ?_ ?_)
      | (with_reducible refine LeO.bind ?_ (fun _ => ?_))
      | exact ih0 _ _ _ _
      | exact ih1 _ _ _ _ _ _ _ _ _ _
      | exact LeO.none _
      | refine LeO.ite ?_ ?_
      | refine LeO.bind ?_ (fun _ => ?_)
    · intro y0 y1 y2 y3 y4 y5 y6 y7 y8 y9
      unfold spec_l14Steps.j1
      repeat' first
      | (with_reducible exact ih0 _ _ _ _)
      | (with_reducible exact ih1 _ _ _ _ _ _ _ _ _ _)
      | (with_reducible exact LeO.refl _)
      | (with_reducible exact LeO.none _)
      | (with_reducible refine LeO.ite ?_ ?_)
      | (with_reducible refine LeO.bind ?_ (fun _ => ?_))
      | exact ih0 _ _ _ _
      | exact ih1 _ _ _ _ _ _ _ _ _ _
      | exact LeO.none _
      | refine LeO.ite ?_ ?_
      | refine LeO.bind ?_ (fun _ => ?_)
theorem spec_l14Steps.mono : ∀ a0 a1 k, LeO (spec_l14Steps.f k a0 a1) (spec_l14Steps.f (k + 1) a0 a1) := by
  intro a0 a1 k
  obtain ⟨ih0, ih1⟩ := spec_l14Steps.mono_l k
  unfold spec_l14Steps.f
  repeat' first
      | (with_reducible exact ih0 _ _ _ _)
      | (with_reducible exact ih1 _ _ _ _ _ _ _ _ _ _)
      | (with_reducible exact LeO.refl _)
      | (with_reducible exact LeO.none _)
      | (with_reducible refine LeO.ite ?_ ?_)
      | (with_reducible refine LeO.bind ?_ (fun _ => ?_))
      | exact ih0 _ _ _ _
      | exact ih1 _ _ _ _ _ _ _ _ _ _
      | exact LeO.none _
      | refine LeO.ite ?_ ?_
      | refine LeO.bind ?_ (fun _ => ?_)
def spec_l14Steps.T9 : Bool × List (List Nat × List Nat) := (true, [([], []), ([], []), ([1], [1]), ([2], [2]), ([], []), ([4], [4]), ([5, 3], [5]), ([], []), ([7], [7]), ([8, 6], [8]), ([3, 6, 9], [3, 6, 9]), ([0, 10, 9], [0, 10]), ([11, 11, 0, 1, 2, 3, 4, 5, 6, 7, 8, 9, 10, 11], [0, 11])])
def spec_l14Steps.B9 : List Nat := [0, 0, 2, 6, 0, 16, 62, 0, 128, 510, 1022, 2047, 4095]
theorem spec_l14Steps.tab9 : rtab .any (opsOf Try.f74 9) = spec_l14Steps.T9 := by kernel_rfl
theorem spec_l14Steps.bits9 : waitsOk spec_l14Steps.T9.2 spec_l14Steps.B9 = true := by kernel_rfl
def spec_l14Steps.T13 : Bool × List (List Nat × List Nat) := (true, [([], []), ([], []), ([1], [1]), ([2], [2]), ([], []), ([4], [4]), ([5, 3], [5]), ([6], []), ([3, 6, 7], [3, 6, 7]), ([0, 8, 7], [0, 8]), ([9, 9, 0, 1, 2, 3, 4, 5, 6, 7, 8, 9], [0, 9])])
def spec_l14Steps.B13 : List Nat := [0, 0, 2, 6, 0, 16, 62, 126, 254, 511, 1023]
theorem spec_l14Steps.tab13 : rtab .any (opsOf Try.f74 13) = spec_l14Steps.T13 := by kernel_rfl
theorem spec_l14Steps.bits13 : waitsOk spec_l14Steps.T13.2 spec_l14Steps.B13 = true := by kernel_rfl
set_option maxHeartbeats 8000000 in
set_option maxRecDepth 100000 in
theorem spec_l14Steps.calls (k : Nat) (A0 : Option Addr) (c0 : Nat) (l0 : List (S77)) (P1_ : Nat → Prop) (u9000_ : Value) (l1 : List (S95)) (r : List (S95)) (w0 w : World) (hB : Below w0.heap.size w0 w) (hr0 : ∀ W_, Kept w W_ (fun k_ => P1_ k_) → Kd.C k77 W_ A0 l0.length l0) (hc0 : l0.length ≤ c0) (ho1 : u9000_ = .slice none 0 0 ∧ l1 = []) (h : spec_l14Steps.f k l0 l1 = some r) :
    Calls Try.prog 74 #[.slice A0 l0.length c0, u9000_] w fun e w' => ∃ v0_ : Value, e = .returned (v0_) ∧ Kd.N k95 95 w' w.heap.size (fun k_ => (P1_ k_ ∨ w.heap.size ≤ k_)) v0_ r ∧ Below w0.heap.size w0 w' ∧ Kept w w' (fun k_ => P1_ k_) := by
  have hu77 := Try.underlying77
  have HR0 := Aside0.mk hr0
  have HC0 := Aside0.mk hc0
  clear hr0 hc0
  have HO1 := Aside0.mk (show Kd.N k95 95 w w.heap.size (fun k_ => (P1_ k_ ∨ w.heap.size ≤ k_)) u9000_ l1 from by obtain ⟨rfl, rfl⟩ := ho1; exact Kd.N_nil _ _ _ _ _)
  have HK := Aside0.mk (Kept.refl w (fun k_ => P1_ k_))
  have HW0 := Aside0.mk hB.size
  have HB := Aside0.mk hB
  clear hB
  have H : (spec_l14Steps.l0 k l1 l0 (l0.length : Int) 0) = some r := h
  clear h
  have H' := Aside0.mk H
  clear H
  go_enter Try.func74, Try.ntmps74
  go_wp2
  go_loopg [1, 9] k (fun kq v1 v9 w' => ∃ (x1_1 : List (S95)) (x9_1 : Int), v9 = .int .i64 x9_1 ∧ Aside0 (spec_l14Steps.l0 kq x1_1 l0 (l0.length : Int) x9_1 = some r) ∧ Aside0 (kq ≤ k) ∧ Aside0 (Kd.N k95 95 w' w.heap.size (fun k_ => (P1_ k_ ∨ w.heap.size ≤ k_)) v1 x1_1) ∧ Aside0 (Kept w w' (fun k_ => P1_ k_)) ∧ Aside0 (Below w0.heap.size w0 w'))
  case atStart => exact ⟨(l1), (0), (by first | rfl | (simp; done) | (simp [*]; done)), H', ⟨Nat.le_refl _⟩, ⟨by (with_reducible repeat (first | apply Kd.N_alloc | apply Kd.N_drewN | apply Kd.N_drew)); exact HO1.out⟩, ⟨by repeat (first | (with_reducible first | exact HK.out | apply Kept.alloc | apply Kept.drewN | apply Kept.drew) | exact HK.out)⟩, ⟨by repeat (first | (with_reducible first | exact HB.out | apply below_alloc | apply pw_below_drewN | apply below_drew1) | exact HB.out)⟩⟩
  case round =>
    clear H'
    try clear p2
    obtain ⟨x1_1, x9_1, rfl, HA, HK1, HO_1, HK, HB⟩ := hrel
    cases gk with
    | zero => exact absurd HA.out (by simp [spec_l14Steps.l0])
    | succ k1 =>
      have H := HA.out
      clear HA
      simp only [spec_l14Steps.l0] at H
      by_cases c3 : x9_1 < (l0.length : Int)
      · rw [if_pos c3] at H
        have c3b0 : decide (x9_1 < (l0.length : Int)) = true := decide_eq_true c3
        clear c3
        by_cases c4 : 0 ≤ x9_1
        · rw [if_pos c4] at H
          have c4b0 : decide (0 ≤ x9_1) = true := decide_eq_true c4
          clear c4
          by_cases c5 : x9_1 < (l0.length : Int)
          · rw [if_pos c5] at H
            have c5b0 : decide (x9_1 < (l0.length : Int)) = true := decide_eq_true c5
            clear c5
            have HC6 := Aside0.mk H
            clear H
            have p144 : 0 ≤ (x9_1 : Int) := of_decide_eq_true (by first | (with_reducible assumption) | assumption)
            have q144 : x9_1 < (l0.length : Int) := of_decide_eq_true (by first | (with_reducible assumption) | assumption)
            obtain ⟨ad144, e144, hx144_0, hx144_1, hx144_2, hx144_3, hx144_4, hx144_5⟩ := at_T77 (Kd.C_kept_now HR0.out HK.out) x9_1 p144 q144
            cases e144
            replace p144 := eq_true p144
            replace q144 := eq_true q144
            go_upto_block 2 with (first | ((with_reducible refine gate_dst (N := 6) rfl ?_); refine box_event ?hg (N := 6) ?hd (cs := #[.int .i64 0, .int .i64 0, .int .i64 0, .int .i64 0, .int .i64 0, .int .i64 0]) (t := 77) ?hr ?_; (case hd => rfl); (case hg => rfl); (case hr => first | (go_simp; done) | (go_simp; rfl)); intro gb145 hg w7 hbox hb; have n0_ := Aside0.mk (Kd.N_below (Kd.N_elderB (by (with_reducible repeat (first | apply Kd.N_alloc | apply Kd.N_drewN | apply Kd.N_drew)); exact HO_1.out) gb145 (Nat.le_of_eq hg.symm)) hb); have n1_ := Aside0.mk (Kept.below (S := (fun k_ => P1_ k_)) (by repeat (first | (with_reducible first | exact HK.out | apply Kept.alloc | apply Kept.drewN | apply Kept.drew) | exact HK.out)) hb); have n2_ := Aside0.mk (below_step (by repeat (first | (with_reducible first | exact HB.out | apply below_alloc | apply pw_below_drewN | apply below_drew1) | exact HB.out)) hb); have n3_ := Aside0.mk (hbox); have n4_ := Aside0.mk ((by rw [hg]; exact (by first | exact HK.out.1 | exact (show Kept w _ (fun k_ => P1_ k_) from by repeat (first | (with_reducible first | exact HK.out | apply Kept.alloc | apply Kept.drewN | apply Kept.drew) | exact HK.out)).1) : w.heap.size ≤ gb145)); have n5_ := Aside0.mk ((by rw [hg]; exact (below_size (by repeat (first | (with_reducible first | exact HB.out | apply below_alloc | apply pw_below_drewN | apply below_drew1) | exact HB.out))) : w0.heap.size ≤ gb145)); clear HO_1; clear HK; clear HB; have HO_1 := n0_; have HK := n1_; have HB := n2_; have BK145 := n3_; have GW145 := n4_; have GE145 := n5_; clear n0_ n1_ n2_ n3_ n4_ n5_; clear hb hbox hg; have hcz8_0 : w7.cell? ⟨gb145, 0, none⟩ = some (.int .i64 0) := (blk_cell BK145.out 0).trans rfl; have hcz8_1 : w7.cell? ⟨gb145, 1, none⟩ = some (.int .i64 0) := (blk_cell BK145.out 1).trans rfl; have hcz8_2 : w7.cell? ⟨gb145, 2, none⟩ = some (.int .i64 0) := (blk_cell BK145.out 2).trans rfl; have hcz8_3 : w7.cell? ⟨gb145, 3, none⟩ = some (.int .i64 0) := (blk_cell BK145.out 3).trans rfl; have hcz8_4 : w7.cell? ⟨gb145, 4, none⟩ = some (.int .i64 0) := (blk_cell BK145.out 4).trans rfl; have hcz8_5 : w7.cell? ⟨gb145, 5, none⟩ = some (.int .i64 0) := (blk_cell BK145.out 5).trans rfl; have hfz8_0 := blk_frozen BK145.out 0; have hfz8_1 := blk_frozen BK145.out 1; have hfz8_2 := blk_frozen BK145.out 2; have hfz8_3 := blk_frozen BK145.out 3; have hfz8_4 := blk_frozen BK145.out 4; have hfz8_5 := blk_frozen BK145.out 5))
            (try simp only [Act.put, List.setIfInBounds_toArray, List.set_cons_zero, List.set_cons_succ])
            go_cut [1] (fun v1 wc => ∃ (kq : Nat) (x1_5 : List (S95)), Aside0 (spec_l14Steps.j1 kq x1_5 l0 (l0.length : Int) x9_1 ((rd_T77 l0 x9_1).f0) ((rd_T77 l0 x9_1).f1) ((rd_T77 l0 x9_1).f2) ((rd_T77 l0 x9_1).f3) ((rd_T77 l0 x9_1).f4) ((rd_T77 l0 x9_1).f5) = some r) ∧ Aside0 (kq ≤ k1) ∧ Aside0 (Kd.N k95 95 wc w.heap.size (fun k_ => (P1_ k_ ∨ w.heap.size ≤ k_) ∧ k_ ≠ gb145) v1 x1_5) ∧ Aside0 (wc.heap[gb145]? = some (.cells #[.int .i64 ((rd_T77 l0 x9_1).f0), .int .i64 ((rd_T77 l0 x9_1).f1), .int .i64 ((rd_T77 l0 x9_1).f2), .int .i64 ((rd_T77 l0 x9_1).f3), .int .i64 ((rd_T77 l0 x9_1).f4), .int .i64 ((rd_T77 l0 x9_1).f5)] 77 (0, 0))) ∧ Aside0 (Kept w wc (fun k_ => P1_ k_)) ∧ Aside0 (Below w0.heap.size w0 wc))
            case first =>
              have H := HC6.out
              clear HC6
              by_cases c9 : ((rd_T77 l0 x9_1).f0) = 1
              · rw [if_pos c9] at H
                have c9b0 : (((rd_T77 l0 x9_1).f0) == 1) = true := beq_iff_eq.mpr c9
                have c9b1 : (((rd_T77 l0 x9_1).f0) != 1) = false := bne_eq_false_iff_eq.mpr c9
                clear c9
                (first | rw [c9b0] | (simp only [i64_w, i32_w]; rw [c9b0]) | skip)
                replace H := Option.bind_eq_some_iff.mp H
                obtain ⟨⟨t146, t147, t148⟩, A100, H⟩ := H
                replace H : (if x1_1.length < 3518437208883 then (spec_l14Steps.j1 k1 (x1_1 ++ [(⟨t146, t147, t148⟩ : S95)]) l0 (l0.length : Int) x9_1 ((rd_T77 l0 x9_1).f0) ((rd_T77 l0 x9_1).f1) ((rd_T77 l0 x9_1).f2) ((rd_T77 l0 x9_1).f3) ((rd_T77 l0 x9_1).f4) ((rd_T77 l0 x9_1).f5)) else (none)) = some r := H
                have A10 := Aside0.mk A100
                clear A100
                by_cases c11 : x1_1.length < 3518437208883
                · rw [if_pos c11] at H
                  have LMc11 := Aside0.mk c11
                  clear c11
                  obtain ⟨y151, hy151⟩ : ∃ y_ : List (S95), y_ = (x1_1 ++ [(⟨t146, t147, t148⟩ : S95)]) := ⟨_, rfl⟩
                  replace H : (spec_l14Steps.j1 k1 y151 l0 (l0.length : Int) x9_1 ((rd_T77 l0 x9_1).f0) ((rd_T77 l0 x9_1).f1) ((rd_T77 l0 x9_1).f2) ((rd_T77 l0 x9_1).f3) ((rd_T77 l0 x9_1).f4) ((rd_T77 l0 x9_1).f5)) = some r := by first | (rw [hy151]; with_reducible exact H) | (have H2_ := (Option.bind_some _ _).symm.trans H; rw [hy151]; with_reducible exact H2_) | (have H2_ := (Option.bind_some _ _).symm.trans H; with_reducible exact H2_) | with_reducible exact H | (rw [hy151]; exact H) | exact H
                  have Ny151 := Aside0.mk hy151
                  clear hy151
                  have H' := Aside0.mk H
                  clear H
                  have hcz12_0 : w7.cell? ⟨gb145, 0, none⟩ = some (.int .i64 0) := (blk_cell BK145.out 0).trans rfl
                  have hcz12_1 : w7.cell? ⟨gb145, 1, none⟩ = some (.int .i64 0) := (blk_cell BK145.out 1).trans rfl
                  have hcz12_2 : w7.cell? ⟨gb145, 2, none⟩ = some (.int .i64 0) := (blk_cell BK145.out 2).trans rfl
                  have hcz12_3 : w7.cell? ⟨gb145, 3, none⟩ = some (.int .i64 0) := (blk_cell BK145.out 3).trans rfl
                  have hcz12_4 : w7.cell? ⟨gb145, 4, none⟩ = some (.int .i64 0) := (blk_cell BK145.out 4).trans rfl
                  have hcz12_5 : w7.cell? ⟨gb145, 5, none⟩ = some (.int .i64 0) := (blk_cell BK145.out 5).trans rfl
                  have hfz12_0 := blk_frozen BK145.out 0
                  have hfz12_1 := blk_frozen BK145.out 1
                  have hfz12_2 := blk_frozen BK145.out 2
                  have hfz12_3 := blk_frozen BK145.out 3
                  have hfz12_4 := blk_frozen BK145.out 4
                  have hfz12_5 := blk_frozen BK145.out 5
                  go_wp2_with (first | ((with_reducible refine gate_callee (f := 117) rfl ?_); refine goesL_ (some 26) rfl rfl Try.func117 (by kernel_rfl) rfl #[.int .i64 1, .int .i64 ((rd_T77 l0 x9_1).f5)] rfl (by (try simp only [List.map_toArray, List.map_cons, List.map_nil]); first | done | rfl | (simp only [List.length_drop, List.length_take]; rfl)) ?_; (with_reducible refine (spec_l3Step.calls 1 ((rd_T77 l0 x9_1).f5) t146 t147 t148 _ A10.out).mono ?_); rintro e w13 ⟨v149, rfl, ho0, hb⟩; refine ⟨_, rfl, ?_⟩; have n0_ := Aside0.mk (Kd.N_elder' (by (with_reducible repeat (first | apply Kd.N_alloc | apply Kd.N_drewN | apply Kd.N_drew)); exact (Kd.N_mono (Kd.N_far (p := ⟨gb145, 5, none⟩) (Kd.N_far (p := ⟨gb145, 4, none⟩) (Kd.N_far (p := ⟨gb145, 3, none⟩) (Kd.N_far (p := ⟨gb145, 2, none⟩) (Kd.N_far (p := ⟨gb145, 1, none⟩) (Kd.N_far (p := ⟨gb145, 0, none⟩) (Kd.N_mono HO_1.out (fun k_ hk => (⟨hk, hk.2⟩ : _ ∧ k_ ≠ gb145))) (fun _ hk => hk.2) (.int .i64 ((rd_T77 l0 x9_1).f0))) (fun _ hk => hk.2) (.int .i64 ((rd_T77 l0 x9_1).f1))) (fun _ hk => hk.2) (.int .i64 ((rd_T77 l0 x9_1).f2))) (fun _ hk => hk.2) (.int .i64 ((rd_T77 l0 x9_1).f3))) (fun _ hk => hk.2) (.int .i64 ((rd_T77 l0 x9_1).f4))) (fun _ hk => hk.2) (.int .i64 ((rd_T77 l0 x9_1).f5))) (fun _ h_ => h_.1))) (Kd.R_base ho0) hb); have n1_ := Aside0.mk (Kd.R_lower (Kd.R_newM (M := fun k_ => (P1_ k_ ∨ w.heap.size ≤ k_)) ho0 (show Kept w _ (fun k_ => P1_ k_) from by repeat (first | (with_reducible first | exact HK.out | apply Kept.alloc | apply Kept.drewN | apply Kept.drew | refine Kept.setCell ?_ (.inr GW145.out) _) | exact HK.out)).1 (fun k_ h_ => .inr h_)) (below_size (by repeat (first | (with_reducible first | exact HB.out | apply below_alloc | apply pw_below_drewN | apply below_drew1 | refine below_set ?_ GE145.out) | exact HB.out)))); have n2_ := Aside0.mk (blk_below (g := gb145) (o := .cells #[.int .i64 ((rd_T77 l0 x9_1).f0), .int .i64 ((rd_T77 l0 x9_1).f1), .int .i64 ((rd_T77 l0 x9_1).f2), .int .i64 ((rd_T77 l0 x9_1).f3), .int .i64 ((rd_T77 l0 x9_1).f4), .int .i64 ((rd_T77 l0 x9_1).f5)] 77 (0, 0)) (by (with_reducible repeat (first | refine blk_drewN ?_ _ | refine blk_drew ?_ | refine blk_alloc ?_ _)); refine blk_put (cs := #[.int .i64 ((rd_T77 l0 x9_1).f0), .int .i64 ((rd_T77 l0 x9_1).f1), .int .i64 ((rd_T77 l0 x9_1).f2), .int .i64 ((rd_T77 l0 x9_1).f3), .int .i64 ((rd_T77 l0 x9_1).f4), .int .i64 0]) ?_ 5 _ rfl; (with_reducible repeat (first | refine blk_drewN ?_ _ | refine blk_drew ?_ | refine blk_alloc ?_ _)); refine blk_put (cs := #[.int .i64 ((rd_T77 l0 x9_1).f0), .int .i64 ((rd_T77 l0 x9_1).f1), .int .i64 ((rd_T77 l0 x9_1).f2), .int .i64 ((rd_T77 l0 x9_1).f3), .int .i64 0, .int .i64 0]) ?_ 4 _ rfl; (with_reducible repeat (first | refine blk_drewN ?_ _ | refine blk_drew ?_ | refine blk_alloc ?_ _)); refine blk_put (cs := #[.int .i64 ((rd_T77 l0 x9_1).f0), .int .i64 ((rd_T77 l0 x9_1).f1), .int .i64 ((rd_T77 l0 x9_1).f2), .int .i64 0, .int .i64 0, .int .i64 0]) ?_ 3 _ rfl; (with_reducible repeat (first | refine blk_drewN ?_ _ | refine blk_drew ?_ | refine blk_alloc ?_ _)); refine blk_put (cs := #[.int .i64 ((rd_T77 l0 x9_1).f0), .int .i64 ((rd_T77 l0 x9_1).f1), .int .i64 0, .int .i64 0, .int .i64 0, .int .i64 0]) ?_ 2 _ rfl; (with_reducible repeat (first | refine blk_drewN ?_ _ | refine blk_drew ?_ | refine blk_alloc ?_ _)); refine blk_put (cs := #[.int .i64 ((rd_T77 l0 x9_1).f0), .int .i64 0, .int .i64 0, .int .i64 0, .int .i64 0, .int .i64 0]) ?_ 1 _ rfl; (with_reducible repeat (first | refine blk_drewN ?_ _ | refine blk_drew ?_ | refine blk_alloc ?_ _)); refine blk_put (cs := #[.int .i64 0, .int .i64 0, .int .i64 0, .int .i64 0, .int .i64 0, .int .i64 0]) ?_ 0 _ rfl; (with_reducible repeat (first | refine blk_drewN ?_ _ | refine blk_drew ?_ | refine blk_alloc ?_ _)); exact BK145.out) hb); have n3_ := Aside0.mk (Kept.below (S := (fun k_ => P1_ k_)) (by repeat (first | (with_reducible first | exact HK.out | apply Kept.alloc | apply Kept.drewN | apply Kept.drew | refine Kept.setCell ?_ (.inr GW145.out) _) | exact HK.out)) hb); have n4_ := Aside0.mk (below_step (by repeat (first | (with_reducible first | exact HB.out | apply below_alloc | apply pw_below_drewN | apply below_drew1 | refine below_set ?_ GE145.out) | exact HB.out)) hb); clear HO_1; clear BK145; clear HK; clear HB; have HO_1 := n0_; have HO150 := n1_; have BK145 := n2_; have HK := n3_; have HB := n4_; clear n0_ n1_ n2_ n3_ n4_; (try clear hb); (try clear hb2); (try clear hk); (try clear hi); (try clear ho0); obtain ⟨Ao15, co15, eo15⟩ := Kd.R_slice HO150.out; subst eo15) | ((with_reducible refine gate_builtin (b := .append) (xs := #[.tmp 23, .tmp 27]) rfl ?_); at_builtin; refine Kd.N_append k95 w.heap.size rfl (.tmp 23) (.tmp 27) 38 95 (.agg #[(.int .i64 0), (.int .i64 0), (.slice none 0 0)]) 40 rfl Try.underlying38 info95 rfl (by decide) (by omega) u1 x1_1 (⟨t146, t147, t148⟩ : S95) [.int .i64 t146, .int .i64 t147, .slice Ao15 t148.length co15] (fun k_ => (P1_ k_ ∨ w.heap.size ≤ k_) ∧ k_ ≠ gb145) (fun k_ => ((fun k_ => (P1_ k_ ∨ w.heap.size ≤ k_) ∧ k_ ≠ gb145)) k_ ∧ some k_ ≠ (u1 : Value).ownBlock) rfl rfl ?aP (fun _ hk => hk) ?aF ?aO (Below.refl _ _) ?aS ?aL ?_; (case aP => exact (k95_mkF _ _ (⟨t146, t147, t148⟩ : S95) (Kd.R_reads' (Kd.R_mono (ok' := (fun k_ => ((fun k_ => (P1_ k_ ∨ w.heap.size ≤ k_) ∧ k_ ≠ gb145)) k_ ∧ some k_ ≠ (u1 : Value).ownBlock)) (Kd.R_types (Kd.R_apart' (HO150.out) (Kd.N_typed HO_1.out) (by decide)) BK145.out (by decide)) (fun k_ hk => ⟨⟨hk.1.1.1, hk.2⟩, hk.1.2⟩))).2.1 (Kd.R_F (Kd.R_mono (ok' := (fun k_ => ((fun k_ => (P1_ k_ ∨ w.heap.size ≤ k_) ∧ k_ ≠ gb145)) k_ ∧ some k_ ≠ (u1 : Value).ownBlock)) (Kd.R_types (Kd.R_apart' (HO150.out) (Kd.N_typed HO_1.out) (by decide)) BK145.out (by decide)) (fun k_ hk => ⟨⟨hk.1.1.1, hk.2⟩, hk.1.2⟩))))); (case aF => exact (fun k_ hk => ⟨(.inr (Nat.le_trans (by first | exact HK.out.1 | exact (show Kept w _ (fun k_ => P1_ k_) from by repeat (first | (with_reducible first | exact HK.out | apply Kept.alloc | apply Kept.drewN | apply Kept.drew | refine Kept.setCell ?_ (.inr GW145.out) _) | exact HK.out)).1) hk)), Kd.freshB (g := gb145) (o := .cells #[.int .i64 ((rd_T77 l0 x9_1).f0), .int .i64 ((rd_T77 l0 x9_1).f1), .int .i64 ((rd_T77 l0 x9_1).f2), .int .i64 ((rd_T77 l0 x9_1).f3), .int .i64 ((rd_T77 l0 x9_1).f4), .int .i64 ((rd_T77 l0 x9_1).f5)] 77 (0, 0)) (by (with_reducible repeat (first | refine blk_drewN ?_ _ | refine blk_drew ?_ | refine blk_alloc ?_ _)); exact BK145.out) k_ hk⟩)); (case aO => exact (by (with_reducible repeat (first | apply Kd.N_alloc | apply Kd.N_drewN | apply Kd.N_drew)); exact Kd.N_mono HO_1.out (fun _ hk => ⟨hk.1.1, hk.1.2⟩))); (case aS => exact (by first | exact HK.out.1 | exact (show Kept w _ (fun k_ => P1_ k_) from by repeat (first | (with_reducible first | exact HK.out | apply Kept.alloc | apply Kept.drewN | apply Kept.drew | refine Kept.setCell ?_ (.inr GW145.out) _) | exact HK.out)).1)); (case aL => have := LMc11.out; omega); intro v152 w14 ho hb hg hat; rw [← Ny151.out] at ho; have n0_ := Aside0.mk (blk_grown (g := gb145) (o := .cells #[.int .i64 ((rd_T77 l0 x9_1).f0), .int .i64 ((rd_T77 l0 x9_1).f1), .int .i64 ((rd_T77 l0 x9_1).f2), .int .i64 ((rd_T77 l0 x9_1).f3), .int .i64 ((rd_T77 l0 x9_1).f4), .int .i64 ((rd_T77 l0 x9_1).f5)] 77 (0, 0)) (by (with_reducible repeat (first | refine blk_drewN ?_ _ | refine blk_drew ?_ | refine blk_alloc ?_ _)); exact BK145.out) hg (Kd.N_ne HO_1.out BK145.out (by decide))); have n1_ := Aside0.mk (below_weaken (by repeat (first | (with_reducible first | exact HB.out | apply below_alloc | apply pw_below_drewN | apply below_drew1 | refine below_set ?_ GE145.out) | exact HB.out)) HW0.out hb); have n2_ := Aside0.mk (Kept.of_grown (S := (fun k_ => P1_ k_)) hg (by repeat (first | (with_reducible first | exact HK.out | apply Kept.alloc | apply Kept.drewN | apply Kept.drew | refine Kept.setCell ?_ (.inr GW145.out) _) | exact HK.out)) (fun k_ e_ => .inr (Kd.N_base HO_1.out k_ e_))); have n3_ := Aside0.mk (ho); clear BK145; clear HB; clear HK; clear HO_1; clear HO150; have BK145 := n0_; have HB := n1_; have HK := n2_; have HO153 := n3_; clear n0_ n1_ n2_ n3_; clear ho hb hg hat))
                  go_meet
                  case rel => exact ⟨_, (y151), H', ⟨by have := HK1.out; first | omega | exact Nat.le_refl _⟩, ⟨by (with_reducible repeat (first | apply Kd.N_alloc | apply Kd.N_drewN | apply Kd.N_drew)); exact HO153.out⟩, ⟨by (with_reducible repeat (first | refine blk_drewN ?_ _ | refine blk_drew ?_ | refine blk_alloc ?_ _)); exact BK145.out⟩, ⟨by repeat (first | (with_reducible first | exact HK.out | apply Kept.alloc | apply Kept.drewN | apply Kept.drew | refine Kept.setCell ?_ (.inr GW145.out) _) | exact HK.out)⟩, ⟨by repeat (first | (with_reducible first | exact HB.out | apply below_alloc | apply pw_below_drewN | apply below_drew1 | refine below_set ?_ GE145.out) | exact HB.out)⟩⟩
                · rw [if_neg c11] at H
                  exact absurd H (by simp)
              · rw [if_neg c9] at H
                have c9b0 : (((rd_T77 l0 x9_1).f0) == 1) = false := beq_eq_false_iff_ne.mpr c9
                have c9b1 : (((rd_T77 l0 x9_1).f0) != 1) = true := bne_iff_ne.mpr c9
                (first | rw [c9b0] | (simp only [i64_w, i32_w]; rw [c9b0]) | skip)
                by_cases c16 : ((rd_T77 l0 x9_1).f0) = 3
                · rw [if_pos c16] at H
                  have c16b0 : (((rd_T77 l0 x9_1).f0) == 3) = true := beq_iff_eq.mpr c16
                  have c16b1 : (((rd_T77 l0 x9_1).f0) != 3) = false := bne_eq_false_iff_eq.mpr c16
                  clear c16
                  replace H := Option.bind_eq_some_iff.mp H
                  obtain ⟨⟨t154, t155, t156⟩, A170, H⟩ := H
                  replace H : ((spec_l3Step.f 2 ((rd_T77 l0 x9_1).f4)).bind fun bt159 => ((spec_l3Step.f ((rd_T77 l0 x9_1).f1) 0).bind fun bt164 => ((some (([(⟨t154, t155, t156⟩ : S95), (⟨bt159.1, bt159.2.1, bt159.2.2⟩ : S95), (⟨bt164.1, bt164.2.1, bt164.2.2⟩ : S95)] : List (S95)) : List (S95))).bind fun y169 => (if x1_1.length + y169.length < 3518437208883 then (spec_l14Steps.j1 k1 (x1_1 ++ y169) l0 (l0.length : Int) x9_1 ((rd_T77 l0 x9_1).f0) ((rd_T77 l0 x9_1).f1) ((rd_T77 l0 x9_1).f2) ((rd_T77 l0 x9_1).f3) ((rd_T77 l0 x9_1).f4) ((rd_T77 l0 x9_1).f5)) else (none))))) = some r := H
                  have A17 := Aside0.mk A170
                  clear A170
                  replace H := Option.bind_eq_some_iff.mp H
                  obtain ⟨⟨t159, t160, t161⟩, A180, H⟩ := H
                  replace H : ((spec_l3Step.f ((rd_T77 l0 x9_1).f1) 0).bind fun bt164 => ((some (([(⟨t154, t155, t156⟩ : S95), (⟨t159, t160, t161⟩ : S95), (⟨bt164.1, bt164.2.1, bt164.2.2⟩ : S95)] : List (S95)) : List (S95))).bind fun y169 => (if x1_1.length + y169.length < 3518437208883 then (spec_l14Steps.j1 k1 (x1_1 ++ y169) l0 (l0.length : Int) x9_1 ((rd_T77 l0 x9_1).f0) ((rd_T77 l0 x9_1).f1) ((rd_T77 l0 x9_1).f2) ((rd_T77 l0 x9_1).f3) ((rd_T77 l0 x9_1).f4) ((rd_T77 l0 x9_1).f5)) else (none)))) = some r := H
                  have A18 := Aside0.mk A180
                  clear A180
                  replace H := Option.bind_eq_some_iff.mp H
                  obtain ⟨⟨t164, t165, t166⟩, A190, H⟩ := H
                  replace H : ((some (([(⟨t154, t155, t156⟩ : S95), (⟨t159, t160, t161⟩ : S95), (⟨t164, t165, t166⟩ : S95)] : List (S95)) : List (S95))).bind fun y169 => (if x1_1.length + y169.length < 3518437208883 then (spec_l14Steps.j1 k1 (x1_1 ++ y169) l0 (l0.length : Int) x9_1 ((rd_T77 l0 x9_1).f0) ((rd_T77 l0 x9_1).f1) ((rd_T77 l0 x9_1).f2) ((rd_T77 l0 x9_1).f3) ((rd_T77 l0 x9_1).f4) ((rd_T77 l0 x9_1).f5)) else (none))) = some r := H
                  have A19 := Aside0.mk A190
                  clear A190
                  obtain ⟨y169, hy169⟩ : ∃ y_ : List (S95), y_ = (([(⟨t154, t155, t156⟩ : S95), (⟨t159, t160, t161⟩ : S95), (⟨t164, t165, t166⟩ : S95)] : List (S95))) := ⟨_, rfl⟩
                  replace H : (if x1_1.length + y169.length < 3518437208883 then (spec_l14Steps.j1 k1 (x1_1 ++ y169) l0 (l0.length : Int) x9_1 ((rd_T77 l0 x9_1).f0) ((rd_T77 l0 x9_1).f1) ((rd_T77 l0 x9_1).f2) ((rd_T77 l0 x9_1).f3) ((rd_T77 l0 x9_1).f4) ((rd_T77 l0 x9_1).f5)) else (none)) = some r := by first | (rw [hy169]; with_reducible exact H) | (have H2_ := (Option.bind_some _ _).symm.trans H; rw [hy169]; with_reducible exact H2_) | (have H2_ := (Option.bind_some _ _).symm.trans H; with_reducible exact H2_) | with_reducible exact H | (rw [hy169]; exact H) | exact H
                  have Ny169 := Aside0.mk hy169
                  clear hy169
                  by_cases c20 : x1_1.length + y169.length < 3518437208883
                  · rw [if_pos c20] at H
                    have LMc20 := Aside0.mk c20
                    clear c20
                    obtain ⟨y172, hy172⟩ : ∃ y_ : List (S95), y_ = (x1_1 ++ y169) := ⟨_, rfl⟩
                    replace H : (spec_l14Steps.j1 k1 y172 l0 (l0.length : Int) x9_1 ((rd_T77 l0 x9_1).f0) ((rd_T77 l0 x9_1).f1) ((rd_T77 l0 x9_1).f2) ((rd_T77 l0 x9_1).f3) ((rd_T77 l0 x9_1).f4) ((rd_T77 l0 x9_1).f5)) = some r := by first | (rw [hy172]; with_reducible exact H) | (have H2_ := (Option.bind_some _ _).symm.trans H; rw [hy172]; with_reducible exact H2_) | (have H2_ := (Option.bind_some _ _).symm.trans H; with_reducible exact H2_) | with_reducible exact H | (rw [hy172]; exact H) | exact H
                    have Ny172 := Aside0.mk hy172
                    clear hy172
                    have H' := Aside0.mk H
                    clear H
                    try go_wp2
                    have n0_ : Aside0 (Kd.N k95 95 ((((((w7.setCell ⟨gb145, 0, none⟩ (.int .i64 ((rd_T77 l0 x9_1).f0))).setCell ⟨gb145, 1, none⟩ (.int .i64 ((rd_T77 l0 x9_1).f1))).setCell ⟨gb145, 2, none⟩ (.int .i64 ((rd_T77 l0 x9_1).f2))).setCell ⟨gb145, 3, none⟩ (.int .i64 ((rd_T77 l0 x9_1).f3))).setCell ⟨gb145, 4, none⟩ (.int .i64 ((rd_T77 l0 x9_1).f4))).setCell ⟨gb145, 5, none⟩ (.int .i64 ((rd_T77 l0 x9_1).f5))) w.heap.size (fun k_ => (P1_ k_ ∨ w.heap.size ≤ k_) ∧ k_ ≠ gb145) u1 x1_1) := ⟨by (with_reducible repeat (first | apply Kd.N_alloc | apply Kd.N_drewN | apply Kd.N_drew)); exact Kd.N_mono (Kd.N_far (p := ⟨gb145, 5, none⟩) (Kd.N_far (p := ⟨gb145, 4, none⟩) (Kd.N_far (p := ⟨gb145, 3, none⟩) (Kd.N_far (p := ⟨gb145, 2, none⟩) (Kd.N_far (p := ⟨gb145, 1, none⟩) (Kd.N_far (p := ⟨gb145, 0, none⟩) (Kd.N_mono HO_1.out (fun k_ hk => (⟨hk, hk.2⟩ : _ ∧ k_ ≠ gb145))) (fun _ hk => hk.2) (.int .i64 ((rd_T77 l0 x9_1).f0))) (fun _ hk => hk.2) (.int .i64 ((rd_T77 l0 x9_1).f1))) (fun _ hk => hk.2) (.int .i64 ((rd_T77 l0 x9_1).f2))) (fun _ hk => hk.2) (.int .i64 ((rd_T77 l0 x9_1).f3))) (fun _ hk => hk.2) (.int .i64 ((rd_T77 l0 x9_1).f4))) (fun _ hk => hk.2) (.int .i64 ((rd_T77 l0 x9_1).f5))) (fun _ hk => ⟨hk.1.1, hk.1.2⟩)⟩
                    have n1_ : Aside0 (((((((w7.setCell ⟨gb145, 0, none⟩ (.int .i64 ((rd_T77 l0 x9_1).f0))).setCell ⟨gb145, 1, none⟩ (.int .i64 ((rd_T77 l0 x9_1).f1))).setCell ⟨gb145, 2, none⟩ (.int .i64 ((rd_T77 l0 x9_1).f2))).setCell ⟨gb145, 3, none⟩ (.int .i64 ((rd_T77 l0 x9_1).f3))).setCell ⟨gb145, 4, none⟩ (.int .i64 ((rd_T77 l0 x9_1).f4))).setCell ⟨gb145, 5, none⟩ (.int .i64 ((rd_T77 l0 x9_1).f5))).heap[gb145]? = some (.cells #[.int .i64 ((rd_T77 l0 x9_1).f0), .int .i64 ((rd_T77 l0 x9_1).f1), .int .i64 ((rd_T77 l0 x9_1).f2), .int .i64 ((rd_T77 l0 x9_1).f3), .int .i64 ((rd_T77 l0 x9_1).f4), .int .i64 ((rd_T77 l0 x9_1).f5)] 77 (0, 0))) := ⟨by (with_reducible repeat (first | refine blk_drewN ?_ _ | refine blk_drew ?_ | refine blk_alloc ?_ _)); refine blk_put (cs := #[.int .i64 ((rd_T77 l0 x9_1).f0), .int .i64 ((rd_T77 l0 x9_1).f1), .int .i64 ((rd_T77 l0 x9_1).f2), .int .i64 ((rd_T77 l0 x9_1).f3), .int .i64 ((rd_T77 l0 x9_1).f4), .int .i64 0]) ?_ 5 _ rfl; (with_reducible repeat (first | refine blk_drewN ?_ _ | refine blk_drew ?_ | refine blk_alloc ?_ _)); refine blk_put (cs := #[.int .i64 ((rd_T77 l0 x9_1).f0), .int .i64 ((rd_T77 l0 x9_1).f1), .int .i64 ((rd_T77 l0 x9_1).f2), .int .i64 ((rd_T77 l0 x9_1).f3), .int .i64 0, .int .i64 0]) ?_ 4 _ rfl; (with_reducible repeat (first | refine blk_drewN ?_ _ | refine blk_drew ?_ | refine blk_alloc ?_ _)); refine blk_put (cs := #[.int .i64 ((rd_T77 l0 x9_1).f0), .int .i64 ((rd_T77 l0 x9_1).f1), .int .i64 ((rd_T77 l0 x9_1).f2), .int .i64 0, .int .i64 0, .int .i64 0]) ?_ 3 _ rfl; (with_reducible repeat (first | refine blk_drewN ?_ _ | refine blk_drew ?_ | refine blk_alloc ?_ _)); refine blk_put (cs := #[.int .i64 ((rd_T77 l0 x9_1).f0), .int .i64 ((rd_T77 l0 x9_1).f1), .int .i64 0, .int .i64 0, .int .i64 0, .int .i64 0]) ?_ 2 _ rfl; (with_reducible repeat (first | refine blk_drewN ?_ _ | refine blk_drew ?_ | refine blk_alloc ?_ _)); refine blk_put (cs := #[.int .i64 ((rd_T77 l0 x9_1).f0), .int .i64 0, .int .i64 0, .int .i64 0, .int .i64 0, .int .i64 0]) ?_ 1 _ rfl; (with_reducible repeat (first | refine blk_drewN ?_ _ | refine blk_drew ?_ | refine blk_alloc ?_ _)); refine blk_put (cs := #[.int .i64 0, .int .i64 0, .int .i64 0, .int .i64 0, .int .i64 0, .int .i64 0]) ?_ 0 _ rfl; (with_reducible repeat (first | refine blk_drewN ?_ _ | refine blk_drew ?_ | refine blk_alloc ?_ _)); exact BK145.out⟩
                    have n2_ : Aside0 (Kept w ((((((w7.setCell ⟨gb145, 0, none⟩ (.int .i64 ((rd_T77 l0 x9_1).f0))).setCell ⟨gb145, 1, none⟩ (.int .i64 ((rd_T77 l0 x9_1).f1))).setCell ⟨gb145, 2, none⟩ (.int .i64 ((rd_T77 l0 x9_1).f2))).setCell ⟨gb145, 3, none⟩ (.int .i64 ((rd_T77 l0 x9_1).f3))).setCell ⟨gb145, 4, none⟩ (.int .i64 ((rd_T77 l0 x9_1).f4))).setCell ⟨gb145, 5, none⟩ (.int .i64 ((rd_T77 l0 x9_1).f5))) (fun k_ => P1_ k_)) := ⟨by repeat (first | (with_reducible first | exact HK.out | apply Kept.alloc | apply Kept.drewN | apply Kept.drew | refine Kept.setCell ?_ (.inr GW145.out) _) | exact HK.out)⟩
                    have n3_ : Aside0 (Below w0.heap.size w0 ((((((w7.setCell ⟨gb145, 0, none⟩ (.int .i64 ((rd_T77 l0 x9_1).f0))).setCell ⟨gb145, 1, none⟩ (.int .i64 ((rd_T77 l0 x9_1).f1))).setCell ⟨gb145, 2, none⟩ (.int .i64 ((rd_T77 l0 x9_1).f2))).setCell ⟨gb145, 3, none⟩ (.int .i64 ((rd_T77 l0 x9_1).f3))).setCell ⟨gb145, 4, none⟩ (.int .i64 ((rd_T77 l0 x9_1).f4))).setCell ⟨gb145, 5, none⟩ (.int .i64 ((rd_T77 l0 x9_1).f5)))) := ⟨by repeat (first | (with_reducible first | exact HB.out | apply below_alloc | apply pw_below_drewN | apply below_drew1 | refine below_set ?_ GE145.out) | exact HB.out)⟩
                    (try clear HO_1)
                    (try clear BK145)
                    (try clear HK)
                    (try clear HB)
                    generalize ((((((w7.setCell ⟨gb145, 0, none⟩ (.int .i64 ((rd_T77 l0 x9_1).f0))).setCell ⟨gb145, 1, none⟩ (.int .i64 ((rd_T77 l0 x9_1).f1))).setCell ⟨gb145, 2, none⟩ (.int .i64 ((rd_T77 l0 x9_1).f2))).setCell ⟨gb145, 3, none⟩ (.int .i64 ((rd_T77 l0 x9_1).f3))).setCell ⟨gb145, 4, none⟩ (.int .i64 ((rd_T77 l0 x9_1).f4))).setCell ⟨gb145, 5, none⟩ (.int .i64 ((rd_T77 l0 x9_1).f5))) = w21 at n0_ n1_ n2_ n3_ ⊢
                    have HO_1 := n0_
                    have BK145 := n1_
                    have HK := n2_
                    have HB := n3_
                    clear n0_ n1_ n2_ n3_
                    have n0_ := Aside0.mk (Kd.N_drew HO_1.out)
                    have n1_ := Aside0.mk (blk_drew BK145.out)
                    have n2_ := Aside0.mk (Kept.drew HK.out)
                    have n3_ := Aside0.mk (below_drew1 HB.out)
                    clear HO_1
                    clear BK145
                    clear HK
                    clear HB
                    have HO_1 := n0_
                    have BK145 := n1_
                    have HK := n2_
                    have HB := n3_
                    clear n0_ n1_ n2_ n3_
                    refine start_ (n := 13) (S := fun w' => w'.cell? ⟨gb145, 0, none⟩ = some (.int .i64 ((rd_T77 l0 x9_1).f0)) ∧ w'.cell? ⟨gb145, 1, none⟩ = some (.int .i64 ((rd_T77 l0 x9_1).f1)) ∧ w'.cell? ⟨gb145, 2, none⟩ = some (.int .i64 ((rd_T77 l0 x9_1).f2)) ∧ w'.cell? ⟨gb145, 3, none⟩ = some (.int .i64 ((rd_T77 l0 x9_1).f3)) ∧ w'.cell? ⟨gb145, 4, none⟩ = some (.int .i64 ((rd_T77 l0 x9_1).f4)) ∧ w'.cell? ⟨gb145, 5, none⟩ = some (.int .i64 ((rd_T77 l0 x9_1).f5))) (ds := []) #[false, false, false, false, false, false, false, false, false, false, false, false, false] (by kernel_rfl) rfl rfl ⟨(blk_cell BK145.out 0).trans rfl, (blk_cell BK145.out 1).trans rfl, (blk_cell BK145.out 2).trans rfl, (blk_cell BK145.out 3).trans rfl, (blk_cell BK145.out 4).trans rfl, (blk_cell BK145.out 5).trans rfl⟩ (fun hHeld => ?_); refine with_tabW spec_l14Steps.tab9 spec_l14Steps.bits9 (fun HT_ HW_ => ?_)
                    generalize w21.drew = w22 at HO_1 BK145 HK HB hHeld ⊢
                    refine pure_ (i := 0) (N := some 31) (v := ?_) (a' := ?_) #[true, false, false, false, false, false, false, false, false, false, false, false, false] rfl rfl (any_of HT_.out (by kernel_rfl)) (fun _ _ _ h => h) (Or.inl ⟨by rfl, ?_⟩) ?_ ?_
                    rotate_left
                    · intro w'
                      go_simp
                      with_reducible rfl
                    rotate_left
                    · simp only [Act.put, List.setIfInBounds_toArray, List.set_cons_zero, List.set_cons_succ, i64_w, i32_w]
                      rfl
                    refine pure_ (i := 1) (N := some 32) (v := ?_) (a' := ?_) #[true, true, false, false, false, false, false, false, false, false, false, false, false] rfl rfl (any_of HT_.out (by kernel_rfl)) (fun _ _ _ h => h) (Or.inl ⟨by rfl, ?_⟩) ?_ ?_
                    rotate_left
                    · intro w'
                      go_simp
                      with_reducible rfl
                    rotate_left
                    · simp only [Act.put, List.setIfInBounds_toArray, List.set_cons_zero, List.set_cons_succ, i64_w, i32_w]
                      rfl
                    refine pure_ (i := 4) (N := some 35) (v := ?_) (a' := ?_) #[true, true, false, false, true, false, false, false, false, false, false, false, false] rfl rfl (any_of HT_.out (by kernel_rfl)) (fun _ _ _ h => h) (Or.inl ⟨by rfl, ?_⟩) ?_ ?_
                    rotate_left
                    · intro w'
                      go_simp
                      with_reducible rfl
                    rotate_left
                    · simp only [Act.put, List.setIfInBounds_toArray, List.set_cons_zero, List.set_cons_succ, i64_w, i32_w]
                      rfl
                    refine pure_ (i := 7) (N := some 38) (v := ?_) (a' := ?_) #[true, true, false, false, true, false, false, true, false, false, false, false, false] rfl rfl (any_of HT_.out (by kernel_rfl)) (fun _ _ _ h => h) (Or.inl ⟨by rfl, ?_⟩) ?_ ?_
                    rotate_left
                    · intro w'
                      go_simp
                      with_reducible rfl
                    rotate_left
                    · simp only [Act.put, List.setIfInBounds_toArray, List.set_cons_zero, List.set_cons_succ, i64_w, i32_w]
                      rfl
                    refine take_ (i := 2) (N := some 33) (v := ?_) (a' := ?_) #[true, true, true, false, true, false, false, true, false, false, false, false, false] rfl rfl (take_ofW HT_.out HW_.out (by kernel_rfl)) (fun _ _ _ h => h) (Or.inl ⟨by rfl, ?_⟩) hHeld ?_ ?_
                    rotate_left
                    · rintro w' ⟨s0, s1, s2, s3, s4, s5⟩
                      go_simp
                      with_reducible rfl
                    rotate_left
                    · simp only [Act.put, List.setIfInBounds_toArray, List.set_cons_zero, List.set_cons_succ, i64_w, i32_w]
                      rfl
                    refine take_ (i := 5) (N := some 36) (v := ?_) (a' := ?_) #[true, true, true, false, true, true, false, true, false, false, false, false, false] rfl rfl (take_ofW HT_.out HW_.out (by kernel_rfl)) (fun _ _ _ h => h) (Or.inl ⟨by rfl, ?_⟩) hHeld ?_ ?_
                    rotate_left
                    · rintro w' ⟨s0, s1, s2, s3, s4, s5⟩
                      go_simp
                      with_reducible rfl
                    rotate_left
                    · simp only [Act.put, List.setIfInBounds_toArray, List.set_cons_zero, List.set_cons_succ, i64_w, i32_w]
                      rfl
                    refine take_ (i := 8) (N := some 39) (v := ?_) (a' := ?_) #[true, true, true, false, true, true, false, true, true, false, false, false, false] rfl rfl (take_ofW HT_.out HW_.out (by kernel_rfl)) (fun _ _ _ h => h) (Or.inl ⟨by rfl, ?_⟩) hHeld ?_ ?_
                    rotate_left
                    · rintro w' ⟨s0, s1, s2, s3, s4, s5⟩
                      go_simp
                      with_reducible rfl
                    rotate_left
                    · simp only [Act.put, List.setIfInBounds_toArray, List.set_cons_zero, List.set_cons_succ, i64_w, i32_w]
                      rfl
                    refine one_ (i := 3) (N := some 34) #[true, true, true, true, true, true, false, true, true, false, false, false, false] rfl rfl (one_of HT_.out (by kernel_rfl)) (by decide) (fun K hK => ?_)
                    refine goes_ Try.func117 (by kernel_rfl) rfl #[.int .i64 2, .int .i64 ((rd_T77 l0 x9_1).f3)] (by rfl) rfl rfl (by (try simp only [List.map_toArray, List.map_cons, List.map_nil]); first | done | rfl | (simp only [List.length_drop, List.length_take]; rfl)) ?_
                    with_reducible refine (spec_l3Step.calls 2 ((rd_T77 l0 x9_1).f3) t154 t155 t156 _ A17.out).mono ?_
                    rintro e w23 ⟨v157, rfl, ho0, hb⟩
                    refine ⟨_, rfl, ?_⟩
                    have n0_ := Aside0.mk (Kd.N_elder' (by (with_reducible repeat (first | apply Kd.N_alloc | apply Kd.N_drewN | apply Kd.N_drew)); exact HO_1.out) (Kd.R_base ho0) hb)
                    have n1_ := Aside0.mk (Kd.R_lower (Kd.R_newM (M := fun k_ => (P1_ k_ ∨ w.heap.size ≤ k_)) ho0 (by first | exact HK.out.1 | exact (show Kept w _ (fun k_ => P1_ k_) from by repeat (first | (with_reducible first | exact HK.out | apply Kept.alloc | apply Kept.drewN | apply Kept.drew | refine Kept.setCell ?_ (.inr GW145.out) _) | exact HK.out)).1) (fun k_ h_ => .inr h_)) (below_size (by repeat (first | (with_reducible first | exact HB.out | apply below_alloc | apply pw_below_drewN | apply below_drew1 | refine below_set ?_ GE145.out) | exact HB.out))))
                    have n2_ := Aside0.mk (blk_below (g := gb145) (o := .cells #[.int .i64 ((rd_T77 l0 x9_1).f0), .int .i64 ((rd_T77 l0 x9_1).f1), .int .i64 ((rd_T77 l0 x9_1).f2), .int .i64 ((rd_T77 l0 x9_1).f3), .int .i64 ((rd_T77 l0 x9_1).f4), .int .i64 ((rd_T77 l0 x9_1).f5)] 77 (0, 0)) (by (with_reducible repeat (first | refine blk_drewN ?_ _ | refine blk_drew ?_ | refine blk_alloc ?_ _)); exact BK145.out) hb)
                    have n3_ := Aside0.mk (Kept.below (S := (fun k_ => P1_ k_)) (by repeat (first | (with_reducible first | exact HK.out | apply Kept.alloc | apply Kept.drewN | apply Kept.drew | refine Kept.setCell ?_ (.inr GW145.out) _) | exact HK.out)) hb)
                    have n4_ := Aside0.mk (below_step (by repeat (first | (with_reducible first | exact HB.out | apply below_alloc | apply pw_below_drewN | apply below_drew1 | refine below_set ?_ GE145.out) | exact HB.out)) hb)
                    clear HO_1
                    clear BK145
                    clear HK
                    clear HB
                    have HO_1 := n0_
                    have HO158 := n1_
                    have BK145 := n2_
                    have HK := n3_
                    have HB := n4_
                    clear n0_ n1_ n2_ n3_ n4_
                    (try clear hb)
                    (try clear hb2)
                    (try clear hk)
                    (try clear hi)
                    (try clear ho0)
                    refine hK.out _ _ ⟨(blk_cell BK145.out 0).trans rfl, (blk_cell BK145.out 1).trans rfl, (blk_cell BK145.out 2).trans rfl, (blk_cell BK145.out 3).trans rfl, (blk_cell BK145.out 4).trans rfl, (blk_cell BK145.out 5).trans rfl⟩ (fun hHeld => ?_)
                    clear hK K
                    refine norm_ (a' := ?_) ?_ ?_
                    rotate_left
                    · show Act.put _ (some 34) _ = _
                      simp only [Act.put, List.setIfInBounds_toArray, List.set_cons_zero, List.set_cons_succ, i64_w, i32_w]
                      rfl
                    refine one_ (i := 6) (N := some 37) #[true, true, true, true, true, true, true, true, true, false, false, false, false] rfl rfl (one_of HT_.out (by kernel_rfl)) (by decide) (fun K hK => ?_)
                    refine goes_ Try.func117 (by kernel_rfl) rfl #[.int .i64 2, .int .i64 ((rd_T77 l0 x9_1).f4)] (by rfl) rfl rfl (by (try simp only [List.map_toArray, List.map_cons, List.map_nil]); first | done | rfl | (simp only [List.length_drop, List.length_take]; rfl)) ?_
                    with_reducible refine (spec_l3Step.calls 2 ((rd_T77 l0 x9_1).f4) t159 t160 t161 _ A18.out).mono ?_
                    rintro e w24 ⟨v162, rfl, ho0, hb⟩
                    refine ⟨_, rfl, ?_⟩
                    have n0_ := Aside0.mk (Kd.N_elder' (by (with_reducible repeat (first | apply Kd.N_alloc | apply Kd.N_drewN | apply Kd.N_drew)); exact HO_1.out) (Kd.R_base ho0) hb)
                    have n1_ := Aside0.mk (Kd.R_elder' (by (with_reducible repeat (first | apply Kd.R_alloc | apply Kd.R_drewN | apply Kd.R_drew)); exact HO158.out) (Kd.R_base ho0) hb)
                    have n2_ := Aside0.mk (Kd.R_lower (Kd.R_new' (Kd.R_newM (M := fun k_ => (P1_ k_ ∨ w.heap.size ≤ k_)) ho0 (by first | exact HK.out.1 | exact (show Kept w _ (fun k_ => P1_ k_) from by repeat (first | (with_reducible first | exact HK.out | apply Kept.alloc | apply Kept.drewN | apply Kept.drew | refine Kept.setCell ?_ (.inr GW145.out) _) | exact HK.out)).1) (fun k_ h_ => .inr h_)) (Kd.R_lt (by (with_reducible repeat (first | apply Kd.R_alloc | apply Kd.R_drewN | apply Kd.R_drew)); exact HO158.out))) (below_size (by repeat (first | (with_reducible first | exact HB.out | apply below_alloc | apply pw_below_drewN | apply below_drew1 | refine below_set ?_ GE145.out) | exact HB.out))))
                    have n3_ := Aside0.mk (blk_below (g := gb145) (o := .cells #[.int .i64 ((rd_T77 l0 x9_1).f0), .int .i64 ((rd_T77 l0 x9_1).f1), .int .i64 ((rd_T77 l0 x9_1).f2), .int .i64 ((rd_T77 l0 x9_1).f3), .int .i64 ((rd_T77 l0 x9_1).f4), .int .i64 ((rd_T77 l0 x9_1).f5)] 77 (0, 0)) (by (with_reducible repeat (first | refine blk_drewN ?_ _ | refine blk_drew ?_ | refine blk_alloc ?_ _)); exact BK145.out) hb)
                    have n4_ := Aside0.mk (Kept.below (S := (fun k_ => P1_ k_)) (by repeat (first | (with_reducible first | exact HK.out | apply Kept.alloc | apply Kept.drewN | apply Kept.drew | refine Kept.setCell ?_ (.inr GW145.out) _) | exact HK.out)) hb)
                    have n5_ := Aside0.mk (below_step (by repeat (first | (with_reducible first | exact HB.out | apply below_alloc | apply pw_below_drewN | apply below_drew1 | refine below_set ?_ GE145.out) | exact HB.out)) hb)
                    clear HO_1
                    clear HO158
                    clear BK145
                    clear HK
                    clear HB
                    have HO_1 := n0_
                    have HO158 := n1_
                    have HO163 := n2_
                    have BK145 := n3_
                    have HK := n4_
                    have HB := n5_
                    clear n0_ n1_ n2_ n3_ n4_ n5_
                    (try clear hb)
                    (try clear hb2)
                    (try clear hk)
                    (try clear hi)
                    (try clear ho0)
                    refine hK.out _ _ ⟨(blk_cell BK145.out 0).trans rfl, (blk_cell BK145.out 1).trans rfl, (blk_cell BK145.out 2).trans rfl, (blk_cell BK145.out 3).trans rfl, (blk_cell BK145.out 4).trans rfl, (blk_cell BK145.out 5).trans rfl⟩ (fun hHeld => ?_)
                    clear hK K
                    refine norm_ (a' := ?_) ?_ ?_
                    rotate_left
                    · show Act.put _ (some 37) _ = _
                      simp only [Act.put, List.setIfInBounds_toArray, List.set_cons_zero, List.set_cons_succ, i64_w, i32_w]
                      rfl
                    refine one_ (i := 9) (N := some 40) #[true, true, true, true, true, true, true, true, true, true, false, false, false] rfl rfl (one_of HT_.out (by kernel_rfl)) (by decide) (fun K hK => ?_)
                    refine goes_ Try.func117 (by kernel_rfl) rfl #[.int .i64 ((rd_T77 l0 x9_1).f1), .int .i64 0] (by rfl) rfl rfl (by (try simp only [List.map_toArray, List.map_cons, List.map_nil]); first | done | rfl | (simp only [List.length_drop, List.length_take]; rfl)) ?_
                    with_reducible refine (spec_l3Step.calls ((rd_T77 l0 x9_1).f1) 0 t164 t165 t166 _ A19.out).mono ?_
                    rintro e w25 ⟨v167, rfl, ho0, hb⟩
                    refine ⟨_, rfl, ?_⟩
                    have n0_ := Aside0.mk (Kd.N_elder' (by (with_reducible repeat (first | apply Kd.N_alloc | apply Kd.N_drewN | apply Kd.N_drew)); exact HO_1.out) (Kd.R_base ho0) hb)
                    have n1_ := Aside0.mk (Kd.R_elder' (by (with_reducible repeat (first | apply Kd.R_alloc | apply Kd.R_drewN | apply Kd.R_drew)); exact HO158.out) (Kd.R_base ho0) hb)
                    have n2_ := Aside0.mk (Kd.R_elder' (by (with_reducible repeat (first | apply Kd.R_alloc | apply Kd.R_drewN | apply Kd.R_drew)); exact HO163.out) (Kd.R_base ho0) hb)
                    have n3_ := Aside0.mk (Kd.R_lower (Kd.R_new' (Kd.R_new' (Kd.R_newM (M := fun k_ => (P1_ k_ ∨ w.heap.size ≤ k_)) ho0 (by first | exact HK.out.1 | exact (show Kept w _ (fun k_ => P1_ k_) from by repeat (first | (with_reducible first | exact HK.out | apply Kept.alloc | apply Kept.drewN | apply Kept.drew | refine Kept.setCell ?_ (.inr GW145.out) _) | exact HK.out)).1) (fun k_ h_ => .inr h_)) (Kd.R_lt (by (with_reducible repeat (first | apply Kd.R_alloc | apply Kd.R_drewN | apply Kd.R_drew)); exact HO158.out))) (Kd.R_lt (by (with_reducible repeat (first | apply Kd.R_alloc | apply Kd.R_drewN | apply Kd.R_drew)); exact HO163.out))) (below_size (by repeat (first | (with_reducible first | exact HB.out | apply below_alloc | apply pw_below_drewN | apply below_drew1 | refine below_set ?_ GE145.out) | exact HB.out))))
                    have n4_ := Aside0.mk (blk_below (g := gb145) (o := .cells #[.int .i64 ((rd_T77 l0 x9_1).f0), .int .i64 ((rd_T77 l0 x9_1).f1), .int .i64 ((rd_T77 l0 x9_1).f2), .int .i64 ((rd_T77 l0 x9_1).f3), .int .i64 ((rd_T77 l0 x9_1).f4), .int .i64 ((rd_T77 l0 x9_1).f5)] 77 (0, 0)) (by (with_reducible repeat (first | refine blk_drewN ?_ _ | refine blk_drew ?_ | refine blk_alloc ?_ _)); exact BK145.out) hb)
                    have n5_ := Aside0.mk (Kept.below (S := (fun k_ => P1_ k_)) (by repeat (first | (with_reducible first | exact HK.out | apply Kept.alloc | apply Kept.drewN | apply Kept.drew | refine Kept.setCell ?_ (.inr GW145.out) _) | exact HK.out)) hb)
                    have n6_ := Aside0.mk (below_step (by repeat (first | (with_reducible first | exact HB.out | apply below_alloc | apply pw_below_drewN | apply below_drew1 | refine below_set ?_ GE145.out) | exact HB.out)) hb)
                    clear HO_1
                    clear HO158
                    clear HO163
                    clear BK145
                    clear HK
                    clear HB
                    have HO_1 := n0_
                    have HO158 := n1_
                    have HO163 := n2_
                    have HO168 := n3_
                    have BK145 := n4_
                    have HK := n5_
                    have HB := n6_
                    clear n0_ n1_ n2_ n3_ n4_ n5_ n6_
                    (try clear hb)
                    (try clear hb2)
                    (try clear hk)
                    (try clear hi)
                    (try clear ho0)
                    obtain ⟨Ao26, co26, eo26⟩ := Kd.R_slice HO158.out
                    (first | subst eo26 | (injection eo26 with f1_ f2_ f3_; have f4_ := f1_.symm; have f5_ := f3_.symm; clear f1_ f2_ f3_; subst f4_; subst f5_))
                    obtain ⟨Ao27, co27, eo27⟩ := Kd.R_slice HO163.out
                    (first | subst eo27 | (injection eo27 with f1_ f2_ f3_; have f4_ := f1_.symm; have f5_ := f3_.symm; clear f1_ f2_ f3_; subst f4_; subst f5_))
                    obtain ⟨Ao28, co28, eo28⟩ := Kd.R_slice HO168.out
                    (first | subst eo28 | (injection eo28 with f1_ f2_ f3_; have f4_ := f1_.symm; have f5_ := f3_.symm; clear f1_ f2_ f3_; subst f4_; subst f5_))
                    refine hK.out _ _ ⟨(blk_cell BK145.out 0).trans rfl, (blk_cell BK145.out 1).trans rfl, (blk_cell BK145.out 2).trans rfl, (blk_cell BK145.out 3).trans rfl, (blk_cell BK145.out 4).trans rfl, (blk_cell BK145.out 5).trans rfl⟩ (fun hHeld => ?_)
                    clear hK K
                    refine norm_ (a' := ?_) ?_ ?_
                    rotate_left
                    · show Act.put _ (some 40) _ = _
                      simp only [Act.put, List.setIfInBounds_toArray, List.set_cons_zero, List.set_cons_succ, i64_w, i32_w]
                      rfl
                    refine one_ (i := 10) (N := some 41) #[true, true, true, true, true, true, true, true, true, true, true, false, false] rfl rfl (one_of HT_.out (by kernel_rfl)) (by decide) (fun K hK => ?_)
                    refine Kd.N_lit_step k95 _ 95 ?hg (N' := 41) ?hd (xs := ([(⟨t154, t155, t156⟩ : S95), (⟨t159, t160, t161⟩ : S95), (⟨t164, t165, t166⟩ : S95)] : List (S95))) (inner := [.int .i64 t154, .int .i64 t155, .slice Ao26 t156.length co26, .int .i64 t159, .int .i64 t160, .slice Ao27 t161.length co27, .int .i64 t164, .int .i64 t165, .slice Ao28 t166.length co28]) (ok := (fun k_ => (P1_ k_ ∨ w.heap.size ≤ k_) ∧ some k_ ≠ (u1 : Value).ownBlock ∧ k_ ≠ gb145)) (okp := (fun k_ => (P1_ k_ ∨ w.heap.size ≤ k_) ∧ some k_ ≠ (u1 : Value).ownBlock ∧ k_ ≠ gb145)) ?hr ?hp (fun _ hk => hk) ((show ∀ k_, w25.heap.size ≤ k_ → (fun k_ => (P1_ k_ ∨ w.heap.size ≤ k_) ∧ some k_ ≠ (u1 : Value).ownBlock ∧ k_ ≠ gb145) k_ from fun k_ hk => ⟨(.inr (Nat.le_trans (by first | exact HK.out.1 | exact (show Kept w _ (fun k_ => P1_ k_) from by repeat (first | (with_reducible first | exact HK.out | apply Kept.alloc | apply Kept.drewN | apply Kept.drew | refine Kept.setCell ?_ (.inr GW145.out) _) | exact HK.out)).1) hk)), Kd.fresh' (Kd.N_lt (by (with_reducible repeat (first | apply Kd.N_alloc | apply Kd.N_drewN | apply Kd.N_drew)); exact HO_1.out)) k_ hk, Kd.freshB (g := gb145) (o := .cells #[.int .i64 ((rd_T77 l0 x9_1).f0), .int .i64 ((rd_T77 l0 x9_1).f1), .int .i64 ((rd_T77 l0 x9_1).f2), .int .i64 ((rd_T77 l0 x9_1).f3), .int .i64 ((rd_T77 l0 x9_1).f4), .int .i64 ((rd_T77 l0 x9_1).f5)] 77 (0, 0)) (by (with_reducible repeat (first | refine blk_drewN ?_ _ | refine blk_drew ?_ | refine blk_alloc ?_ _)); exact BK145.out) k_ hk⟩) _ (Nat.le_refl _)) (Below.refl _ _) (Nat.le_refl _) (by simp) ?_; (case hd => rfl); (case hg => rfl); (case hr => first | (go_simp; done) | (go_simp; rfl)); (case hp => exact (Reps.c3 (show Kd.FK k95 _ _ (⟨t154, t155, t156⟩ : S95) [.int .i64 t154, .int .i64 t155, .slice Ao26 t156.length co26] from (k95_mkF _ _ (⟨t154, t155, t156⟩ : S95) (Kd.R_reads' (Kd.R_mono (ok' := (fun k_ => (P1_ k_ ∨ w.heap.size ≤ k_) ∧ some k_ ≠ (u1 : Value).ownBlock ∧ k_ ≠ gb145)) (Kd.R_types (Kd.R_apart' (HO158.out) (Kd.N_typed HO_1.out) (by decide)) BK145.out (by decide)) (fun k_ hk => ⟨hk.1.1.1.1.1, ⟨hk.1.2, hk.2⟩⟩))).2.1 (Kd.R_F (Kd.R_mono (ok' := (fun k_ => (P1_ k_ ∨ w.heap.size ≤ k_) ∧ some k_ ≠ (u1 : Value).ownBlock ∧ k_ ≠ gb145)) (Kd.R_types (Kd.R_apart' (HO158.out) (Kd.N_typed HO_1.out) (by decide)) BK145.out (by decide)) (fun k_ hk => ⟨hk.1.1.1.1.1, ⟨hk.1.2, hk.2⟩⟩))))) (Reps.c3 (show Kd.FK k95 _ _ (⟨t159, t160, t161⟩ : S95) [.int .i64 t159, .int .i64 t160, .slice Ao27 t161.length co27] from (k95_mkF _ _ (⟨t159, t160, t161⟩ : S95) (Kd.R_reads' (Kd.R_mono (ok' := (fun k_ => (P1_ k_ ∨ w.heap.size ≤ k_) ∧ some k_ ≠ (u1 : Value).ownBlock ∧ k_ ≠ gb145)) (Kd.R_types (Kd.R_apart' (HO163.out) (Kd.N_typed HO_1.out) (by decide)) BK145.out (by decide)) (fun k_ hk => ⟨hk.1.1.1.1.1, ⟨hk.1.2, hk.2⟩⟩))).2.1 (Kd.R_F (Kd.R_mono (ok' := (fun k_ => (P1_ k_ ∨ w.heap.size ≤ k_) ∧ some k_ ≠ (u1 : Value).ownBlock ∧ k_ ≠ gb145)) (Kd.R_types (Kd.R_apart' (HO163.out) (Kd.N_typed HO_1.out) (by decide)) BK145.out (by decide)) (fun k_ hk => ⟨hk.1.1.1.1.1, ⟨hk.1.2, hk.2⟩⟩))))) (Reps.c3 (show Kd.FK k95 _ _ (⟨t164, t165, t166⟩ : S95) [.int .i64 t164, .int .i64 t165, .slice Ao28 t166.length co28] from (k95_mkF _ _ (⟨t164, t165, t166⟩ : S95) (Kd.R_reads' (Kd.R_mono (ok' := (fun k_ => (P1_ k_ ∨ w.heap.size ≤ k_) ∧ some k_ ≠ (u1 : Value).ownBlock ∧ k_ ≠ gb145)) (Kd.R_types (Kd.R_apart' (HO168.out) (Kd.N_typed HO_1.out) (by decide)) BK145.out (by decide)) (fun k_ hk => ⟨hk.1.1.1.1.1, ⟨hk.1.2, hk.2⟩⟩))).2.1 (Kd.R_F (Kd.R_mono (ok' := (fun k_ => (P1_ k_ ∨ w.heap.size ≤ k_) ∧ some k_ ≠ (u1 : Value).ownBlock ∧ k_ ≠ gb145)) (Kd.R_types (Kd.R_apart' (HO168.out) (Kd.N_typed HO_1.out) (by decide)) BK145.out (by decide)) (fun k_ hk => ⟨hk.1.1.1.1.1, ⟨hk.1.2, hk.2⟩⟩))))) (Reps.none _ _)))))
                    intro v170 w29 ho30 hb hg_ hnew_
                    clear hg_ hnew_
                    (first | rw [← Ny169.out] at ho30 | (simp only [Int.reduceToNat] at ho30; rw [← Ny169.out] at ho30))
                    have n0_ := Aside0.mk (Kd.N_elder' (by (with_reducible repeat (first | apply Kd.N_alloc | apply Kd.N_drewN | apply Kd.N_drew)); exact HO_1.out) (by first | exact Kd.N_base ho30 | exact Kd.S_base ho30) hb)
                    have n1_ := Aside0.mk (Kd.N_lower ho30 (by first | exact HK.out.1 | exact (show Kept w _ (fun k_ => P1_ k_) from by repeat (first | (with_reducible first | exact HK.out | apply Kept.alloc | apply Kept.drewN | apply Kept.drew | refine Kept.setCell ?_ (.inr GW145.out) _) | exact HK.out)).1))
                    have n2_ := Aside0.mk (blk_below (g := gb145) (o := .cells #[.int .i64 ((rd_T77 l0 x9_1).f0), .int .i64 ((rd_T77 l0 x9_1).f1), .int .i64 ((rd_T77 l0 x9_1).f2), .int .i64 ((rd_T77 l0 x9_1).f3), .int .i64 ((rd_T77 l0 x9_1).f4), .int .i64 ((rd_T77 l0 x9_1).f5)] 77 (0, 0)) (by (with_reducible repeat (first | refine blk_drewN ?_ _ | refine blk_drew ?_ | refine blk_alloc ?_ _)); exact BK145.out) hb)
                    have n3_ := Aside0.mk (Kept.below (S := (fun k_ => P1_ k_)) (by repeat (first | (with_reducible first | exact HK.out | apply Kept.alloc | apply Kept.drewN | apply Kept.drew | refine Kept.setCell ?_ (.inr GW145.out) _) | exact HK.out)) hb)
                    have n4_ := Aside0.mk (below_step (by repeat (first | (with_reducible first | exact HB.out | apply below_alloc | apply pw_below_drewN | apply below_drew1 | refine below_set ?_ GE145.out) | exact HB.out)) hb)
                    clear HO_1
                    clear BK145
                    clear HK
                    clear HB
                    clear HO158
                    clear HO163
                    clear HO168
                    have HO_1 := n0_
                    have HO171 := n1_
                    have BK145 := n2_
                    have HK := n3_
                    have HB := n4_
                    clear n0_ n1_ n2_ n3_ n4_
                    clear hb ho30
                    obtain ⟨Ao32, co32, eo32⟩ := Kd.N_slice HO171.out
                    (first | subst eo32 | (injection eo32 with f1_ f2_ f3_; have f4_ := f1_.symm; have f5_ := f3_.symm; clear f1_ f2_ f3_; subst f4_; subst f5_))
                    refine hK.out _ _ ⟨(blk_cell BK145.out 0).trans rfl, (blk_cell BK145.out 1).trans rfl, (blk_cell BK145.out 2).trans rfl, (blk_cell BK145.out 3).trans rfl, (blk_cell BK145.out 4).trans rfl, (blk_cell BK145.out 5).trans rfl⟩ (fun hHeld => ?_)
                    clear hK K
                    refine norm_ (a' := ?_) ?_ ?_
                    rotate_left
                    · show Act.put _ (some 41) _ = _
                      simp only [Act.put, List.setIfInBounds_toArray, List.set_cons_zero, List.set_cons_succ, i64_w, i32_w]
                      rfl
                    refine one_ (i := 11) (N := some 42) #[true, true, true, true, true, true, true, true, true, true, true, true, false] rfl rfl (one_of HT_.out (by kernel_rfl)) (by decide) (fun K hK => ?_)
                    refine Kd.N_append_rows_step k95 w.heap.size rfl (.tmp 31) (.tmp 41) 38 95 (.agg #[(.int .i64 0), (.int .i64 0), (.slice none 0 0)]) 40 rfl Try.underlying38 info95 rfl (by decide) (by omega) u1 x1_1 y169 _ _ _ (fun k_ => (P1_ k_ ∨ w.heap.size ≤ k_) ∧ k_ ≠ gb145) (fun k_ => ((fun k_ => (P1_ k_ ∨ w.heap.size ≤ k_) ∧ k_ ≠ gb145)) k_ ∧ some k_ ≠ (u1 : Value).ownBlock) rfl rfl ?aO ?aR (fun _ hk => hk) ?aF (Below.refl _ _) ?aS ?aL ?_
                    (case aR => exact (by skip; exact Kd.N_F (Kd.N_mono (ok' := (fun k_ => ((fun k_ => (P1_ k_ ∨ w.heap.size ≤ k_) ∧ k_ ≠ gb145)) k_ ∧ some k_ ≠ (u1 : Value).ownBlock)) (HO171.out) (fun k_ hk => ⟨⟨hk.1, hk.2.2⟩, hk.2.1⟩))))
                    (case aF => exact (fun k_ hk => ⟨(.inr (Nat.le_trans (by first | exact HK.out.1 | exact (show Kept w _ (fun k_ => P1_ k_) from by repeat (first | (with_reducible first | exact HK.out | apply Kept.alloc | apply Kept.drewN | apply Kept.drew | refine Kept.setCell ?_ (.inr GW145.out) _) | exact HK.out)).1) hk)), Kd.freshB (g := gb145) (o := .cells #[.int .i64 ((rd_T77 l0 x9_1).f0), .int .i64 ((rd_T77 l0 x9_1).f1), .int .i64 ((rd_T77 l0 x9_1).f2), .int .i64 ((rd_T77 l0 x9_1).f3), .int .i64 ((rd_T77 l0 x9_1).f4), .int .i64 ((rd_T77 l0 x9_1).f5)] 77 (0, 0)) (by (with_reducible repeat (first | refine blk_drewN ?_ _ | refine blk_drew ?_ | refine blk_alloc ?_ _)); exact BK145.out) k_ hk⟩))
                    (case aO => exact (by (with_reducible repeat (first | apply Kd.N_alloc | apply Kd.N_drewN | apply Kd.N_drew)); exact Kd.N_mono HO_1.out (fun _ hk => ⟨hk.1.1.1.1.1, hk.1.1.1.1.2⟩)))
                    (case aS => exact (by first | exact HK.out.1 | exact (show Kept w _ (fun k_ => P1_ k_) from by repeat (first | (with_reducible first | exact HK.out | apply Kept.alloc | apply Kept.drewN | apply Kept.drew | refine Kept.setCell ?_ (.inr GW145.out) _) | exact HK.out)).1))
                    (case aL => have := LMc20.out; omega)
                    intro v173 w31 ho hb hg hat
                    rw [← Ny172.out] at ho
                    have n0_ := Aside0.mk (blk_grown (g := gb145) (o := .cells #[.int .i64 ((rd_T77 l0 x9_1).f0), .int .i64 ((rd_T77 l0 x9_1).f1), .int .i64 ((rd_T77 l0 x9_1).f2), .int .i64 ((rd_T77 l0 x9_1).f3), .int .i64 ((rd_T77 l0 x9_1).f4), .int .i64 ((rd_T77 l0 x9_1).f5)] 77 (0, 0)) (by (with_reducible repeat (first | refine blk_drewN ?_ _ | refine blk_drew ?_ | refine blk_alloc ?_ _)); exact BK145.out) hg (Kd.N_ne HO_1.out BK145.out (by decide)))
                    have n1_ := Aside0.mk (Kd.N_afterv (ok := (fun k_ => (P1_ k_ ∨ w.heap.size ≤ k_) ∧ k_ ≠ gb145)) (by (with_reducible repeat (first | apply Kd.N_alloc | apply Kd.N_drewN | apply Kd.N_drew)); exact Kd.N_mono HO171.out (fun _ hk => ⟨⟨hk.1, hk.2.2⟩, hk.2.1⟩)) hg hat)
                    have n2_ := Aside0.mk (below_weaken (by repeat (first | (with_reducible first | exact HB.out | apply below_alloc | apply pw_below_drewN | apply below_drew1 | refine below_set ?_ GE145.out) | exact HB.out)) HW0.out hb)
                    have n3_ := Aside0.mk (Kept.of_grown (S := (fun k_ => P1_ k_)) hg (by repeat (first | (with_reducible first | exact HK.out | apply Kept.alloc | apply Kept.drewN | apply Kept.drew | refine Kept.setCell ?_ (.inr GW145.out) _) | exact HK.out)) (fun k_ e_ => .inr (Kd.N_base HO_1.out k_ e_)))
                    have n4_ := Aside0.mk (ho)
                    clear BK145
                    clear HO171
                    clear HB
                    clear HK
                    clear HO_1
                    have BK145 := n0_
                    have HO171 := n1_
                    have HB := n2_
                    have HK := n3_
                    have HO174 := n4_
                    clear n0_ n1_ n2_ n3_ n4_
                    clear ho hb hg hat
                    refine hK.out _ _ ⟨(blk_cell BK145.out 0).trans rfl, (blk_cell BK145.out 1).trans rfl, (blk_cell BK145.out 2).trans rfl, (blk_cell BK145.out 3).trans rfl, (blk_cell BK145.out 4).trans rfl, (blk_cell BK145.out 5).trans rfl⟩ (fun hHeld => ?_)
                    clear hK K
                    refine norm_ (a' := ?_) ?_ ?_
                    rotate_left
                    · show Act.put _ (some 42) _ = _
                      simp only [Act.put, List.setIfInBounds_toArray, List.set_cons_zero, List.set_cons_succ, i64_w, i32_w]
                      rfl
                    refine pure_ (i := 12) (N := some 1) (v := ?_) (a' := ?_) #[true, true, true, true, true, true, true, true, true, true, true, true, true] rfl rfl (any_of HT_.out (by kernel_rfl)) (fun _ _ _ h => h) (Or.inl ⟨by rfl, ?_⟩) ?_ ?_
                    rotate_left
                    · intro w'
                      go_simp
                      with_reducible rfl
                    rotate_left
                    · simp only [Act.put, List.setIfInBounds_toArray, List.set_cons_zero, List.set_cons_succ, i64_w, i32_w]
                      rfl
                    refine done_ (done_of HT_.out (by kernel_rfl)) ?_
                    try go_wp2
                    go_meet
                    case rel => exact ⟨_, (y172), H', ⟨by have := HK1.out; first | omega | exact Nat.le_refl _⟩, ⟨by (with_reducible repeat (first | apply Kd.N_alloc | apply Kd.N_drewN | apply Kd.N_drew)); exact HO174.out⟩, ⟨by (with_reducible repeat (first | refine blk_drewN ?_ _ | refine blk_drew ?_ | refine blk_alloc ?_ _)); exact BK145.out⟩, ⟨by repeat (first | (with_reducible first | exact HK.out | apply Kept.alloc | apply Kept.drewN | apply Kept.drew | refine Kept.setCell ?_ (.inr GW145.out) _) | exact HK.out)⟩, ⟨by repeat (first | (with_reducible first | exact HB.out | apply below_alloc | apply pw_below_drewN | apply below_drew1 | refine below_set ?_ GE145.out) | exact HB.out)⟩⟩
                  · rw [if_neg c20] at H
                    exact absurd H (by simp)
                · rw [if_neg c16] at H
                  have c16b0 : (((rd_T77 l0 x9_1).f0) == 3) = false := beq_eq_false_iff_ne.mpr c16
                  have c16b1 : (((rd_T77 l0 x9_1).f0) != 3) = true := bne_iff_ne.mpr c16
                  by_cases c33 : ((rd_T77 l0 x9_1).f0) = 4
                  · rw [if_pos c33] at H
                    have c33b0 : (((rd_T77 l0 x9_1).f0) == 4) = true := beq_iff_eq.mpr c33
                    have c33b1 : (((rd_T77 l0 x9_1).f0) != 4) = false := bne_eq_false_iff_eq.mpr c33
                    clear c33
                    replace H := Option.bind_eq_some_iff.mp H
                    obtain ⟨⟨t175, t176, t177⟩, A340, H⟩ := H
                    replace H : ((spec_l3Step.f 10 0).bind fun bt180 => ((some (([(⟨t175, t176, t177⟩ : S95), (⟨bt180.1, bt180.2.1, bt180.2.2⟩ : S95)] : List (S95)) : List (S95))).bind fun y185 => (if x1_1.length + y185.length < 3518437208883 then (spec_l14Steps.j1 k1 (x1_1 ++ y185) l0 (l0.length : Int) x9_1 ((rd_T77 l0 x9_1).f0) ((rd_T77 l0 x9_1).f1) ((rd_T77 l0 x9_1).f2) ((rd_T77 l0 x9_1).f3) ((rd_T77 l0 x9_1).f4) ((rd_T77 l0 x9_1).f5)) else (none)))) = some r := H
                    have A34 := Aside0.mk A340
                    clear A340
                    replace H := Option.bind_eq_some_iff.mp H
                    obtain ⟨⟨t180, t181, t182⟩, A350, H⟩ := H
                    replace H : ((some (([(⟨t175, t176, t177⟩ : S95), (⟨t180, t181, t182⟩ : S95)] : List (S95)) : List (S95))).bind fun y185 => (if x1_1.length + y185.length < 3518437208883 then (spec_l14Steps.j1 k1 (x1_1 ++ y185) l0 (l0.length : Int) x9_1 ((rd_T77 l0 x9_1).f0) ((rd_T77 l0 x9_1).f1) ((rd_T77 l0 x9_1).f2) ((rd_T77 l0 x9_1).f3) ((rd_T77 l0 x9_1).f4) ((rd_T77 l0 x9_1).f5)) else (none))) = some r := H
                    have A35 := Aside0.mk A350
                    clear A350
                    obtain ⟨y185, hy185⟩ : ∃ y_ : List (S95), y_ = (([(⟨t175, t176, t177⟩ : S95), (⟨t180, t181, t182⟩ : S95)] : List (S95))) := ⟨_, rfl⟩
                    replace H : (if x1_1.length + y185.length < 3518437208883 then (spec_l14Steps.j1 k1 (x1_1 ++ y185) l0 (l0.length : Int) x9_1 ((rd_T77 l0 x9_1).f0) ((rd_T77 l0 x9_1).f1) ((rd_T77 l0 x9_1).f2) ((rd_T77 l0 x9_1).f3) ((rd_T77 l0 x9_1).f4) ((rd_T77 l0 x9_1).f5)) else (none)) = some r := by first | (rw [hy185]; with_reducible exact H) | (have H2_ := (Option.bind_some _ _).symm.trans H; rw [hy185]; with_reducible exact H2_) | (have H2_ := (Option.bind_some _ _).symm.trans H; with_reducible exact H2_) | with_reducible exact H | (rw [hy185]; exact H) | exact H
                    have Ny185 := Aside0.mk hy185
                    clear hy185
                    by_cases c36 : x1_1.length + y185.length < 3518437208883
                    · rw [if_pos c36] at H
                      have LMc36 := Aside0.mk c36
                      clear c36
                      obtain ⟨y188, hy188⟩ : ∃ y_ : List (S95), y_ = (x1_1 ++ y185) := ⟨_, rfl⟩
                      replace H : (spec_l14Steps.j1 k1 y188 l0 (l0.length : Int) x9_1 ((rd_T77 l0 x9_1).f0) ((rd_T77 l0 x9_1).f1) ((rd_T77 l0 x9_1).f2) ((rd_T77 l0 x9_1).f3) ((rd_T77 l0 x9_1).f4) ((rd_T77 l0 x9_1).f5)) = some r := by first | (rw [hy188]; with_reducible exact H) | (have H2_ := (Option.bind_some _ _).symm.trans H; rw [hy188]; with_reducible exact H2_) | (have H2_ := (Option.bind_some _ _).symm.trans H; with_reducible exact H2_) | with_reducible exact H | (rw [hy188]; exact H) | exact H
                      have Ny188 := Aside0.mk hy188
                      clear hy188
                      have H' := Aside0.mk H
                      clear H
                      have hcz37_0 : w7.cell? ⟨gb145, 0, none⟩ = some (.int .i64 0) := (blk_cell BK145.out 0).trans rfl
                      have hcz37_1 : w7.cell? ⟨gb145, 1, none⟩ = some (.int .i64 0) := (blk_cell BK145.out 1).trans rfl
                      have hcz37_2 : w7.cell? ⟨gb145, 2, none⟩ = some (.int .i64 0) := (blk_cell BK145.out 2).trans rfl
                      have hcz37_3 : w7.cell? ⟨gb145, 3, none⟩ = some (.int .i64 0) := (blk_cell BK145.out 3).trans rfl
                      have hcz37_4 : w7.cell? ⟨gb145, 4, none⟩ = some (.int .i64 0) := (blk_cell BK145.out 4).trans rfl
                      have hcz37_5 : w7.cell? ⟨gb145, 5, none⟩ = some (.int .i64 0) := (blk_cell BK145.out 5).trans rfl
                      have hfz37_0 := blk_frozen BK145.out 0
                      have hfz37_1 := blk_frozen BK145.out 1
                      have hfz37_2 := blk_frozen BK145.out 2
                      have hfz37_3 := blk_frozen BK145.out 3
                      have hfz37_4 := blk_frozen BK145.out 4
                      have hfz37_5 := blk_frozen BK145.out 5
                      go_wp2_with (first | ((with_reducible refine gate_callee (f := 117) rfl ?_); refine goesL_ (some 48) rfl rfl Try.func117 (by kernel_rfl) rfl #[.int .i64 2, .int .i64 ((rd_T77 l0 x9_1).f3)] rfl (by (try simp only [List.map_toArray, List.map_cons, List.map_nil]); first | done | rfl | (simp only [List.length_drop, List.length_take]; rfl)) ?_; (with_reducible refine (spec_l3Step.calls 2 ((rd_T77 l0 x9_1).f3) t175 t176 t177 _ A34.out).mono ?_); rintro e w38 ⟨v178, rfl, ho0, hb⟩; refine ⟨_, rfl, ?_⟩; have n0_ := Aside0.mk (Kd.N_elder' (by (with_reducible repeat (first | apply Kd.N_alloc | apply Kd.N_drewN | apply Kd.N_drew)); exact (Kd.N_mono (Kd.N_far (p := ⟨gb145, 5, none⟩) (Kd.N_far (p := ⟨gb145, 4, none⟩) (Kd.N_far (p := ⟨gb145, 3, none⟩) (Kd.N_far (p := ⟨gb145, 2, none⟩) (Kd.N_far (p := ⟨gb145, 1, none⟩) (Kd.N_far (p := ⟨gb145, 0, none⟩) (Kd.N_mono HO_1.out (fun k_ hk => (⟨hk, hk.2⟩ : _ ∧ k_ ≠ gb145))) (fun _ hk => hk.2) (.int .i64 ((rd_T77 l0 x9_1).f0))) (fun _ hk => hk.2) (.int .i64 ((rd_T77 l0 x9_1).f1))) (fun _ hk => hk.2) (.int .i64 ((rd_T77 l0 x9_1).f2))) (fun _ hk => hk.2) (.int .i64 ((rd_T77 l0 x9_1).f3))) (fun _ hk => hk.2) (.int .i64 ((rd_T77 l0 x9_1).f4))) (fun _ hk => hk.2) (.int .i64 ((rd_T77 l0 x9_1).f5))) (fun _ h_ => h_.1))) (Kd.R_base ho0) hb); have n1_ := Aside0.mk (Kd.R_lower (Kd.R_newM (M := fun k_ => (P1_ k_ ∨ w.heap.size ≤ k_)) ho0 (show Kept w _ (fun k_ => P1_ k_) from by repeat (first | (with_reducible first | exact HK.out | apply Kept.alloc | apply Kept.drewN | apply Kept.drew | refine Kept.setCell ?_ (.inr GW145.out) _) | exact HK.out)).1 (fun k_ h_ => .inr h_)) (below_size (by repeat (first | (with_reducible first | exact HB.out | apply below_alloc | apply pw_below_drewN | apply below_drew1 | refine below_set ?_ GE145.out) | exact HB.out)))); have n2_ := Aside0.mk (blk_below (g := gb145) (o := .cells #[.int .i64 ((rd_T77 l0 x9_1).f0), .int .i64 ((rd_T77 l0 x9_1).f1), .int .i64 ((rd_T77 l0 x9_1).f2), .int .i64 ((rd_T77 l0 x9_1).f3), .int .i64 ((rd_T77 l0 x9_1).f4), .int .i64 ((rd_T77 l0 x9_1).f5)] 77 (0, 0)) (by (with_reducible repeat (first | refine blk_drewN ?_ _ | refine blk_drew ?_ | refine blk_alloc ?_ _)); refine blk_put (cs := #[.int .i64 ((rd_T77 l0 x9_1).f0), .int .i64 ((rd_T77 l0 x9_1).f1), .int .i64 ((rd_T77 l0 x9_1).f2), .int .i64 ((rd_T77 l0 x9_1).f3), .int .i64 ((rd_T77 l0 x9_1).f4), .int .i64 0]) ?_ 5 _ rfl; (with_reducible repeat (first | refine blk_drewN ?_ _ | refine blk_drew ?_ | refine blk_alloc ?_ _)); refine blk_put (cs := #[.int .i64 ((rd_T77 l0 x9_1).f0), .int .i64 ((rd_T77 l0 x9_1).f1), .int .i64 ((rd_T77 l0 x9_1).f2), .int .i64 ((rd_T77 l0 x9_1).f3), .int .i64 0, .int .i64 0]) ?_ 4 _ rfl; (with_reducible repeat (first | refine blk_drewN ?_ _ | refine blk_drew ?_ | refine blk_alloc ?_ _)); refine blk_put (cs := #[.int .i64 ((rd_T77 l0 x9_1).f0), .int .i64 ((rd_T77 l0 x9_1).f1), .int .i64 ((rd_T77 l0 x9_1).f2), .int .i64 0, .int .i64 0, .int .i64 0]) ?_ 3 _ rfl; (with_reducible repeat (first | refine blk_drewN ?_ _ | refine blk_drew ?_ | refine blk_alloc ?_ _)); refine blk_put (cs := #[.int .i64 ((rd_T77 l0 x9_1).f0), .int .i64 ((rd_T77 l0 x9_1).f1), .int .i64 0, .int .i64 0, .int .i64 0, .int .i64 0]) ?_ 2 _ rfl; (with_reducible repeat (first | refine blk_drewN ?_ _ | refine blk_drew ?_ | refine blk_alloc ?_ _)); refine blk_put (cs := #[.int .i64 ((rd_T77 l0 x9_1).f0), .int .i64 0, .int .i64 0, .int .i64 0, .int .i64 0, .int .i64 0]) ?_ 1 _ rfl; (with_reducible repeat (first | refine blk_drewN ?_ _ | refine blk_drew ?_ | refine blk_alloc ?_ _)); refine blk_put (cs := #[.int .i64 0, .int .i64 0, .int .i64 0, .int .i64 0, .int .i64 0, .int .i64 0]) ?_ 0 _ rfl; (with_reducible repeat (first | refine blk_drewN ?_ _ | refine blk_drew ?_ | refine blk_alloc ?_ _)); exact BK145.out) hb); have n3_ := Aside0.mk (Kept.below (S := (fun k_ => P1_ k_)) (by repeat (first | (with_reducible first | exact HK.out | apply Kept.alloc | apply Kept.drewN | apply Kept.drew | refine Kept.setCell ?_ (.inr GW145.out) _) | exact HK.out)) hb); have n4_ := Aside0.mk (below_step (by repeat (first | (with_reducible first | exact HB.out | apply below_alloc | apply pw_below_drewN | apply below_drew1 | refine below_set ?_ GE145.out) | exact HB.out)) hb); clear HO_1; clear BK145; clear HK; clear HB; have HO_1 := n0_; have HO179 := n1_; have BK145 := n2_; have HK := n3_; have HB := n4_; clear n0_ n1_ n2_ n3_ n4_; (try clear hb); (try clear hb2); (try clear hk); (try clear hi); (try clear ho0)) | ((with_reducible refine gate_callee (f := 117) rfl ?_); refine goesL_ (some 49) rfl rfl Try.func117 (by kernel_rfl) rfl #[.int .i64 10, .int .i64 0] rfl (by (try simp only [List.map_toArray, List.map_cons, List.map_nil]); first | done | rfl | (simp only [List.length_drop, List.length_take]; rfl)) ?_; (with_reducible refine (spec_l3Step.calls 10 0 t180 t181 t182 _ A35.out).mono ?_); rintro e w39 ⟨v183, rfl, ho0, hb⟩; refine ⟨_, rfl, ?_⟩; have n0_ := Aside0.mk (Kd.N_elder' (by (with_reducible repeat (first | apply Kd.N_alloc | apply Kd.N_drewN | apply Kd.N_drew)); exact HO_1.out) (Kd.R_base ho0) hb); have n1_ := Aside0.mk (Kd.R_elder' (by (with_reducible repeat (first | apply Kd.R_alloc | apply Kd.R_drewN | apply Kd.R_drew)); exact HO179.out) (Kd.R_base ho0) hb); have n2_ := Aside0.mk (Kd.R_lower (Kd.R_new' (Kd.R_newM (M := fun k_ => (P1_ k_ ∨ w.heap.size ≤ k_)) ho0 (by first | exact HK.out.1 | exact (show Kept w _ (fun k_ => P1_ k_) from by repeat (first | (with_reducible first | exact HK.out | apply Kept.alloc | apply Kept.drewN | apply Kept.drew | refine Kept.setCell ?_ (.inr GW145.out) _) | exact HK.out)).1) (fun k_ h_ => .inr h_)) (Kd.R_lt (by (with_reducible repeat (first | apply Kd.R_alloc | apply Kd.R_drewN | apply Kd.R_drew)); exact HO179.out))) (below_size (by repeat (first | (with_reducible first | exact HB.out | apply below_alloc | apply pw_below_drewN | apply below_drew1 | refine below_set ?_ GE145.out) | exact HB.out)))); have n3_ := Aside0.mk (blk_below (g := gb145) (o := .cells #[.int .i64 ((rd_T77 l0 x9_1).f0), .int .i64 ((rd_T77 l0 x9_1).f1), .int .i64 ((rd_T77 l0 x9_1).f2), .int .i64 ((rd_T77 l0 x9_1).f3), .int .i64 ((rd_T77 l0 x9_1).f4), .int .i64 ((rd_T77 l0 x9_1).f5)] 77 (0, 0)) (by (with_reducible repeat (first | refine blk_drewN ?_ _ | refine blk_drew ?_ | refine blk_alloc ?_ _)); exact BK145.out) hb); have n4_ := Aside0.mk (Kept.below (S := (fun k_ => P1_ k_)) (by repeat (first | (with_reducible first | exact HK.out | apply Kept.alloc | apply Kept.drewN | apply Kept.drew | refine Kept.setCell ?_ (.inr GW145.out) _) | exact HK.out)) hb); have n5_ := Aside0.mk (below_step (by repeat (first | (with_reducible first | exact HB.out | apply below_alloc | apply pw_below_drewN | apply below_drew1 | refine below_set ?_ GE145.out) | exact HB.out)) hb); clear HO_1; clear HO179; clear BK145; clear HK; clear HB; have HO_1 := n0_; have HO179 := n1_; have HO184 := n2_; have BK145 := n3_; have HK := n4_; have HB := n5_; clear n0_ n1_ n2_ n3_ n4_ n5_; (try clear hb); (try clear hb2); (try clear hk); (try clear hi); (try clear ho0); obtain ⟨Ao40, co40, eo40⟩ := Kd.R_slice HO179.out; subst eo40; obtain ⟨Ao41, co41, eo41⟩ := Kd.R_slice HO184.out; subst eo41) | ((with_reducible refine gate_dst (N := 50) rfl ?_); refine Kd.N_lit k95 _ 95 ?hg (N' := 50) ?hd (xs := ([(⟨t175, t176, t177⟩ : S95), (⟨t180, t181, t182⟩ : S95)] : List (S95))) (inner := [.int .i64 t175, .int .i64 t176, .slice Ao40 t177.length co40, .int .i64 t180, .int .i64 t181, .slice Ao41 t182.length co41]) (ok := (fun k_ => (P1_ k_ ∨ w.heap.size ≤ k_) ∧ some k_ ≠ (u1 : Value).ownBlock ∧ k_ ≠ gb145)) (okp := (fun k_ => (P1_ k_ ∨ w.heap.size ≤ k_) ∧ some k_ ≠ (u1 : Value).ownBlock ∧ k_ ≠ gb145)) ?hr ?hp (fun _ hk => hk) ((show ∀ k_, w39.heap.size ≤ k_ → (fun k_ => (P1_ k_ ∨ w.heap.size ≤ k_) ∧ some k_ ≠ (u1 : Value).ownBlock ∧ k_ ≠ gb145) k_ from fun k_ hk => ⟨(.inr (Nat.le_trans (by first | exact HK.out.1 | exact (show Kept w _ (fun k_ => P1_ k_) from by repeat (first | (with_reducible first | exact HK.out | apply Kept.alloc | apply Kept.drewN | apply Kept.drew | refine Kept.setCell ?_ (.inr GW145.out) _) | exact HK.out)).1) hk)), Kd.fresh' (Kd.N_lt (by (with_reducible repeat (first | apply Kd.N_alloc | apply Kd.N_drewN | apply Kd.N_drew)); exact HO_1.out)) k_ hk, Kd.freshB (g := gb145) (o := .cells #[.int .i64 ((rd_T77 l0 x9_1).f0), .int .i64 ((rd_T77 l0 x9_1).f1), .int .i64 ((rd_T77 l0 x9_1).f2), .int .i64 ((rd_T77 l0 x9_1).f3), .int .i64 ((rd_T77 l0 x9_1).f4), .int .i64 ((rd_T77 l0 x9_1).f5)] 77 (0, 0)) (by (with_reducible repeat (first | refine blk_drewN ?_ _ | refine blk_drew ?_ | refine blk_alloc ?_ _)); exact BK145.out) k_ hk⟩) _ (Nat.le_refl _)) (Below.refl _ _) (Nat.le_refl _) (by simp) ?_; (case hd => rfl); (case hg => rfl); (case hr => first | (go_simp; done) | (go_simp; rfl)); (case hp => exact (Reps.c3 (show Kd.FK k95 _ _ (⟨t175, t176, t177⟩ : S95) [.int .i64 t175, .int .i64 t176, .slice Ao40 t177.length co40] from (k95_mkF _ _ (⟨t175, t176, t177⟩ : S95) (Kd.R_reads' (Kd.R_mono (ok' := (fun k_ => (P1_ k_ ∨ w.heap.size ≤ k_) ∧ some k_ ≠ (u1 : Value).ownBlock ∧ k_ ≠ gb145)) (Kd.R_types (Kd.R_apart' (HO179.out) (Kd.N_typed HO_1.out) (by decide)) BK145.out (by decide)) (fun k_ hk => ⟨hk.1.1.1.1, ⟨hk.1.2, hk.2⟩⟩))).2.1 (Kd.R_F (Kd.R_mono (ok' := (fun k_ => (P1_ k_ ∨ w.heap.size ≤ k_) ∧ some k_ ≠ (u1 : Value).ownBlock ∧ k_ ≠ gb145)) (Kd.R_types (Kd.R_apart' (HO179.out) (Kd.N_typed HO_1.out) (by decide)) BK145.out (by decide)) (fun k_ hk => ⟨hk.1.1.1.1, ⟨hk.1.2, hk.2⟩⟩))))) (Reps.c3 (show Kd.FK k95 _ _ (⟨t180, t181, t182⟩ : S95) [.int .i64 t180, .int .i64 t181, .slice Ao41 t182.length co41] from (k95_mkF _ _ (⟨t180, t181, t182⟩ : S95) (Kd.R_reads' (Kd.R_mono (ok' := (fun k_ => (P1_ k_ ∨ w.heap.size ≤ k_) ∧ some k_ ≠ (u1 : Value).ownBlock ∧ k_ ≠ gb145)) (Kd.R_types (Kd.R_apart' (HO184.out) (Kd.N_typed HO_1.out) (by decide)) BK145.out (by decide)) (fun k_ hk => ⟨hk.1.1.1.1, ⟨hk.1.2, hk.2⟩⟩))).2.1 (Kd.R_F (Kd.R_mono (ok' := (fun k_ => (P1_ k_ ∨ w.heap.size ≤ k_) ∧ some k_ ≠ (u1 : Value).ownBlock ∧ k_ ≠ gb145)) (Kd.R_types (Kd.R_apart' (HO184.out) (Kd.N_typed HO_1.out) (by decide)) BK145.out (by decide)) (fun k_ hk => ⟨hk.1.1.1.1, ⟨hk.1.2, hk.2⟩⟩))))) (Reps.none _ _)))); intro v186 w42 ho43 hb hg_ hnew_; clear hg_ hnew_; (first | rw [← Ny185.out] at ho43 | (simp only [Int.reduceToNat] at ho43; rw [← Ny185.out] at ho43)); have n0_ := Aside0.mk (Kd.N_elder' (by (with_reducible repeat (first | apply Kd.N_alloc | apply Kd.N_drewN | apply Kd.N_drew)); exact HO_1.out) (by first | exact Kd.N_base ho43 | exact Kd.S_base ho43) hb); have n1_ := Aside0.mk (Kd.N_lower ho43 (by first | exact HK.out.1 | exact (show Kept w _ (fun k_ => P1_ k_) from by repeat (first | (with_reducible first | exact HK.out | apply Kept.alloc | apply Kept.drewN | apply Kept.drew | refine Kept.setCell ?_ (.inr GW145.out) _) | exact HK.out)).1)); have n2_ := Aside0.mk (blk_below (g := gb145) (o := .cells #[.int .i64 ((rd_T77 l0 x9_1).f0), .int .i64 ((rd_T77 l0 x9_1).f1), .int .i64 ((rd_T77 l0 x9_1).f2), .int .i64 ((rd_T77 l0 x9_1).f3), .int .i64 ((rd_T77 l0 x9_1).f4), .int .i64 ((rd_T77 l0 x9_1).f5)] 77 (0, 0)) (by (with_reducible repeat (first | refine blk_drewN ?_ _ | refine blk_drew ?_ | refine blk_alloc ?_ _)); exact BK145.out) hb); have n3_ := Aside0.mk (Kept.below (S := (fun k_ => P1_ k_)) (by repeat (first | (with_reducible first | exact HK.out | apply Kept.alloc | apply Kept.drewN | apply Kept.drew | refine Kept.setCell ?_ (.inr GW145.out) _) | exact HK.out)) hb); have n4_ := Aside0.mk (below_step (by repeat (first | (with_reducible first | exact HB.out | apply below_alloc | apply pw_below_drewN | apply below_drew1 | refine below_set ?_ GE145.out) | exact HB.out)) hb); clear HO_1; clear BK145; clear HK; clear HB; clear HO179; clear HO184; have HO_1 := n0_; have HO187 := n1_; have BK145 := n2_; have HK := n3_; have HB := n4_; clear n0_ n1_ n2_ n3_ n4_; clear hb ho43; obtain ⟨Ao45, co45, eo45⟩ := Kd.N_slice HO187.out; subst eo45) | ((with_reducible refine gate_builtin (b := .append) (xs := #[.tmp 45, .tmp 50]) rfl ?_); at_builtin; refine Kd.N_append_rows k95 w.heap.size rfl (.tmp 45) (.tmp 50) 38 95 (.agg #[(.int .i64 0), (.int .i64 0), (.slice none 0 0)]) 40 rfl Try.underlying38 info95 rfl (by decide) (by omega) u1 x1_1 y185 _ _ _ (fun k_ => (P1_ k_ ∨ w.heap.size ≤ k_) ∧ k_ ≠ gb145) (fun k_ => ((fun k_ => (P1_ k_ ∨ w.heap.size ≤ k_) ∧ k_ ≠ gb145)) k_ ∧ some k_ ≠ (u1 : Value).ownBlock) rfl rfl ?aO ?aR (fun _ hk => hk) ?aF (Below.refl _ _) ?aS ?aL ?_; (case aR => exact (by skip; exact Kd.N_F (Kd.N_mono (ok' := (fun k_ => ((fun k_ => (P1_ k_ ∨ w.heap.size ≤ k_) ∧ k_ ≠ gb145)) k_ ∧ some k_ ≠ (u1 : Value).ownBlock)) (HO187.out) (fun k_ hk => ⟨⟨hk.1, hk.2.2⟩, hk.2.1⟩)))); (case aF => exact (fun k_ hk => ⟨(.inr (Nat.le_trans (by first | exact HK.out.1 | exact (show Kept w _ (fun k_ => P1_ k_) from by repeat (first | (with_reducible first | exact HK.out | apply Kept.alloc | apply Kept.drewN | apply Kept.drew | refine Kept.setCell ?_ (.inr GW145.out) _) | exact HK.out)).1) hk)), Kd.freshB (g := gb145) (o := .cells #[.int .i64 ((rd_T77 l0 x9_1).f0), .int .i64 ((rd_T77 l0 x9_1).f1), .int .i64 ((rd_T77 l0 x9_1).f2), .int .i64 ((rd_T77 l0 x9_1).f3), .int .i64 ((rd_T77 l0 x9_1).f4), .int .i64 ((rd_T77 l0 x9_1).f5)] 77 (0, 0)) (by (with_reducible repeat (first | refine blk_drewN ?_ _ | refine blk_drew ?_ | refine blk_alloc ?_ _)); exact BK145.out) k_ hk⟩)); (case aO => exact (by (with_reducible repeat (first | apply Kd.N_alloc | apply Kd.N_drewN | apply Kd.N_drew)); exact Kd.N_mono HO_1.out (fun _ hk => ⟨hk.1.1.1.1, hk.1.1.1.2⟩))); (case aS => exact (by first | exact HK.out.1 | exact (show Kept w _ (fun k_ => P1_ k_) from by repeat (first | (with_reducible first | exact HK.out | apply Kept.alloc | apply Kept.drewN | apply Kept.drew | refine Kept.setCell ?_ (.inr GW145.out) _) | exact HK.out)).1)); (case aL => have := LMc36.out; omega); intro v189 w44 ho hb hg hat; rw [← Ny188.out] at ho; have n0_ := Aside0.mk (blk_grown (g := gb145) (o := .cells #[.int .i64 ((rd_T77 l0 x9_1).f0), .int .i64 ((rd_T77 l0 x9_1).f1), .int .i64 ((rd_T77 l0 x9_1).f2), .int .i64 ((rd_T77 l0 x9_1).f3), .int .i64 ((rd_T77 l0 x9_1).f4), .int .i64 ((rd_T77 l0 x9_1).f5)] 77 (0, 0)) (by (with_reducible repeat (first | refine blk_drewN ?_ _ | refine blk_drew ?_ | refine blk_alloc ?_ _)); exact BK145.out) hg (Kd.N_ne HO_1.out BK145.out (by decide))); have n1_ := Aside0.mk (Kd.N_afterv (ok := (fun k_ => (P1_ k_ ∨ w.heap.size ≤ k_) ∧ k_ ≠ gb145)) (by (with_reducible repeat (first | apply Kd.N_alloc | apply Kd.N_drewN | apply Kd.N_drew)); exact Kd.N_mono HO187.out (fun _ hk => ⟨⟨hk.1, hk.2.2⟩, hk.2.1⟩)) hg hat); have n2_ := Aside0.mk (below_weaken (by repeat (first | (with_reducible first | exact HB.out | apply below_alloc | apply pw_below_drewN | apply below_drew1 | refine below_set ?_ GE145.out) | exact HB.out)) HW0.out hb); have n3_ := Aside0.mk (Kept.of_grown (S := (fun k_ => P1_ k_)) hg (by repeat (first | (with_reducible first | exact HK.out | apply Kept.alloc | apply Kept.drewN | apply Kept.drew | refine Kept.setCell ?_ (.inr GW145.out) _) | exact HK.out)) (fun k_ e_ => .inr (Kd.N_base HO_1.out k_ e_))); have n4_ := Aside0.mk (ho); clear BK145; clear HO187; clear HB; clear HK; clear HO_1; have BK145 := n0_; have HO187 := n1_; have HB := n2_; have HK := n3_; have HO190 := n4_; clear n0_ n1_ n2_ n3_ n4_; clear ho hb hg hat))
                      go_meet
                      case rel => exact ⟨_, (y188), H', ⟨by have := HK1.out; first | omega | exact Nat.le_refl _⟩, ⟨by (with_reducible repeat (first | apply Kd.N_alloc | apply Kd.N_drewN | apply Kd.N_drew)); exact HO190.out⟩, ⟨by (with_reducible repeat (first | refine blk_drewN ?_ _ | refine blk_drew ?_ | refine blk_alloc ?_ _)); exact BK145.out⟩, ⟨by repeat (first | (with_reducible first | exact HK.out | apply Kept.alloc | apply Kept.drewN | apply Kept.drew | refine Kept.setCell ?_ (.inr GW145.out) _) | exact HK.out)⟩, ⟨by repeat (first | (with_reducible first | exact HB.out | apply below_alloc | apply pw_below_drewN | apply below_drew1 | refine below_set ?_ GE145.out) | exact HB.out)⟩⟩
                    · rw [if_neg c36] at H
                      exact absurd H (by simp)
                  · rw [if_neg c33] at H
                    have c33b0 : (((rd_T77 l0 x9_1).f0) == 4) = false := beq_eq_false_iff_ne.mpr c33
                    have c33b1 : (((rd_T77 l0 x9_1).f0) != 4) = true := bne_iff_ne.mpr c33
                    by_cases c46 : ((rd_T77 l0 x9_1).f0) = 5
                    · rw [if_pos c46] at H
                      have c46b0 : (((rd_T77 l0 x9_1).f0) == 5) = true := beq_iff_eq.mpr c46
                      have c46b1 : (((rd_T77 l0 x9_1).f0) != 5) = false := bne_eq_false_iff_eq.mpr c46
                      clear c46
                      replace H := Option.bind_eq_some_iff.mp H
                      obtain ⟨⟨t191, t192, t193⟩, A470, H⟩ := H
                      replace H : ((spec_l3Step.f 2 ((rd_T77 l0 x9_1).f4)).bind fun bt196 => ((spec_l3Step.f 11 0).bind fun bt201 => ((some (([(⟨t191, t192, t193⟩ : S95), (⟨bt196.1, bt196.2.1, bt196.2.2⟩ : S95), (⟨bt201.1, bt201.2.1, bt201.2.2⟩ : S95)] : List (S95)) : List (S95))).bind fun y206 => (if x1_1.length + y206.length < 3518437208883 then (spec_l14Steps.j1 k1 (x1_1 ++ y206) l0 (l0.length : Int) x9_1 ((rd_T77 l0 x9_1).f0) ((rd_T77 l0 x9_1).f1) ((rd_T77 l0 x9_1).f2) ((rd_T77 l0 x9_1).f3) ((rd_T77 l0 x9_1).f4) ((rd_T77 l0 x9_1).f5)) else (none))))) = some r := H
                      have A47 := Aside0.mk A470
                      clear A470
                      replace H := Option.bind_eq_some_iff.mp H
                      obtain ⟨⟨t196, t197, t198⟩, A480, H⟩ := H
                      replace H : ((spec_l3Step.f 11 0).bind fun bt201 => ((some (([(⟨t191, t192, t193⟩ : S95), (⟨t196, t197, t198⟩ : S95), (⟨bt201.1, bt201.2.1, bt201.2.2⟩ : S95)] : List (S95)) : List (S95))).bind fun y206 => (if x1_1.length + y206.length < 3518437208883 then (spec_l14Steps.j1 k1 (x1_1 ++ y206) l0 (l0.length : Int) x9_1 ((rd_T77 l0 x9_1).f0) ((rd_T77 l0 x9_1).f1) ((rd_T77 l0 x9_1).f2) ((rd_T77 l0 x9_1).f3) ((rd_T77 l0 x9_1).f4) ((rd_T77 l0 x9_1).f5)) else (none)))) = some r := H
                      have A48 := Aside0.mk A480
                      clear A480
                      replace H := Option.bind_eq_some_iff.mp H
                      obtain ⟨⟨t201, t202, t203⟩, A490, H⟩ := H
                      replace H : ((some (([(⟨t191, t192, t193⟩ : S95), (⟨t196, t197, t198⟩ : S95), (⟨t201, t202, t203⟩ : S95)] : List (S95)) : List (S95))).bind fun y206 => (if x1_1.length + y206.length < 3518437208883 then (spec_l14Steps.j1 k1 (x1_1 ++ y206) l0 (l0.length : Int) x9_1 ((rd_T77 l0 x9_1).f0) ((rd_T77 l0 x9_1).f1) ((rd_T77 l0 x9_1).f2) ((rd_T77 l0 x9_1).f3) ((rd_T77 l0 x9_1).f4) ((rd_T77 l0 x9_1).f5)) else (none))) = some r := H
                      have A49 := Aside0.mk A490
                      clear A490
                      obtain ⟨y206, hy206⟩ : ∃ y_ : List (S95), y_ = (([(⟨t191, t192, t193⟩ : S95), (⟨t196, t197, t198⟩ : S95), (⟨t201, t202, t203⟩ : S95)] : List (S95))) := ⟨_, rfl⟩
                      replace H : (if x1_1.length + y206.length < 3518437208883 then (spec_l14Steps.j1 k1 (x1_1 ++ y206) l0 (l0.length : Int) x9_1 ((rd_T77 l0 x9_1).f0) ((rd_T77 l0 x9_1).f1) ((rd_T77 l0 x9_1).f2) ((rd_T77 l0 x9_1).f3) ((rd_T77 l0 x9_1).f4) ((rd_T77 l0 x9_1).f5)) else (none)) = some r := by first | (rw [hy206]; with_reducible exact H) | (have H2_ := (Option.bind_some _ _).symm.trans H; rw [hy206]; with_reducible exact H2_) | (have H2_ := (Option.bind_some _ _).symm.trans H; with_reducible exact H2_) | with_reducible exact H | (rw [hy206]; exact H) | exact H
                      have Ny206 := Aside0.mk hy206
                      clear hy206
                      by_cases c50 : x1_1.length + y206.length < 3518437208883
                      · rw [if_pos c50] at H
                        have LMc50 := Aside0.mk c50
                        clear c50
                        obtain ⟨y209, hy209⟩ : ∃ y_ : List (S95), y_ = (x1_1 ++ y206) := ⟨_, rfl⟩
                        replace H : (spec_l14Steps.j1 k1 y209 l0 (l0.length : Int) x9_1 ((rd_T77 l0 x9_1).f0) ((rd_T77 l0 x9_1).f1) ((rd_T77 l0 x9_1).f2) ((rd_T77 l0 x9_1).f3) ((rd_T77 l0 x9_1).f4) ((rd_T77 l0 x9_1).f5)) = some r := by first | (rw [hy209]; with_reducible exact H) | (have H2_ := (Option.bind_some _ _).symm.trans H; rw [hy209]; with_reducible exact H2_) | (have H2_ := (Option.bind_some _ _).symm.trans H; with_reducible exact H2_) | with_reducible exact H | (rw [hy209]; exact H) | exact H
                        have Ny209 := Aside0.mk hy209
                        clear hy209
                        have H' := Aside0.mk H
                        clear H
                        try go_wp2
                        have n0_ : Aside0 (Kd.N k95 95 ((((((w7.setCell ⟨gb145, 0, none⟩ (.int .i64 ((rd_T77 l0 x9_1).f0))).setCell ⟨gb145, 1, none⟩ (.int .i64 ((rd_T77 l0 x9_1).f1))).setCell ⟨gb145, 2, none⟩ (.int .i64 ((rd_T77 l0 x9_1).f2))).setCell ⟨gb145, 3, none⟩ (.int .i64 ((rd_T77 l0 x9_1).f3))).setCell ⟨gb145, 4, none⟩ (.int .i64 ((rd_T77 l0 x9_1).f4))).setCell ⟨gb145, 5, none⟩ (.int .i64 ((rd_T77 l0 x9_1).f5))) w.heap.size (fun k_ => (P1_ k_ ∨ w.heap.size ≤ k_) ∧ k_ ≠ gb145) u1 x1_1) := ⟨by (with_reducible repeat (first | apply Kd.N_alloc | apply Kd.N_drewN | apply Kd.N_drew)); exact Kd.N_mono (Kd.N_far (p := ⟨gb145, 5, none⟩) (Kd.N_far (p := ⟨gb145, 4, none⟩) (Kd.N_far (p := ⟨gb145, 3, none⟩) (Kd.N_far (p := ⟨gb145, 2, none⟩) (Kd.N_far (p := ⟨gb145, 1, none⟩) (Kd.N_far (p := ⟨gb145, 0, none⟩) (Kd.N_mono HO_1.out (fun k_ hk => (⟨hk, hk.2⟩ : _ ∧ k_ ≠ gb145))) (fun _ hk => hk.2) (.int .i64 ((rd_T77 l0 x9_1).f0))) (fun _ hk => hk.2) (.int .i64 ((rd_T77 l0 x9_1).f1))) (fun _ hk => hk.2) (.int .i64 ((rd_T77 l0 x9_1).f2))) (fun _ hk => hk.2) (.int .i64 ((rd_T77 l0 x9_1).f3))) (fun _ hk => hk.2) (.int .i64 ((rd_T77 l0 x9_1).f4))) (fun _ hk => hk.2) (.int .i64 ((rd_T77 l0 x9_1).f5))) (fun _ hk => ⟨hk.1.1, hk.1.2⟩)⟩
                        have n1_ : Aside0 (((((((w7.setCell ⟨gb145, 0, none⟩ (.int .i64 ((rd_T77 l0 x9_1).f0))).setCell ⟨gb145, 1, none⟩ (.int .i64 ((rd_T77 l0 x9_1).f1))).setCell ⟨gb145, 2, none⟩ (.int .i64 ((rd_T77 l0 x9_1).f2))).setCell ⟨gb145, 3, none⟩ (.int .i64 ((rd_T77 l0 x9_1).f3))).setCell ⟨gb145, 4, none⟩ (.int .i64 ((rd_T77 l0 x9_1).f4))).setCell ⟨gb145, 5, none⟩ (.int .i64 ((rd_T77 l0 x9_1).f5))).heap[gb145]? = some (.cells #[.int .i64 ((rd_T77 l0 x9_1).f0), .int .i64 ((rd_T77 l0 x9_1).f1), .int .i64 ((rd_T77 l0 x9_1).f2), .int .i64 ((rd_T77 l0 x9_1).f3), .int .i64 ((rd_T77 l0 x9_1).f4), .int .i64 ((rd_T77 l0 x9_1).f5)] 77 (0, 0))) := ⟨by (with_reducible repeat (first | refine blk_drewN ?_ _ | refine blk_drew ?_ | refine blk_alloc ?_ _)); refine blk_put (cs := #[.int .i64 ((rd_T77 l0 x9_1).f0), .int .i64 ((rd_T77 l0 x9_1).f1), .int .i64 ((rd_T77 l0 x9_1).f2), .int .i64 ((rd_T77 l0 x9_1).f3), .int .i64 ((rd_T77 l0 x9_1).f4), .int .i64 0]) ?_ 5 _ rfl; (with_reducible repeat (first | refine blk_drewN ?_ _ | refine blk_drew ?_ | refine blk_alloc ?_ _)); refine blk_put (cs := #[.int .i64 ((rd_T77 l0 x9_1).f0), .int .i64 ((rd_T77 l0 x9_1).f1), .int .i64 ((rd_T77 l0 x9_1).f2), .int .i64 ((rd_T77 l0 x9_1).f3), .int .i64 0, .int .i64 0]) ?_ 4 _ rfl; (with_reducible repeat (first | refine blk_drewN ?_ _ | refine blk_drew ?_ | refine blk_alloc ?_ _)); refine blk_put (cs := #[.int .i64 ((rd_T77 l0 x9_1).f0), .int .i64 ((rd_T77 l0 x9_1).f1), .int .i64 ((rd_T77 l0 x9_1).f2), .int .i64 0, .int .i64 0, .int .i64 0]) ?_ 3 _ rfl; (with_reducible repeat (first | refine blk_drewN ?_ _ | refine blk_drew ?_ | refine blk_alloc ?_ _)); refine blk_put (cs := #[.int .i64 ((rd_T77 l0 x9_1).f0), .int .i64 ((rd_T77 l0 x9_1).f1), .int .i64 0, .int .i64 0, .int .i64 0, .int .i64 0]) ?_ 2 _ rfl; (with_reducible repeat (first | refine blk_drewN ?_ _ | refine blk_drew ?_ | refine blk_alloc ?_ _)); refine blk_put (cs := #[.int .i64 ((rd_T77 l0 x9_1).f0), .int .i64 0, .int .i64 0, .int .i64 0, .int .i64 0, .int .i64 0]) ?_ 1 _ rfl; (with_reducible repeat (first | refine blk_drewN ?_ _ | refine blk_drew ?_ | refine blk_alloc ?_ _)); refine blk_put (cs := #[.int .i64 0, .int .i64 0, .int .i64 0, .int .i64 0, .int .i64 0, .int .i64 0]) ?_ 0 _ rfl; (with_reducible repeat (first | refine blk_drewN ?_ _ | refine blk_drew ?_ | refine blk_alloc ?_ _)); exact BK145.out⟩
                        have n2_ : Aside0 (Kept w ((((((w7.setCell ⟨gb145, 0, none⟩ (.int .i64 ((rd_T77 l0 x9_1).f0))).setCell ⟨gb145, 1, none⟩ (.int .i64 ((rd_T77 l0 x9_1).f1))).setCell ⟨gb145, 2, none⟩ (.int .i64 ((rd_T77 l0 x9_1).f2))).setCell ⟨gb145, 3, none⟩ (.int .i64 ((rd_T77 l0 x9_1).f3))).setCell ⟨gb145, 4, none⟩ (.int .i64 ((rd_T77 l0 x9_1).f4))).setCell ⟨gb145, 5, none⟩ (.int .i64 ((rd_T77 l0 x9_1).f5))) (fun k_ => P1_ k_)) := ⟨by repeat (first | (with_reducible first | exact HK.out | apply Kept.alloc | apply Kept.drewN | apply Kept.drew | refine Kept.setCell ?_ (.inr GW145.out) _) | exact HK.out)⟩
                        have n3_ : Aside0 (Below w0.heap.size w0 ((((((w7.setCell ⟨gb145, 0, none⟩ (.int .i64 ((rd_T77 l0 x9_1).f0))).setCell ⟨gb145, 1, none⟩ (.int .i64 ((rd_T77 l0 x9_1).f1))).setCell ⟨gb145, 2, none⟩ (.int .i64 ((rd_T77 l0 x9_1).f2))).setCell ⟨gb145, 3, none⟩ (.int .i64 ((rd_T77 l0 x9_1).f3))).setCell ⟨gb145, 4, none⟩ (.int .i64 ((rd_T77 l0 x9_1).f4))).setCell ⟨gb145, 5, none⟩ (.int .i64 ((rd_T77 l0 x9_1).f5)))) := ⟨by repeat (first | (with_reducible first | exact HB.out | apply below_alloc | apply pw_below_drewN | apply below_drew1 | refine below_set ?_ GE145.out) | exact HB.out)⟩
                        (try clear HO_1)
                        (try clear BK145)
                        (try clear HK)
                        (try clear HB)
                        generalize ((((((w7.setCell ⟨gb145, 0, none⟩ (.int .i64 ((rd_T77 l0 x9_1).f0))).setCell ⟨gb145, 1, none⟩ (.int .i64 ((rd_T77 l0 x9_1).f1))).setCell ⟨gb145, 2, none⟩ (.int .i64 ((rd_T77 l0 x9_1).f2))).setCell ⟨gb145, 3, none⟩ (.int .i64 ((rd_T77 l0 x9_1).f3))).setCell ⟨gb145, 4, none⟩ (.int .i64 ((rd_T77 l0 x9_1).f4))).setCell ⟨gb145, 5, none⟩ (.int .i64 ((rd_T77 l0 x9_1).f5))) = w51 at n0_ n1_ n2_ n3_ ⊢
                        have HO_1 := n0_
                        have BK145 := n1_
                        have HK := n2_
                        have HB := n3_
                        clear n0_ n1_ n2_ n3_
                        have n0_ := Aside0.mk (Kd.N_drew HO_1.out)
                        have n1_ := Aside0.mk (blk_drew BK145.out)
                        have n2_ := Aside0.mk (Kept.drew HK.out)
                        have n3_ := Aside0.mk (below_drew1 HB.out)
                        clear HO_1
                        clear BK145
                        clear HK
                        clear HB
                        have HO_1 := n0_
                        have BK145 := n1_
                        have HK := n2_
                        have HB := n3_
                        clear n0_ n1_ n2_ n3_
                        refine start_ (n := 11) (S := fun w' => w'.cell? ⟨gb145, 0, none⟩ = some (.int .i64 ((rd_T77 l0 x9_1).f0)) ∧ w'.cell? ⟨gb145, 1, none⟩ = some (.int .i64 ((rd_T77 l0 x9_1).f1)) ∧ w'.cell? ⟨gb145, 2, none⟩ = some (.int .i64 ((rd_T77 l0 x9_1).f2)) ∧ w'.cell? ⟨gb145, 3, none⟩ = some (.int .i64 ((rd_T77 l0 x9_1).f3)) ∧ w'.cell? ⟨gb145, 4, none⟩ = some (.int .i64 ((rd_T77 l0 x9_1).f4)) ∧ w'.cell? ⟨gb145, 5, none⟩ = some (.int .i64 ((rd_T77 l0 x9_1).f5))) (ds := []) #[false, false, false, false, false, false, false, false, false, false, false] (by kernel_rfl) rfl rfl ⟨(blk_cell BK145.out 0).trans rfl, (blk_cell BK145.out 1).trans rfl, (blk_cell BK145.out 2).trans rfl, (blk_cell BK145.out 3).trans rfl, (blk_cell BK145.out 4).trans rfl, (blk_cell BK145.out 5).trans rfl⟩ (fun hHeld => ?_); refine with_tabW spec_l14Steps.tab13 spec_l14Steps.bits13 (fun HT_ HW_ => ?_)
                        generalize w51.drew = w52 at HO_1 BK145 HK HB hHeld ⊢
                        refine pure_ (i := 0) (N := some 54) (v := ?_) (a' := ?_) #[true, false, false, false, false, false, false, false, false, false, false] rfl rfl (any_of HT_.out (by kernel_rfl)) (fun _ _ _ h => h) (Or.inl ⟨by rfl, ?_⟩) ?_ ?_
                        rotate_left
                        · intro w'
                          go_simp
                          with_reducible rfl
                        rotate_left
                        · simp only [Act.put, List.setIfInBounds_toArray, List.set_cons_zero, List.set_cons_succ, i64_w, i32_w]
                          rfl
                        refine pure_ (i := 1) (N := some 55) (v := ?_) (a' := ?_) #[true, true, false, false, false, false, false, false, false, false, false] rfl rfl (any_of HT_.out (by kernel_rfl)) (fun _ _ _ h => h) (Or.inl ⟨by rfl, ?_⟩) ?_ ?_
                        rotate_left
                        · intro w'
                          go_simp
                          with_reducible rfl
                        rotate_left
                        · simp only [Act.put, List.setIfInBounds_toArray, List.set_cons_zero, List.set_cons_succ, i64_w, i32_w]
                          rfl
                        refine pure_ (i := 4) (N := some 58) (v := ?_) (a' := ?_) #[true, true, false, false, true, false, false, false, false, false, false] rfl rfl (any_of HT_.out (by kernel_rfl)) (fun _ _ _ h => h) (Or.inl ⟨by rfl, ?_⟩) ?_ ?_
                        rotate_left
                        · intro w'
                          go_simp
                          with_reducible rfl
                        rotate_left
                        · simp only [Act.put, List.setIfInBounds_toArray, List.set_cons_zero, List.set_cons_succ, i64_w, i32_w]
                          rfl
                        refine take_ (i := 2) (N := some 56) (v := ?_) (a' := ?_) #[true, true, true, false, true, false, false, false, false, false, false] rfl rfl (take_ofW HT_.out HW_.out (by kernel_rfl)) (fun _ _ _ h => h) (Or.inl ⟨by rfl, ?_⟩) hHeld ?_ ?_
                        rotate_left
                        · rintro w' ⟨s0, s1, s2, s3, s4, s5⟩
                          go_simp
                          with_reducible rfl
                        rotate_left
                        · simp only [Act.put, List.setIfInBounds_toArray, List.set_cons_zero, List.set_cons_succ, i64_w, i32_w]
                          rfl
                        refine take_ (i := 5) (N := some 59) (v := ?_) (a' := ?_) #[true, true, true, false, true, true, false, false, false, false, false] rfl rfl (take_ofW HT_.out HW_.out (by kernel_rfl)) (fun _ _ _ h => h) (Or.inl ⟨by rfl, ?_⟩) hHeld ?_ ?_
                        rotate_left
                        · rintro w' ⟨s0, s1, s2, s3, s4, s5⟩
                          go_simp
                          with_reducible rfl
                        rotate_left
                        · simp only [Act.put, List.setIfInBounds_toArray, List.set_cons_zero, List.set_cons_succ, i64_w, i32_w]
                          rfl
                        refine one_ (i := 3) (N := some 57) #[true, true, true, true, true, true, false, false, false, false, false] rfl rfl (one_of HT_.out (by kernel_rfl)) (by decide) (fun K hK => ?_)
                        refine goes_ Try.func117 (by kernel_rfl) rfl #[.int .i64 2, .int .i64 ((rd_T77 l0 x9_1).f3)] (by rfl) rfl rfl (by (try simp only [List.map_toArray, List.map_cons, List.map_nil]); first | done | rfl | (simp only [List.length_drop, List.length_take]; rfl)) ?_
                        with_reducible refine (spec_l3Step.calls 2 ((rd_T77 l0 x9_1).f3) t191 t192 t193 _ A47.out).mono ?_
                        rintro e w53 ⟨v194, rfl, ho0, hb⟩
                        refine ⟨_, rfl, ?_⟩
                        have n0_ := Aside0.mk (Kd.N_elder' (by (with_reducible repeat (first | apply Kd.N_alloc | apply Kd.N_drewN | apply Kd.N_drew)); exact HO_1.out) (Kd.R_base ho0) hb)
                        have n1_ := Aside0.mk (Kd.R_lower (Kd.R_newM (M := fun k_ => (P1_ k_ ∨ w.heap.size ≤ k_)) ho0 (by first | exact HK.out.1 | exact (show Kept w _ (fun k_ => P1_ k_) from by repeat (first | (with_reducible first | exact HK.out | apply Kept.alloc | apply Kept.drewN | apply Kept.drew | refine Kept.setCell ?_ (.inr GW145.out) _) | exact HK.out)).1) (fun k_ h_ => .inr h_)) (below_size (by repeat (first | (with_reducible first | exact HB.out | apply below_alloc | apply pw_below_drewN | apply below_drew1 | refine below_set ?_ GE145.out) | exact HB.out))))
                        have n2_ := Aside0.mk (blk_below (g := gb145) (o := .cells #[.int .i64 ((rd_T77 l0 x9_1).f0), .int .i64 ((rd_T77 l0 x9_1).f1), .int .i64 ((rd_T77 l0 x9_1).f2), .int .i64 ((rd_T77 l0 x9_1).f3), .int .i64 ((rd_T77 l0 x9_1).f4), .int .i64 ((rd_T77 l0 x9_1).f5)] 77 (0, 0)) (by (with_reducible repeat (first | refine blk_drewN ?_ _ | refine blk_drew ?_ | refine blk_alloc ?_ _)); exact BK145.out) hb)
                        have n3_ := Aside0.mk (Kept.below (S := (fun k_ => P1_ k_)) (by repeat (first | (with_reducible first | exact HK.out | apply Kept.alloc | apply Kept.drewN | apply Kept.drew | refine Kept.setCell ?_ (.inr GW145.out) _) | exact HK.out)) hb)
                        have n4_ := Aside0.mk (below_step (by repeat (first | (with_reducible first | exact HB.out | apply below_alloc | apply pw_below_drewN | apply below_drew1 | refine below_set ?_ GE145.out) | exact HB.out)) hb)
                        clear HO_1
                        clear BK145
                        clear HK
                        clear HB
                        have HO_1 := n0_
                        have HO195 := n1_
                        have BK145 := n2_
                        have HK := n3_
                        have HB := n4_
                        clear n0_ n1_ n2_ n3_ n4_
                        (try clear hb)
                        (try clear hb2)
                        (try clear hk)
                        (try clear hi)
                        (try clear ho0)
                        refine hK.out _ _ ⟨(blk_cell BK145.out 0).trans rfl, (blk_cell BK145.out 1).trans rfl, (blk_cell BK145.out 2).trans rfl, (blk_cell BK145.out 3).trans rfl, (blk_cell BK145.out 4).trans rfl, (blk_cell BK145.out 5).trans rfl⟩ (fun hHeld => ?_)
                        clear hK K
                        refine norm_ (a' := ?_) ?_ ?_
                        rotate_left
                        · show Act.put _ (some 57) _ = _
                          simp only [Act.put, List.setIfInBounds_toArray, List.set_cons_zero, List.set_cons_succ, i64_w, i32_w]
                          rfl
                        refine one_ (i := 6) (N := some 60) #[true, true, true, true, true, true, true, false, false, false, false] rfl rfl (one_of HT_.out (by kernel_rfl)) (by decide) (fun K hK => ?_)
                        refine goes_ Try.func117 (by kernel_rfl) rfl #[.int .i64 2, .int .i64 ((rd_T77 l0 x9_1).f4)] (by rfl) rfl rfl (by (try simp only [List.map_toArray, List.map_cons, List.map_nil]); first | done | rfl | (simp only [List.length_drop, List.length_take]; rfl)) ?_
                        with_reducible refine (spec_l3Step.calls 2 ((rd_T77 l0 x9_1).f4) t196 t197 t198 _ A48.out).mono ?_
                        rintro e w54 ⟨v199, rfl, ho0, hb⟩
                        refine ⟨_, rfl, ?_⟩
                        have n0_ := Aside0.mk (Kd.N_elder' (by (with_reducible repeat (first | apply Kd.N_alloc | apply Kd.N_drewN | apply Kd.N_drew)); exact HO_1.out) (Kd.R_base ho0) hb)
                        have n1_ := Aside0.mk (Kd.R_elder' (by (with_reducible repeat (first | apply Kd.R_alloc | apply Kd.R_drewN | apply Kd.R_drew)); exact HO195.out) (Kd.R_base ho0) hb)
                        have n2_ := Aside0.mk (Kd.R_lower (Kd.R_new' (Kd.R_newM (M := fun k_ => (P1_ k_ ∨ w.heap.size ≤ k_)) ho0 (by first | exact HK.out.1 | exact (show Kept w _ (fun k_ => P1_ k_) from by repeat (first | (with_reducible first | exact HK.out | apply Kept.alloc | apply Kept.drewN | apply Kept.drew | refine Kept.setCell ?_ (.inr GW145.out) _) | exact HK.out)).1) (fun k_ h_ => .inr h_)) (Kd.R_lt (by (with_reducible repeat (first | apply Kd.R_alloc | apply Kd.R_drewN | apply Kd.R_drew)); exact HO195.out))) (below_size (by repeat (first | (with_reducible first | exact HB.out | apply below_alloc | apply pw_below_drewN | apply below_drew1 | refine below_set ?_ GE145.out) | exact HB.out))))
                        have n3_ := Aside0.mk (blk_below (g := gb145) (o := .cells #[.int .i64 ((rd_T77 l0 x9_1).f0), .int .i64 ((rd_T77 l0 x9_1).f1), .int .i64 ((rd_T77 l0 x9_1).f2), .int .i64 ((rd_T77 l0 x9_1).f3), .int .i64 ((rd_T77 l0 x9_1).f4), .int .i64 ((rd_T77 l0 x9_1).f5)] 77 (0, 0)) (by (with_reducible repeat (first | refine blk_drewN ?_ _ | refine blk_drew ?_ | refine blk_alloc ?_ _)); exact BK145.out) hb)
                        have n4_ := Aside0.mk (Kept.below (S := (fun k_ => P1_ k_)) (by repeat (first | (with_reducible first | exact HK.out | apply Kept.alloc | apply Kept.drewN | apply Kept.drew | refine Kept.setCell ?_ (.inr GW145.out) _) | exact HK.out)) hb)
                        have n5_ := Aside0.mk (below_step (by repeat (first | (with_reducible first | exact HB.out | apply below_alloc | apply pw_below_drewN | apply below_drew1 | refine below_set ?_ GE145.out) | exact HB.out)) hb)
                        clear HO_1
                        clear HO195
                        clear BK145
                        clear HK
                        clear HB
                        have HO_1 := n0_
                        have HO195 := n1_
                        have HO200 := n2_
                        have BK145 := n3_
                        have HK := n4_
                        have HB := n5_
                        clear n0_ n1_ n2_ n3_ n4_ n5_
                        (try clear hb)
                        (try clear hb2)
                        (try clear hk)
                        (try clear hi)
                        (try clear ho0)
                        refine hK.out _ _ ⟨(blk_cell BK145.out 0).trans rfl, (blk_cell BK145.out 1).trans rfl, (blk_cell BK145.out 2).trans rfl, (blk_cell BK145.out 3).trans rfl, (blk_cell BK145.out 4).trans rfl, (blk_cell BK145.out 5).trans rfl⟩ (fun hHeld => ?_)
                        clear hK K
                        refine norm_ (a' := ?_) ?_ ?_
                        rotate_left
                        · show Act.put _ (some 60) _ = _
                          simp only [Act.put, List.setIfInBounds_toArray, List.set_cons_zero, List.set_cons_succ, i64_w, i32_w]
                          rfl
                        refine one_ (i := 7) (N := some 61) #[true, true, true, true, true, true, true, true, false, false, false] rfl rfl (one_of HT_.out (by kernel_rfl)) (by decide) (fun K hK => ?_)
                        refine goes_ Try.func117 (by kernel_rfl) rfl #[.int .i64 11, .int .i64 0] (by rfl) rfl rfl (by (try simp only [List.map_toArray, List.map_cons, List.map_nil]); first | done | rfl | (simp only [List.length_drop, List.length_take]; rfl)) ?_
                        with_reducible refine (spec_l3Step.calls 11 0 t201 t202 t203 _ A49.out).mono ?_
                        rintro e w55 ⟨v204, rfl, ho0, hb⟩
                        refine ⟨_, rfl, ?_⟩
                        have n0_ := Aside0.mk (Kd.N_elder' (by (with_reducible repeat (first | apply Kd.N_alloc | apply Kd.N_drewN | apply Kd.N_drew)); exact HO_1.out) (Kd.R_base ho0) hb)
                        have n1_ := Aside0.mk (Kd.R_elder' (by (with_reducible repeat (first | apply Kd.R_alloc | apply Kd.R_drewN | apply Kd.R_drew)); exact HO195.out) (Kd.R_base ho0) hb)
                        have n2_ := Aside0.mk (Kd.R_elder' (by (with_reducible repeat (first | apply Kd.R_alloc | apply Kd.R_drewN | apply Kd.R_drew)); exact HO200.out) (Kd.R_base ho0) hb)
                        have n3_ := Aside0.mk (Kd.R_lower (Kd.R_new' (Kd.R_new' (Kd.R_newM (M := fun k_ => (P1_ k_ ∨ w.heap.size ≤ k_)) ho0 (by first | exact HK.out.1 | exact (show Kept w _ (fun k_ => P1_ k_) from by repeat (first | (with_reducible first | exact HK.out | apply Kept.alloc | apply Kept.drewN | apply Kept.drew | refine Kept.setCell ?_ (.inr GW145.out) _) | exact HK.out)).1) (fun k_ h_ => .inr h_)) (Kd.R_lt (by (with_reducible repeat (first | apply Kd.R_alloc | apply Kd.R_drewN | apply Kd.R_drew)); exact HO195.out))) (Kd.R_lt (by (with_reducible repeat (first | apply Kd.R_alloc | apply Kd.R_drewN | apply Kd.R_drew)); exact HO200.out))) (below_size (by repeat (first | (with_reducible first | exact HB.out | apply below_alloc | apply pw_below_drewN | apply below_drew1 | refine below_set ?_ GE145.out) | exact HB.out))))
                        have n4_ := Aside0.mk (blk_below (g := gb145) (o := .cells #[.int .i64 ((rd_T77 l0 x9_1).f0), .int .i64 ((rd_T77 l0 x9_1).f1), .int .i64 ((rd_T77 l0 x9_1).f2), .int .i64 ((rd_T77 l0 x9_1).f3), .int .i64 ((rd_T77 l0 x9_1).f4), .int .i64 ((rd_T77 l0 x9_1).f5)] 77 (0, 0)) (by (with_reducible repeat (first | refine blk_drewN ?_ _ | refine blk_drew ?_ | refine blk_alloc ?_ _)); exact BK145.out) hb)
                        have n5_ := Aside0.mk (Kept.below (S := (fun k_ => P1_ k_)) (by repeat (first | (with_reducible first | exact HK.out | apply Kept.alloc | apply Kept.drewN | apply Kept.drew | refine Kept.setCell ?_ (.inr GW145.out) _) | exact HK.out)) hb)
                        have n6_ := Aside0.mk (below_step (by repeat (first | (with_reducible first | exact HB.out | apply below_alloc | apply pw_below_drewN | apply below_drew1 | refine below_set ?_ GE145.out) | exact HB.out)) hb)
                        clear HO_1
                        clear HO195
                        clear HO200
                        clear BK145
                        clear HK
                        clear HB
                        have HO_1 := n0_
                        have HO195 := n1_
                        have HO200 := n2_
                        have HO205 := n3_
                        have BK145 := n4_
                        have HK := n5_
                        have HB := n6_
                        clear n0_ n1_ n2_ n3_ n4_ n5_ n6_
                        (try clear hb)
                        (try clear hb2)
                        (try clear hk)
                        (try clear hi)
                        (try clear ho0)
                        obtain ⟨Ao56, co56, eo56⟩ := Kd.R_slice HO195.out
                        (first | subst eo56 | (injection eo56 with f1_ f2_ f3_; have f4_ := f1_.symm; have f5_ := f3_.symm; clear f1_ f2_ f3_; subst f4_; subst f5_))
                        obtain ⟨Ao57, co57, eo57⟩ := Kd.R_slice HO200.out
                        (first | subst eo57 | (injection eo57 with f1_ f2_ f3_; have f4_ := f1_.symm; have f5_ := f3_.symm; clear f1_ f2_ f3_; subst f4_; subst f5_))
                        obtain ⟨Ao58, co58, eo58⟩ := Kd.R_slice HO205.out
                        (first | subst eo58 | (injection eo58 with f1_ f2_ f3_; have f4_ := f1_.symm; have f5_ := f3_.symm; clear f1_ f2_ f3_; subst f4_; subst f5_))
                        refine hK.out _ _ ⟨(blk_cell BK145.out 0).trans rfl, (blk_cell BK145.out 1).trans rfl, (blk_cell BK145.out 2).trans rfl, (blk_cell BK145.out 3).trans rfl, (blk_cell BK145.out 4).trans rfl, (blk_cell BK145.out 5).trans rfl⟩ (fun hHeld => ?_)
                        clear hK K
                        refine norm_ (a' := ?_) ?_ ?_
                        rotate_left
                        · show Act.put _ (some 61) _ = _
                          simp only [Act.put, List.setIfInBounds_toArray, List.set_cons_zero, List.set_cons_succ, i64_w, i32_w]
                          rfl
                        refine one_ (i := 8) (N := some 62) #[true, true, true, true, true, true, true, true, true, false, false] rfl rfl (one_of HT_.out (by kernel_rfl)) (by decide) (fun K hK => ?_)
                        refine Kd.N_lit_step k95 _ 95 ?hg (N' := 62) ?hd (xs := ([(⟨t191, t192, t193⟩ : S95), (⟨t196, t197, t198⟩ : S95), (⟨t201, t202, t203⟩ : S95)] : List (S95))) (inner := [.int .i64 t191, .int .i64 t192, .slice Ao56 t193.length co56, .int .i64 t196, .int .i64 t197, .slice Ao57 t198.length co57, .int .i64 t201, .int .i64 t202, .slice Ao58 t203.length co58]) (ok := (fun k_ => (P1_ k_ ∨ w.heap.size ≤ k_) ∧ some k_ ≠ (u1 : Value).ownBlock ∧ k_ ≠ gb145)) (okp := (fun k_ => (P1_ k_ ∨ w.heap.size ≤ k_) ∧ some k_ ≠ (u1 : Value).ownBlock ∧ k_ ≠ gb145)) ?hr ?hp (fun _ hk => hk) ((show ∀ k_, w55.heap.size ≤ k_ → (fun k_ => (P1_ k_ ∨ w.heap.size ≤ k_) ∧ some k_ ≠ (u1 : Value).ownBlock ∧ k_ ≠ gb145) k_ from fun k_ hk => ⟨(.inr (Nat.le_trans (by first | exact HK.out.1 | exact (show Kept w _ (fun k_ => P1_ k_) from by repeat (first | (with_reducible first | exact HK.out | apply Kept.alloc | apply Kept.drewN | apply Kept.drew | refine Kept.setCell ?_ (.inr GW145.out) _) | exact HK.out)).1) hk)), Kd.fresh' (Kd.N_lt (by (with_reducible repeat (first | apply Kd.N_alloc | apply Kd.N_drewN | apply Kd.N_drew)); exact HO_1.out)) k_ hk, Kd.freshB (g := gb145) (o := .cells #[.int .i64 ((rd_T77 l0 x9_1).f0), .int .i64 ((rd_T77 l0 x9_1).f1), .int .i64 ((rd_T77 l0 x9_1).f2), .int .i64 ((rd_T77 l0 x9_1).f3), .int .i64 ((rd_T77 l0 x9_1).f4), .int .i64 ((rd_T77 l0 x9_1).f5)] 77 (0, 0)) (by (with_reducible repeat (first | refine blk_drewN ?_ _ | refine blk_drew ?_ | refine blk_alloc ?_ _)); exact BK145.out) k_ hk⟩) _ (Nat.le_refl _)) (Below.refl _ _) (Nat.le_refl _) (by simp) ?_; (case hd => rfl); (case hg => rfl); (case hr => first | (go_simp; done) | (go_simp; rfl)); (case hp => exact (Reps.c3 (show Kd.FK k95 _ _ (⟨t191, t192, t193⟩ : S95) [.int .i64 t191, .int .i64 t192, .slice Ao56 t193.length co56] from (k95_mkF _ _ (⟨t191, t192, t193⟩ : S95) (Kd.R_reads' (Kd.R_mono (ok' := (fun k_ => (P1_ k_ ∨ w.heap.size ≤ k_) ∧ some k_ ≠ (u1 : Value).ownBlock ∧ k_ ≠ gb145)) (Kd.R_types (Kd.R_apart' (HO195.out) (Kd.N_typed HO_1.out) (by decide)) BK145.out (by decide)) (fun k_ hk => ⟨hk.1.1.1.1.1, ⟨hk.1.2, hk.2⟩⟩))).2.1 (Kd.R_F (Kd.R_mono (ok' := (fun k_ => (P1_ k_ ∨ w.heap.size ≤ k_) ∧ some k_ ≠ (u1 : Value).ownBlock ∧ k_ ≠ gb145)) (Kd.R_types (Kd.R_apart' (HO195.out) (Kd.N_typed HO_1.out) (by decide)) BK145.out (by decide)) (fun k_ hk => ⟨hk.1.1.1.1.1, ⟨hk.1.2, hk.2⟩⟩))))) (Reps.c3 (show Kd.FK k95 _ _ (⟨t196, t197, t198⟩ : S95) [.int .i64 t196, .int .i64 t197, .slice Ao57 t198.length co57] from (k95_mkF _ _ (⟨t196, t197, t198⟩ : S95) (Kd.R_reads' (Kd.R_mono (ok' := (fun k_ => (P1_ k_ ∨ w.heap.size ≤ k_) ∧ some k_ ≠ (u1 : Value).ownBlock ∧ k_ ≠ gb145)) (Kd.R_types (Kd.R_apart' (HO200.out) (Kd.N_typed HO_1.out) (by decide)) BK145.out (by decide)) (fun k_ hk => ⟨hk.1.1.1.1.1, ⟨hk.1.2, hk.2⟩⟩))).2.1 (Kd.R_F (Kd.R_mono (ok' := (fun k_ => (P1_ k_ ∨ w.heap.size ≤ k_) ∧ some k_ ≠ (u1 : Value).ownBlock ∧ k_ ≠ gb145)) (Kd.R_types (Kd.R_apart' (HO200.out) (Kd.N_typed HO_1.out) (by decide)) BK145.out (by decide)) (fun k_ hk => ⟨hk.1.1.1.1.1, ⟨hk.1.2, hk.2⟩⟩))))) (Reps.c3 (show Kd.FK k95 _ _ (⟨t201, t202, t203⟩ : S95) [.int .i64 t201, .int .i64 t202, .slice Ao58 t203.length co58] from (k95_mkF _ _ (⟨t201, t202, t203⟩ : S95) (Kd.R_reads' (Kd.R_mono (ok' := (fun k_ => (P1_ k_ ∨ w.heap.size ≤ k_) ∧ some k_ ≠ (u1 : Value).ownBlock ∧ k_ ≠ gb145)) (Kd.R_types (Kd.R_apart' (HO205.out) (Kd.N_typed HO_1.out) (by decide)) BK145.out (by decide)) (fun k_ hk => ⟨hk.1.1.1.1.1, ⟨hk.1.2, hk.2⟩⟩))).2.1 (Kd.R_F (Kd.R_mono (ok' := (fun k_ => (P1_ k_ ∨ w.heap.size ≤ k_) ∧ some k_ ≠ (u1 : Value).ownBlock ∧ k_ ≠ gb145)) (Kd.R_types (Kd.R_apart' (HO205.out) (Kd.N_typed HO_1.out) (by decide)) BK145.out (by decide)) (fun k_ hk => ⟨hk.1.1.1.1.1, ⟨hk.1.2, hk.2⟩⟩))))) (Reps.none _ _)))))
                        intro v207 w59 ho60 hb hg_ hnew_
                        clear hg_ hnew_
                        (first | rw [← Ny206.out] at ho60 | (simp only [Int.reduceToNat] at ho60; rw [← Ny206.out] at ho60))
                        have n0_ := Aside0.mk (Kd.N_elder' (by (with_reducible repeat (first | apply Kd.N_alloc | apply Kd.N_drewN | apply Kd.N_drew)); exact HO_1.out) (by first | exact Kd.N_base ho60 | exact Kd.S_base ho60) hb)
                        have n1_ := Aside0.mk (Kd.N_lower ho60 (by first | exact HK.out.1 | exact (show Kept w _ (fun k_ => P1_ k_) from by repeat (first | (with_reducible first | exact HK.out | apply Kept.alloc | apply Kept.drewN | apply Kept.drew | refine Kept.setCell ?_ (.inr GW145.out) _) | exact HK.out)).1))
                        have n2_ := Aside0.mk (blk_below (g := gb145) (o := .cells #[.int .i64 ((rd_T77 l0 x9_1).f0), .int .i64 ((rd_T77 l0 x9_1).f1), .int .i64 ((rd_T77 l0 x9_1).f2), .int .i64 ((rd_T77 l0 x9_1).f3), .int .i64 ((rd_T77 l0 x9_1).f4), .int .i64 ((rd_T77 l0 x9_1).f5)] 77 (0, 0)) (by (with_reducible repeat (first | refine blk_drewN ?_ _ | refine blk_drew ?_ | refine blk_alloc ?_ _)); exact BK145.out) hb)
                        have n3_ := Aside0.mk (Kept.below (S := (fun k_ => P1_ k_)) (by repeat (first | (with_reducible first | exact HK.out | apply Kept.alloc | apply Kept.drewN | apply Kept.drew | refine Kept.setCell ?_ (.inr GW145.out) _) | exact HK.out)) hb)
                        have n4_ := Aside0.mk (below_step (by repeat (first | (with_reducible first | exact HB.out | apply below_alloc | apply pw_below_drewN | apply below_drew1 | refine below_set ?_ GE145.out) | exact HB.out)) hb)
                        clear HO_1
                        clear BK145
                        clear HK
                        clear HB
                        clear HO195
                        clear HO200
                        clear HO205
                        have HO_1 := n0_
                        have HO208 := n1_
                        have BK145 := n2_
                        have HK := n3_
                        have HB := n4_
                        clear n0_ n1_ n2_ n3_ n4_
                        clear hb ho60
                        obtain ⟨Ao62, co62, eo62⟩ := Kd.N_slice HO208.out
                        (first | subst eo62 | (injection eo62 with f1_ f2_ f3_; have f4_ := f1_.symm; have f5_ := f3_.symm; clear f1_ f2_ f3_; subst f4_; subst f5_))
                        refine hK.out _ _ ⟨(blk_cell BK145.out 0).trans rfl, (blk_cell BK145.out 1).trans rfl, (blk_cell BK145.out 2).trans rfl, (blk_cell BK145.out 3).trans rfl, (blk_cell BK145.out 4).trans rfl, (blk_cell BK145.out 5).trans rfl⟩ (fun hHeld => ?_)
                        clear hK K
                        refine norm_ (a' := ?_) ?_ ?_
                        rotate_left
                        · show Act.put _ (some 62) _ = _
                          simp only [Act.put, List.setIfInBounds_toArray, List.set_cons_zero, List.set_cons_succ, i64_w, i32_w]
                          rfl
                        refine one_ (i := 9) (N := some 63) #[true, true, true, true, true, true, true, true, true, true, false] rfl rfl (one_of HT_.out (by kernel_rfl)) (by decide) (fun K hK => ?_)
                        refine Kd.N_append_rows_step k95 w.heap.size rfl (.tmp 54) (.tmp 62) 38 95 (.agg #[(.int .i64 0), (.int .i64 0), (.slice none 0 0)]) 40 rfl Try.underlying38 info95 rfl (by decide) (by omega) u1 x1_1 y206 _ _ _ (fun k_ => (P1_ k_ ∨ w.heap.size ≤ k_) ∧ k_ ≠ gb145) (fun k_ => ((fun k_ => (P1_ k_ ∨ w.heap.size ≤ k_) ∧ k_ ≠ gb145)) k_ ∧ some k_ ≠ (u1 : Value).ownBlock) rfl rfl ?aO ?aR (fun _ hk => hk) ?aF (Below.refl _ _) ?aS ?aL ?_
                        (case aR => exact (by skip; exact Kd.N_F (Kd.N_mono (ok' := (fun k_ => ((fun k_ => (P1_ k_ ∨ w.heap.size ≤ k_) ∧ k_ ≠ gb145)) k_ ∧ some k_ ≠ (u1 : Value).ownBlock)) (HO208.out) (fun k_ hk => ⟨⟨hk.1, hk.2.2⟩, hk.2.1⟩))))
                        (case aF => exact (fun k_ hk => ⟨(.inr (Nat.le_trans (by first | exact HK.out.1 | exact (show Kept w _ (fun k_ => P1_ k_) from by repeat (first | (with_reducible first | exact HK.out | apply Kept.alloc | apply Kept.drewN | apply Kept.drew | refine Kept.setCell ?_ (.inr GW145.out) _) | exact HK.out)).1) hk)), Kd.freshB (g := gb145) (o := .cells #[.int .i64 ((rd_T77 l0 x9_1).f0), .int .i64 ((rd_T77 l0 x9_1).f1), .int .i64 ((rd_T77 l0 x9_1).f2), .int .i64 ((rd_T77 l0 x9_1).f3), .int .i64 ((rd_T77 l0 x9_1).f4), .int .i64 ((rd_T77 l0 x9_1).f5)] 77 (0, 0)) (by (with_reducible repeat (first | refine blk_drewN ?_ _ | refine blk_drew ?_ | refine blk_alloc ?_ _)); exact BK145.out) k_ hk⟩))
                        (case aO => exact (by (with_reducible repeat (first | apply Kd.N_alloc | apply Kd.N_drewN | apply Kd.N_drew)); exact Kd.N_mono HO_1.out (fun _ hk => ⟨hk.1.1.1.1.1, hk.1.1.1.1.2⟩)))
                        (case aS => exact (by first | exact HK.out.1 | exact (show Kept w _ (fun k_ => P1_ k_) from by repeat (first | (with_reducible first | exact HK.out | apply Kept.alloc | apply Kept.drewN | apply Kept.drew | refine Kept.setCell ?_ (.inr GW145.out) _) | exact HK.out)).1))
                        (case aL => have := LMc50.out; omega)
                        intro v210 w61 ho hb hg hat
                        rw [← Ny209.out] at ho
                        have n0_ := Aside0.mk (blk_grown (g := gb145) (o := .cells #[.int .i64 ((rd_T77 l0 x9_1).f0), .int .i64 ((rd_T77 l0 x9_1).f1), .int .i64 ((rd_T77 l0 x9_1).f2), .int .i64 ((rd_T77 l0 x9_1).f3), .int .i64 ((rd_T77 l0 x9_1).f4), .int .i64 ((rd_T77 l0 x9_1).f5)] 77 (0, 0)) (by (with_reducible repeat (first | refine blk_drewN ?_ _ | refine blk_drew ?_ | refine blk_alloc ?_ _)); exact BK145.out) hg (Kd.N_ne HO_1.out BK145.out (by decide)))
                        have n1_ := Aside0.mk (Kd.N_afterv (ok := (fun k_ => (P1_ k_ ∨ w.heap.size ≤ k_) ∧ k_ ≠ gb145)) (by (with_reducible repeat (first | apply Kd.N_alloc | apply Kd.N_drewN | apply Kd.N_drew)); exact Kd.N_mono HO208.out (fun _ hk => ⟨⟨hk.1, hk.2.2⟩, hk.2.1⟩)) hg hat)
                        have n2_ := Aside0.mk (below_weaken (by repeat (first | (with_reducible first | exact HB.out | apply below_alloc | apply pw_below_drewN | apply below_drew1 | refine below_set ?_ GE145.out) | exact HB.out)) HW0.out hb)
                        have n3_ := Aside0.mk (Kept.of_grown (S := (fun k_ => P1_ k_)) hg (by repeat (first | (with_reducible first | exact HK.out | apply Kept.alloc | apply Kept.drewN | apply Kept.drew | refine Kept.setCell ?_ (.inr GW145.out) _) | exact HK.out)) (fun k_ e_ => .inr (Kd.N_base HO_1.out k_ e_)))
                        have n4_ := Aside0.mk (ho)
                        clear BK145
                        clear HO208
                        clear HB
                        clear HK
                        clear HO_1
                        have BK145 := n0_
                        have HO208 := n1_
                        have HB := n2_
                        have HK := n3_
                        have HO211 := n4_
                        clear n0_ n1_ n2_ n3_ n4_
                        clear ho hb hg hat
                        refine hK.out _ _ ⟨(blk_cell BK145.out 0).trans rfl, (blk_cell BK145.out 1).trans rfl, (blk_cell BK145.out 2).trans rfl, (blk_cell BK145.out 3).trans rfl, (blk_cell BK145.out 4).trans rfl, (blk_cell BK145.out 5).trans rfl⟩ (fun hHeld => ?_)
                        clear hK K
                        refine norm_ (a' := ?_) ?_ ?_
                        rotate_left
                        · show Act.put _ (some 63) _ = _
                          simp only [Act.put, List.setIfInBounds_toArray, List.set_cons_zero, List.set_cons_succ, i64_w, i32_w]
                          rfl
                        refine pure_ (i := 10) (N := some 1) (v := ?_) (a' := ?_) #[true, true, true, true, true, true, true, true, true, true, true] rfl rfl (any_of HT_.out (by kernel_rfl)) (fun _ _ _ h => h) (Or.inl ⟨by rfl, ?_⟩) ?_ ?_
                        rotate_left
                        · intro w'
                          go_simp
                          with_reducible rfl
                        rotate_left
                        · simp only [Act.put, List.setIfInBounds_toArray, List.set_cons_zero, List.set_cons_succ, i64_w, i32_w]
                          rfl
                        refine done_ (done_of HT_.out (by kernel_rfl)) ?_
                        try go_wp2
                        go_meet
                        case rel => exact ⟨_, (y209), H', ⟨by have := HK1.out; first | omega | exact Nat.le_refl _⟩, ⟨by (with_reducible repeat (first | apply Kd.N_alloc | apply Kd.N_drewN | apply Kd.N_drew)); exact HO211.out⟩, ⟨by (with_reducible repeat (first | refine blk_drewN ?_ _ | refine blk_drew ?_ | refine blk_alloc ?_ _)); exact BK145.out⟩, ⟨by repeat (first | (with_reducible first | exact HK.out | apply Kept.alloc | apply Kept.drewN | apply Kept.drew | refine Kept.setCell ?_ (.inr GW145.out) _) | exact HK.out)⟩, ⟨by repeat (first | (with_reducible first | exact HB.out | apply below_alloc | apply pw_below_drewN | apply below_drew1 | refine below_set ?_ GE145.out) | exact HB.out)⟩⟩
                      · rw [if_neg c50] at H
                        exact absurd H (by simp)
                    · rw [if_neg c46] at H
                      have c46b0 : (((rd_T77 l0 x9_1).f0) == 5) = false := beq_eq_false_iff_ne.mpr c46
                      have c46b1 : (((rd_T77 l0 x9_1).f0) != 5) = true := bne_iff_ne.mpr c46
                      by_cases c63 : ((rd_T77 l0 x9_1).f0) = 6
                      · rw [if_pos c63] at H
                        have c63b0 : (((rd_T77 l0 x9_1).f0) == 6) = true := beq_iff_eq.mpr c63
                        have c63b1 : (((rd_T77 l0 x9_1).f0) != 6) = false := bne_eq_false_iff_eq.mpr c63
                        clear c63
                        replace H := Option.bind_eq_some_iff.mp H
                        obtain ⟨⟨t212, t213, t214⟩, A640, H⟩ := H
                        replace H : ((spec_l3Step.f 12 0).bind fun bt217 => ((some (([(⟨t212, t213, t214⟩ : S95), (⟨bt217.1, bt217.2.1, bt217.2.2⟩ : S95)] : List (S95)) : List (S95))).bind fun y222 => (if x1_1.length + y222.length < 3518437208883 then (spec_l14Steps.j1 k1 (x1_1 ++ y222) l0 (l0.length : Int) x9_1 ((rd_T77 l0 x9_1).f0) ((rd_T77 l0 x9_1).f1) ((rd_T77 l0 x9_1).f2) ((rd_T77 l0 x9_1).f3) ((rd_T77 l0 x9_1).f4) ((rd_T77 l0 x9_1).f5)) else (none)))) = some r := H
                        have A64 := Aside0.mk A640
                        clear A640
                        replace H := Option.bind_eq_some_iff.mp H
                        obtain ⟨⟨t217, t218, t219⟩, A650, H⟩ := H
                        replace H : ((some (([(⟨t212, t213, t214⟩ : S95), (⟨t217, t218, t219⟩ : S95)] : List (S95)) : List (S95))).bind fun y222 => (if x1_1.length + y222.length < 3518437208883 then (spec_l14Steps.j1 k1 (x1_1 ++ y222) l0 (l0.length : Int) x9_1 ((rd_T77 l0 x9_1).f0) ((rd_T77 l0 x9_1).f1) ((rd_T77 l0 x9_1).f2) ((rd_T77 l0 x9_1).f3) ((rd_T77 l0 x9_1).f4) ((rd_T77 l0 x9_1).f5)) else (none))) = some r := H
                        have A65 := Aside0.mk A650
                        clear A650
                        obtain ⟨y222, hy222⟩ : ∃ y_ : List (S95), y_ = (([(⟨t212, t213, t214⟩ : S95), (⟨t217, t218, t219⟩ : S95)] : List (S95))) := ⟨_, rfl⟩
                        replace H : (if x1_1.length + y222.length < 3518437208883 then (spec_l14Steps.j1 k1 (x1_1 ++ y222) l0 (l0.length : Int) x9_1 ((rd_T77 l0 x9_1).f0) ((rd_T77 l0 x9_1).f1) ((rd_T77 l0 x9_1).f2) ((rd_T77 l0 x9_1).f3) ((rd_T77 l0 x9_1).f4) ((rd_T77 l0 x9_1).f5)) else (none)) = some r := by first | (rw [hy222]; with_reducible exact H) | (have H2_ := (Option.bind_some _ _).symm.trans H; rw [hy222]; with_reducible exact H2_) | (have H2_ := (Option.bind_some _ _).symm.trans H; with_reducible exact H2_) | with_reducible exact H | (rw [hy222]; exact H) | exact H
                        have Ny222 := Aside0.mk hy222
                        clear hy222
                        by_cases c66 : x1_1.length + y222.length < 3518437208883
                        · rw [if_pos c66] at H
                          have LMc66 := Aside0.mk c66
                          clear c66
                          obtain ⟨y225, hy225⟩ : ∃ y_ : List (S95), y_ = (x1_1 ++ y222) := ⟨_, rfl⟩
                          replace H : (spec_l14Steps.j1 k1 y225 l0 (l0.length : Int) x9_1 ((rd_T77 l0 x9_1).f0) ((rd_T77 l0 x9_1).f1) ((rd_T77 l0 x9_1).f2) ((rd_T77 l0 x9_1).f3) ((rd_T77 l0 x9_1).f4) ((rd_T77 l0 x9_1).f5)) = some r := by first | (rw [hy225]; with_reducible exact H) | (have H2_ := (Option.bind_some _ _).symm.trans H; rw [hy225]; with_reducible exact H2_) | (have H2_ := (Option.bind_some _ _).symm.trans H; with_reducible exact H2_) | with_reducible exact H | (rw [hy225]; exact H) | exact H
                          have Ny225 := Aside0.mk hy225
                          clear hy225
                          have H' := Aside0.mk H
                          clear H
                          have hcz67_0 : w7.cell? ⟨gb145, 0, none⟩ = some (.int .i64 0) := (blk_cell BK145.out 0).trans rfl
                          have hcz67_1 : w7.cell? ⟨gb145, 1, none⟩ = some (.int .i64 0) := (blk_cell BK145.out 1).trans rfl
                          have hcz67_2 : w7.cell? ⟨gb145, 2, none⟩ = some (.int .i64 0) := (blk_cell BK145.out 2).trans rfl
                          have hcz67_3 : w7.cell? ⟨gb145, 3, none⟩ = some (.int .i64 0) := (blk_cell BK145.out 3).trans rfl
                          have hcz67_4 : w7.cell? ⟨gb145, 4, none⟩ = some (.int .i64 0) := (blk_cell BK145.out 4).trans rfl
                          have hcz67_5 : w7.cell? ⟨gb145, 5, none⟩ = some (.int .i64 0) := (blk_cell BK145.out 5).trans rfl
                          have hfz67_0 := blk_frozen BK145.out 0
                          have hfz67_1 := blk_frozen BK145.out 1
                          have hfz67_2 := blk_frozen BK145.out 2
                          have hfz67_3 := blk_frozen BK145.out 3
                          have hfz67_4 := blk_frozen BK145.out 4
                          have hfz67_5 := blk_frozen BK145.out 5
                          go_wp2_with (first | ((with_reducible refine gate_callee (f := 117) rfl ?_); refine goesL_ (some 69) rfl rfl Try.func117 (by kernel_rfl) rfl #[.int .i64 2, .int .i64 ((rd_T77 l0 x9_1).f3)] rfl (by (try simp only [List.map_toArray, List.map_cons, List.map_nil]); first | done | rfl | (simp only [List.length_drop, List.length_take]; rfl)) ?_; (with_reducible refine (spec_l3Step.calls 2 ((rd_T77 l0 x9_1).f3) t212 t213 t214 _ A64.out).mono ?_); rintro e w68 ⟨v215, rfl, ho0, hb⟩; refine ⟨_, rfl, ?_⟩; have n0_ := Aside0.mk (Kd.N_elder' (by (with_reducible repeat (first | apply Kd.N_alloc | apply Kd.N_drewN | apply Kd.N_drew)); exact (Kd.N_mono (Kd.N_far (p := ⟨gb145, 5, none⟩) (Kd.N_far (p := ⟨gb145, 4, none⟩) (Kd.N_far (p := ⟨gb145, 3, none⟩) (Kd.N_far (p := ⟨gb145, 2, none⟩) (Kd.N_far (p := ⟨gb145, 1, none⟩) (Kd.N_far (p := ⟨gb145, 0, none⟩) (Kd.N_mono HO_1.out (fun k_ hk => (⟨hk, hk.2⟩ : _ ∧ k_ ≠ gb145))) (fun _ hk => hk.2) (.int .i64 ((rd_T77 l0 x9_1).f0))) (fun _ hk => hk.2) (.int .i64 ((rd_T77 l0 x9_1).f1))) (fun _ hk => hk.2) (.int .i64 ((rd_T77 l0 x9_1).f2))) (fun _ hk => hk.2) (.int .i64 ((rd_T77 l0 x9_1).f3))) (fun _ hk => hk.2) (.int .i64 ((rd_T77 l0 x9_1).f4))) (fun _ hk => hk.2) (.int .i64 ((rd_T77 l0 x9_1).f5))) (fun _ h_ => h_.1))) (Kd.R_base ho0) hb); have n1_ := Aside0.mk (Kd.R_lower (Kd.R_newM (M := fun k_ => (P1_ k_ ∨ w.heap.size ≤ k_)) ho0 (show Kept w _ (fun k_ => P1_ k_) from by repeat (first | (with_reducible first | exact HK.out | apply Kept.alloc | apply Kept.drewN | apply Kept.drew | refine Kept.setCell ?_ (.inr GW145.out) _) | exact HK.out)).1 (fun k_ h_ => .inr h_)) (below_size (by repeat (first | (with_reducible first | exact HB.out | apply below_alloc | apply pw_below_drewN | apply below_drew1 | refine below_set ?_ GE145.out) | exact HB.out)))); have n2_ := Aside0.mk (blk_below (g := gb145) (o := .cells #[.int .i64 ((rd_T77 l0 x9_1).f0), .int .i64 ((rd_T77 l0 x9_1).f1), .int .i64 ((rd_T77 l0 x9_1).f2), .int .i64 ((rd_T77 l0 x9_1).f3), .int .i64 ((rd_T77 l0 x9_1).f4), .int .i64 ((rd_T77 l0 x9_1).f5)] 77 (0, 0)) (by (with_reducible repeat (first | refine blk_drewN ?_ _ | refine blk_drew ?_ | refine blk_alloc ?_ _)); refine blk_put (cs := #[.int .i64 ((rd_T77 l0 x9_1).f0), .int .i64 ((rd_T77 l0 x9_1).f1), .int .i64 ((rd_T77 l0 x9_1).f2), .int .i64 ((rd_T77 l0 x9_1).f3), .int .i64 ((rd_T77 l0 x9_1).f4), .int .i64 0]) ?_ 5 _ rfl; (with_reducible repeat (first | refine blk_drewN ?_ _ | refine blk_drew ?_ | refine blk_alloc ?_ _)); refine blk_put (cs := #[.int .i64 ((rd_T77 l0 x9_1).f0), .int .i64 ((rd_T77 l0 x9_1).f1), .int .i64 ((rd_T77 l0 x9_1).f2), .int .i64 ((rd_T77 l0 x9_1).f3), .int .i64 0, .int .i64 0]) ?_ 4 _ rfl; (with_reducible repeat (first | refine blk_drewN ?_ _ | refine blk_drew ?_ | refine blk_alloc ?_ _)); refine blk_put (cs := #[.int .i64 ((rd_T77 l0 x9_1).f0), .int .i64 ((rd_T77 l0 x9_1).f1), .int .i64 ((rd_T77 l0 x9_1).f2), .int .i64 0, .int .i64 0, .int .i64 0]) ?_ 3 _ rfl; (with_reducible repeat (first | refine blk_drewN ?_ _ | refine blk_drew ?_ | refine blk_alloc ?_ _)); refine blk_put (cs := #[.int .i64 ((rd_T77 l0 x9_1).f0), .int .i64 ((rd_T77 l0 x9_1).f1), .int .i64 0, .int .i64 0, .int .i64 0, .int .i64 0]) ?_ 2 _ rfl; (with_reducible repeat (first | refine blk_drewN ?_ _ | refine blk_drew ?_ | refine blk_alloc ?_ _)); refine blk_put (cs := #[.int .i64 ((rd_T77 l0 x9_1).f0), .int .i64 0, .int .i64 0, .int .i64 0, .int .i64 0, .int .i64 0]) ?_ 1 _ rfl; (with_reducible repeat (first | refine blk_drewN ?_ _ | refine blk_drew ?_ | refine blk_alloc ?_ _)); refine blk_put (cs := #[.int .i64 0, .int .i64 0, .int .i64 0, .int .i64 0, .int .i64 0, .int .i64 0]) ?_ 0 _ rfl; (with_reducible repeat (first | refine blk_drewN ?_ _ | refine blk_drew ?_ | refine blk_alloc ?_ _)); exact BK145.out) hb); have n3_ := Aside0.mk (Kept.below (S := (fun k_ => P1_ k_)) (by repeat (first | (with_reducible first | exact HK.out | apply Kept.alloc | apply Kept.drewN | apply Kept.drew | refine Kept.setCell ?_ (.inr GW145.out) _) | exact HK.out)) hb); have n4_ := Aside0.mk (below_step (by repeat (first | (with_reducible first | exact HB.out | apply below_alloc | apply pw_below_drewN | apply below_drew1 | refine below_set ?_ GE145.out) | exact HB.out)) hb); clear HO_1; clear BK145; clear HK; clear HB; have HO_1 := n0_; have HO216 := n1_; have BK145 := n2_; have HK := n3_; have HB := n4_; clear n0_ n1_ n2_ n3_ n4_; (try clear hb); (try clear hb2); (try clear hk); (try clear hi); (try clear ho0)) | ((with_reducible refine gate_callee (f := 117) rfl ?_); refine goesL_ (some 70) rfl rfl Try.func117 (by kernel_rfl) rfl #[.int .i64 12, .int .i64 0] rfl (by (try simp only [List.map_toArray, List.map_cons, List.map_nil]); first | done | rfl | (simp only [List.length_drop, List.length_take]; rfl)) ?_; (with_reducible refine (spec_l3Step.calls 12 0 t217 t218 t219 _ A65.out).mono ?_); rintro e w69 ⟨v220, rfl, ho0, hb⟩; refine ⟨_, rfl, ?_⟩; have n0_ := Aside0.mk (Kd.N_elder' (by (with_reducible repeat (first | apply Kd.N_alloc | apply Kd.N_drewN | apply Kd.N_drew)); exact HO_1.out) (Kd.R_base ho0) hb); have n1_ := Aside0.mk (Kd.R_elder' (by (with_reducible repeat (first | apply Kd.R_alloc | apply Kd.R_drewN | apply Kd.R_drew)); exact HO216.out) (Kd.R_base ho0) hb); have n2_ := Aside0.mk (Kd.R_lower (Kd.R_new' (Kd.R_newM (M := fun k_ => (P1_ k_ ∨ w.heap.size ≤ k_)) ho0 (by first | exact HK.out.1 | exact (show Kept w _ (fun k_ => P1_ k_) from by repeat (first | (with_reducible first | exact HK.out | apply Kept.alloc | apply Kept.drewN | apply Kept.drew | refine Kept.setCell ?_ (.inr GW145.out) _) | exact HK.out)).1) (fun k_ h_ => .inr h_)) (Kd.R_lt (by (with_reducible repeat (first | apply Kd.R_alloc | apply Kd.R_drewN | apply Kd.R_drew)); exact HO216.out))) (below_size (by repeat (first | (with_reducible first | exact HB.out | apply below_alloc | apply pw_below_drewN | apply below_drew1 | refine below_set ?_ GE145.out) | exact HB.out)))); have n3_ := Aside0.mk (blk_below (g := gb145) (o := .cells #[.int .i64 ((rd_T77 l0 x9_1).f0), .int .i64 ((rd_T77 l0 x9_1).f1), .int .i64 ((rd_T77 l0 x9_1).f2), .int .i64 ((rd_T77 l0 x9_1).f3), .int .i64 ((rd_T77 l0 x9_1).f4), .int .i64 ((rd_T77 l0 x9_1).f5)] 77 (0, 0)) (by (with_reducible repeat (first | refine blk_drewN ?_ _ | refine blk_drew ?_ | refine blk_alloc ?_ _)); exact BK145.out) hb); have n4_ := Aside0.mk (Kept.below (S := (fun k_ => P1_ k_)) (by repeat (first | (with_reducible first | exact HK.out | apply Kept.alloc | apply Kept.drewN | apply Kept.drew | refine Kept.setCell ?_ (.inr GW145.out) _) | exact HK.out)) hb); have n5_ := Aside0.mk (below_step (by repeat (first | (with_reducible first | exact HB.out | apply below_alloc | apply pw_below_drewN | apply below_drew1 | refine below_set ?_ GE145.out) | exact HB.out)) hb); clear HO_1; clear HO216; clear BK145; clear HK; clear HB; have HO_1 := n0_; have HO216 := n1_; have HO221 := n2_; have BK145 := n3_; have HK := n4_; have HB := n5_; clear n0_ n1_ n2_ n3_ n4_ n5_; (try clear hb); (try clear hb2); (try clear hk); (try clear hi); (try clear ho0); obtain ⟨Ao70, co70, eo70⟩ := Kd.R_slice HO216.out; subst eo70; obtain ⟨Ao71, co71, eo71⟩ := Kd.R_slice HO221.out; subst eo71) | ((with_reducible refine gate_dst (N := 71) rfl ?_); refine Kd.N_lit k95 _ 95 ?hg (N' := 71) ?hd (xs := ([(⟨t212, t213, t214⟩ : S95), (⟨t217, t218, t219⟩ : S95)] : List (S95))) (inner := [.int .i64 t212, .int .i64 t213, .slice Ao70 t214.length co70, .int .i64 t217, .int .i64 t218, .slice Ao71 t219.length co71]) (ok := (fun k_ => (P1_ k_ ∨ w.heap.size ≤ k_) ∧ some k_ ≠ (u1 : Value).ownBlock ∧ k_ ≠ gb145)) (okp := (fun k_ => (P1_ k_ ∨ w.heap.size ≤ k_) ∧ some k_ ≠ (u1 : Value).ownBlock ∧ k_ ≠ gb145)) ?hr ?hp (fun _ hk => hk) ((show ∀ k_, w69.heap.size ≤ k_ → (fun k_ => (P1_ k_ ∨ w.heap.size ≤ k_) ∧ some k_ ≠ (u1 : Value).ownBlock ∧ k_ ≠ gb145) k_ from fun k_ hk => ⟨(.inr (Nat.le_trans (by first | exact HK.out.1 | exact (show Kept w _ (fun k_ => P1_ k_) from by repeat (first | (with_reducible first | exact HK.out | apply Kept.alloc | apply Kept.drewN | apply Kept.drew | refine Kept.setCell ?_ (.inr GW145.out) _) | exact HK.out)).1) hk)), Kd.fresh' (Kd.N_lt (by (with_reducible repeat (first | apply Kd.N_alloc | apply Kd.N_drewN | apply Kd.N_drew)); exact HO_1.out)) k_ hk, Kd.freshB (g := gb145) (o := .cells #[.int .i64 ((rd_T77 l0 x9_1).f0), .int .i64 ((rd_T77 l0 x9_1).f1), .int .i64 ((rd_T77 l0 x9_1).f2), .int .i64 ((rd_T77 l0 x9_1).f3), .int .i64 ((rd_T77 l0 x9_1).f4), .int .i64 ((rd_T77 l0 x9_1).f5)] 77 (0, 0)) (by (with_reducible repeat (first | refine blk_drewN ?_ _ | refine blk_drew ?_ | refine blk_alloc ?_ _)); exact BK145.out) k_ hk⟩) _ (Nat.le_refl _)) (Below.refl _ _) (Nat.le_refl _) (by simp) ?_; (case hd => rfl); (case hg => rfl); (case hr => first | (go_simp; done) | (go_simp; rfl)); (case hp => exact (Reps.c3 (show Kd.FK k95 _ _ (⟨t212, t213, t214⟩ : S95) [.int .i64 t212, .int .i64 t213, .slice Ao70 t214.length co70] from (k95_mkF _ _ (⟨t212, t213, t214⟩ : S95) (Kd.R_reads' (Kd.R_mono (ok' := (fun k_ => (P1_ k_ ∨ w.heap.size ≤ k_) ∧ some k_ ≠ (u1 : Value).ownBlock ∧ k_ ≠ gb145)) (Kd.R_types (Kd.R_apart' (HO216.out) (Kd.N_typed HO_1.out) (by decide)) BK145.out (by decide)) (fun k_ hk => ⟨hk.1.1.1.1, ⟨hk.1.2, hk.2⟩⟩))).2.1 (Kd.R_F (Kd.R_mono (ok' := (fun k_ => (P1_ k_ ∨ w.heap.size ≤ k_) ∧ some k_ ≠ (u1 : Value).ownBlock ∧ k_ ≠ gb145)) (Kd.R_types (Kd.R_apart' (HO216.out) (Kd.N_typed HO_1.out) (by decide)) BK145.out (by decide)) (fun k_ hk => ⟨hk.1.1.1.1, ⟨hk.1.2, hk.2⟩⟩))))) (Reps.c3 (show Kd.FK k95 _ _ (⟨t217, t218, t219⟩ : S95) [.int .i64 t217, .int .i64 t218, .slice Ao71 t219.length co71] from (k95_mkF _ _ (⟨t217, t218, t219⟩ : S95) (Kd.R_reads' (Kd.R_mono (ok' := (fun k_ => (P1_ k_ ∨ w.heap.size ≤ k_) ∧ some k_ ≠ (u1 : Value).ownBlock ∧ k_ ≠ gb145)) (Kd.R_types (Kd.R_apart' (HO221.out) (Kd.N_typed HO_1.out) (by decide)) BK145.out (by decide)) (fun k_ hk => ⟨hk.1.1.1.1, ⟨hk.1.2, hk.2⟩⟩))).2.1 (Kd.R_F (Kd.R_mono (ok' := (fun k_ => (P1_ k_ ∨ w.heap.size ≤ k_) ∧ some k_ ≠ (u1 : Value).ownBlock ∧ k_ ≠ gb145)) (Kd.R_types (Kd.R_apart' (HO221.out) (Kd.N_typed HO_1.out) (by decide)) BK145.out (by decide)) (fun k_ hk => ⟨hk.1.1.1.1, ⟨hk.1.2, hk.2⟩⟩))))) (Reps.none _ _)))); intro v223 w72 ho73 hb hg_ hnew_; clear hg_ hnew_; (first | rw [← Ny222.out] at ho73 | (simp only [Int.reduceToNat] at ho73; rw [← Ny222.out] at ho73)); have n0_ := Aside0.mk (Kd.N_elder' (by (with_reducible repeat (first | apply Kd.N_alloc | apply Kd.N_drewN | apply Kd.N_drew)); exact HO_1.out) (by first | exact Kd.N_base ho73 | exact Kd.S_base ho73) hb); have n1_ := Aside0.mk (Kd.N_lower ho73 (by first | exact HK.out.1 | exact (show Kept w _ (fun k_ => P1_ k_) from by repeat (first | (with_reducible first | exact HK.out | apply Kept.alloc | apply Kept.drewN | apply Kept.drew | refine Kept.setCell ?_ (.inr GW145.out) _) | exact HK.out)).1)); have n2_ := Aside0.mk (blk_below (g := gb145) (o := .cells #[.int .i64 ((rd_T77 l0 x9_1).f0), .int .i64 ((rd_T77 l0 x9_1).f1), .int .i64 ((rd_T77 l0 x9_1).f2), .int .i64 ((rd_T77 l0 x9_1).f3), .int .i64 ((rd_T77 l0 x9_1).f4), .int .i64 ((rd_T77 l0 x9_1).f5)] 77 (0, 0)) (by (with_reducible repeat (first | refine blk_drewN ?_ _ | refine blk_drew ?_ | refine blk_alloc ?_ _)); exact BK145.out) hb); have n3_ := Aside0.mk (Kept.below (S := (fun k_ => P1_ k_)) (by repeat (first | (with_reducible first | exact HK.out | apply Kept.alloc | apply Kept.drewN | apply Kept.drew | refine Kept.setCell ?_ (.inr GW145.out) _) | exact HK.out)) hb); have n4_ := Aside0.mk (below_step (by repeat (first | (with_reducible first | exact HB.out | apply below_alloc | apply pw_below_drewN | apply below_drew1 | refine below_set ?_ GE145.out) | exact HB.out)) hb); clear HO_1; clear BK145; clear HK; clear HB; clear HO216; clear HO221; have HO_1 := n0_; have HO224 := n1_; have BK145 := n2_; have HK := n3_; have HB := n4_; clear n0_ n1_ n2_ n3_ n4_; clear hb ho73; obtain ⟨Ao75, co75, eo75⟩ := Kd.N_slice HO224.out; subst eo75) | ((with_reducible refine gate_builtin (b := .append) (xs := #[.tmp 66, .tmp 71]) rfl ?_); at_builtin; refine Kd.N_append_rows k95 w.heap.size rfl (.tmp 66) (.tmp 71) 38 95 (.agg #[(.int .i64 0), (.int .i64 0), (.slice none 0 0)]) 40 rfl Try.underlying38 info95 rfl (by decide) (by omega) u1 x1_1 y222 _ _ _ (fun k_ => (P1_ k_ ∨ w.heap.size ≤ k_) ∧ k_ ≠ gb145) (fun k_ => ((fun k_ => (P1_ k_ ∨ w.heap.size ≤ k_) ∧ k_ ≠ gb145)) k_ ∧ some k_ ≠ (u1 : Value).ownBlock) rfl rfl ?aO ?aR (fun _ hk => hk) ?aF (Below.refl _ _) ?aS ?aL ?_; (case aR => exact (by skip; exact Kd.N_F (Kd.N_mono (ok' := (fun k_ => ((fun k_ => (P1_ k_ ∨ w.heap.size ≤ k_) ∧ k_ ≠ gb145)) k_ ∧ some k_ ≠ (u1 : Value).ownBlock)) (HO224.out) (fun k_ hk => ⟨⟨hk.1, hk.2.2⟩, hk.2.1⟩)))); (case aF => exact (fun k_ hk => ⟨(.inr (Nat.le_trans (by first | exact HK.out.1 | exact (show Kept w _ (fun k_ => P1_ k_) from by repeat (first | (with_reducible first | exact HK.out | apply Kept.alloc | apply Kept.drewN | apply Kept.drew | refine Kept.setCell ?_ (.inr GW145.out) _) | exact HK.out)).1) hk)), Kd.freshB (g := gb145) (o := .cells #[.int .i64 ((rd_T77 l0 x9_1).f0), .int .i64 ((rd_T77 l0 x9_1).f1), .int .i64 ((rd_T77 l0 x9_1).f2), .int .i64 ((rd_T77 l0 x9_1).f3), .int .i64 ((rd_T77 l0 x9_1).f4), .int .i64 ((rd_T77 l0 x9_1).f5)] 77 (0, 0)) (by (with_reducible repeat (first | refine blk_drewN ?_ _ | refine blk_drew ?_ | refine blk_alloc ?_ _)); exact BK145.out) k_ hk⟩)); (case aO => exact (by (with_reducible repeat (first | apply Kd.N_alloc | apply Kd.N_drewN | apply Kd.N_drew)); exact Kd.N_mono HO_1.out (fun _ hk => ⟨hk.1.1.1.1, hk.1.1.1.2⟩))); (case aS => exact (by first | exact HK.out.1 | exact (show Kept w _ (fun k_ => P1_ k_) from by repeat (first | (with_reducible first | exact HK.out | apply Kept.alloc | apply Kept.drewN | apply Kept.drew | refine Kept.setCell ?_ (.inr GW145.out) _) | exact HK.out)).1)); (case aL => have := LMc66.out; omega); intro v226 w74 ho hb hg hat; rw [← Ny225.out] at ho; have n0_ := Aside0.mk (blk_grown (g := gb145) (o := .cells #[.int .i64 ((rd_T77 l0 x9_1).f0), .int .i64 ((rd_T77 l0 x9_1).f1), .int .i64 ((rd_T77 l0 x9_1).f2), .int .i64 ((rd_T77 l0 x9_1).f3), .int .i64 ((rd_T77 l0 x9_1).f4), .int .i64 ((rd_T77 l0 x9_1).f5)] 77 (0, 0)) (by (with_reducible repeat (first | refine blk_drewN ?_ _ | refine blk_drew ?_ | refine blk_alloc ?_ _)); exact BK145.out) hg (Kd.N_ne HO_1.out BK145.out (by decide))); have n1_ := Aside0.mk (Kd.N_afterv (ok := (fun k_ => (P1_ k_ ∨ w.heap.size ≤ k_) ∧ k_ ≠ gb145)) (by (with_reducible repeat (first | apply Kd.N_alloc | apply Kd.N_drewN | apply Kd.N_drew)); exact Kd.N_mono HO224.out (fun _ hk => ⟨⟨hk.1, hk.2.2⟩, hk.2.1⟩)) hg hat); have n2_ := Aside0.mk (below_weaken (by repeat (first | (with_reducible first | exact HB.out | apply below_alloc | apply pw_below_drewN | apply below_drew1 | refine below_set ?_ GE145.out) | exact HB.out)) HW0.out hb); have n3_ := Aside0.mk (Kept.of_grown (S := (fun k_ => P1_ k_)) hg (by repeat (first | (with_reducible first | exact HK.out | apply Kept.alloc | apply Kept.drewN | apply Kept.drew | refine Kept.setCell ?_ (.inr GW145.out) _) | exact HK.out)) (fun k_ e_ => .inr (Kd.N_base HO_1.out k_ e_))); have n4_ := Aside0.mk (ho); clear BK145; clear HO224; clear HB; clear HK; clear HO_1; have BK145 := n0_; have HO224 := n1_; have HB := n2_; have HK := n3_; have HO227 := n4_; clear n0_ n1_ n2_ n3_ n4_; clear ho hb hg hat))
                          go_meet
                          case rel => exact ⟨_, (y225), H', ⟨by have := HK1.out; first | omega | exact Nat.le_refl _⟩, ⟨by (with_reducible repeat (first | apply Kd.N_alloc | apply Kd.N_drewN | apply Kd.N_drew)); exact HO227.out⟩, ⟨by (with_reducible repeat (first | refine blk_drewN ?_ _ | refine blk_drew ?_ | refine blk_alloc ?_ _)); exact BK145.out⟩, ⟨by repeat (first | (with_reducible first | exact HK.out | apply Kept.alloc | apply Kept.drewN | apply Kept.drew | refine Kept.setCell ?_ (.inr GW145.out) _) | exact HK.out)⟩, ⟨by repeat (first | (with_reducible first | exact HB.out | apply below_alloc | apply pw_below_drewN | apply below_drew1 | refine below_set ?_ GE145.out) | exact HB.out)⟩⟩
                        · rw [if_neg c66] at H
                          exact absurd H (by simp)
                      · rw [if_neg c63] at H
                        have c63b0 : (((rd_T77 l0 x9_1).f0) == 6) = false := beq_eq_false_iff_ne.mpr c63
                        have c63b1 : (((rd_T77 l0 x9_1).f0) != 6) = true := bne_iff_ne.mpr c63
                        replace H := Option.bind_eq_some_iff.mp H
                        obtain ⟨⟨t228, t229, t230⟩, A760, H⟩ := H
                        replace H : (if x1_1.length < 3518437208883 then (spec_l14Steps.j1 k1 (x1_1 ++ [(⟨t228, t229, t230⟩ : S95)]) l0 (l0.length : Int) x9_1 ((rd_T77 l0 x9_1).f0) ((rd_T77 l0 x9_1).f1) ((rd_T77 l0 x9_1).f2) ((rd_T77 l0 x9_1).f3) ((rd_T77 l0 x9_1).f4) ((rd_T77 l0 x9_1).f5)) else (none)) = some r := H
                        have A76 := Aside0.mk A760
                        clear A760
                        by_cases c77 : x1_1.length < 3518437208883
                        · rw [if_pos c77] at H
                          have LMc77 := Aside0.mk c77
                          clear c77
                          obtain ⟨y233, hy233⟩ : ∃ y_ : List (S95), y_ = (x1_1 ++ [(⟨t228, t229, t230⟩ : S95)]) := ⟨_, rfl⟩
                          replace H : (spec_l14Steps.j1 k1 y233 l0 (l0.length : Int) x9_1 ((rd_T77 l0 x9_1).f0) ((rd_T77 l0 x9_1).f1) ((rd_T77 l0 x9_1).f2) ((rd_T77 l0 x9_1).f3) ((rd_T77 l0 x9_1).f4) ((rd_T77 l0 x9_1).f5)) = some r := by first | (rw [hy233]; with_reducible exact H) | (have H2_ := (Option.bind_some _ _).symm.trans H; rw [hy233]; with_reducible exact H2_) | (have H2_ := (Option.bind_some _ _).symm.trans H; with_reducible exact H2_) | with_reducible exact H | (rw [hy233]; exact H) | exact H
                          have Ny233 := Aside0.mk hy233
                          clear hy233
                          have H' := Aside0.mk H
                          clear H
                          have hcz78_0 : w7.cell? ⟨gb145, 0, none⟩ = some (.int .i64 0) := (blk_cell BK145.out 0).trans rfl
                          have hcz78_1 : w7.cell? ⟨gb145, 1, none⟩ = some (.int .i64 0) := (blk_cell BK145.out 1).trans rfl
                          have hcz78_2 : w7.cell? ⟨gb145, 2, none⟩ = some (.int .i64 0) := (blk_cell BK145.out 2).trans rfl
                          have hcz78_3 : w7.cell? ⟨gb145, 3, none⟩ = some (.int .i64 0) := (blk_cell BK145.out 3).trans rfl
                          have hcz78_4 : w7.cell? ⟨gb145, 4, none⟩ = some (.int .i64 0) := (blk_cell BK145.out 4).trans rfl
                          have hcz78_5 : w7.cell? ⟨gb145, 5, none⟩ = some (.int .i64 0) := (blk_cell BK145.out 5).trans rfl
                          have hfz78_0 := blk_frozen BK145.out 0
                          have hfz78_1 := blk_frozen BK145.out 1
                          have hfz78_2 := blk_frozen BK145.out 2
                          have hfz78_3 := blk_frozen BK145.out 3
                          have hfz78_4 := blk_frozen BK145.out 4
                          have hfz78_5 := blk_frozen BK145.out 5
                          go_wp2_with (first | ((with_reducible refine gate_callee (f := 117) rfl ?_); refine goesL_ (some 18) rfl rfl Try.func117 (by kernel_rfl) rfl #[.int .i64 2, .int .i64 ((rd_T77 l0 x9_1).f3)] rfl (by (try simp only [List.map_toArray, List.map_cons, List.map_nil]); first | done | rfl | (simp only [List.length_drop, List.length_take]; rfl)) ?_; (with_reducible refine (spec_l3Step.calls 2 ((rd_T77 l0 x9_1).f3) t228 t229 t230 _ A76.out).mono ?_); rintro e w79 ⟨v231, rfl, ho0, hb⟩; refine ⟨_, rfl, ?_⟩; have n0_ := Aside0.mk (Kd.N_elder' (by (with_reducible repeat (first | apply Kd.N_alloc | apply Kd.N_drewN | apply Kd.N_drew)); exact (Kd.N_mono (Kd.N_far (p := ⟨gb145, 5, none⟩) (Kd.N_far (p := ⟨gb145, 4, none⟩) (Kd.N_far (p := ⟨gb145, 3, none⟩) (Kd.N_far (p := ⟨gb145, 2, none⟩) (Kd.N_far (p := ⟨gb145, 1, none⟩) (Kd.N_far (p := ⟨gb145, 0, none⟩) (Kd.N_mono HO_1.out (fun k_ hk => (⟨hk, hk.2⟩ : _ ∧ k_ ≠ gb145))) (fun _ hk => hk.2) (.int .i64 ((rd_T77 l0 x9_1).f0))) (fun _ hk => hk.2) (.int .i64 ((rd_T77 l0 x9_1).f1))) (fun _ hk => hk.2) (.int .i64 ((rd_T77 l0 x9_1).f2))) (fun _ hk => hk.2) (.int .i64 ((rd_T77 l0 x9_1).f3))) (fun _ hk => hk.2) (.int .i64 ((rd_T77 l0 x9_1).f4))) (fun _ hk => hk.2) (.int .i64 ((rd_T77 l0 x9_1).f5))) (fun _ h_ => h_.1))) (Kd.R_base ho0) hb); have n1_ := Aside0.mk (Kd.R_lower (Kd.R_newM (M := fun k_ => (P1_ k_ ∨ w.heap.size ≤ k_)) ho0 (show Kept w _ (fun k_ => P1_ k_) from by repeat (first | (with_reducible first | exact HK.out | apply Kept.alloc | apply Kept.drewN | apply Kept.drew | refine Kept.setCell ?_ (.inr GW145.out) _) | exact HK.out)).1 (fun k_ h_ => .inr h_)) (below_size (by repeat (first | (with_reducible first | exact HB.out | apply below_alloc | apply pw_below_drewN | apply below_drew1 | refine below_set ?_ GE145.out) | exact HB.out)))); have n2_ := Aside0.mk (blk_below (g := gb145) (o := .cells #[.int .i64 ((rd_T77 l0 x9_1).f0), .int .i64 ((rd_T77 l0 x9_1).f1), .int .i64 ((rd_T77 l0 x9_1).f2), .int .i64 ((rd_T77 l0 x9_1).f3), .int .i64 ((rd_T77 l0 x9_1).f4), .int .i64 ((rd_T77 l0 x9_1).f5)] 77 (0, 0)) (by (with_reducible repeat (first | refine blk_drewN ?_ _ | refine blk_drew ?_ | refine blk_alloc ?_ _)); refine blk_put (cs := #[.int .i64 ((rd_T77 l0 x9_1).f0), .int .i64 ((rd_T77 l0 x9_1).f1), .int .i64 ((rd_T77 l0 x9_1).f2), .int .i64 ((rd_T77 l0 x9_1).f3), .int .i64 ((rd_T77 l0 x9_1).f4), .int .i64 0]) ?_ 5 _ rfl; (with_reducible repeat (first | refine blk_drewN ?_ _ | refine blk_drew ?_ | refine blk_alloc ?_ _)); refine blk_put (cs := #[.int .i64 ((rd_T77 l0 x9_1).f0), .int .i64 ((rd_T77 l0 x9_1).f1), .int .i64 ((rd_T77 l0 x9_1).f2), .int .i64 ((rd_T77 l0 x9_1).f3), .int .i64 0, .int .i64 0]) ?_ 4 _ rfl; (with_reducible repeat (first | refine blk_drewN ?_ _ | refine blk_drew ?_ | refine blk_alloc ?_ _)); refine blk_put (cs := #[.int .i64 ((rd_T77 l0 x9_1).f0), .int .i64 ((rd_T77 l0 x9_1).f1), .int .i64 ((rd_T77 l0 x9_1).f2), .int .i64 0, .int .i64 0, .int .i64 0]) ?_ 3 _ rfl; (with_reducible repeat (first | refine blk_drewN ?_ _ | refine blk_drew ?_ | refine blk_alloc ?_ _)); refine blk_put (cs := #[.int .i64 ((rd_T77 l0 x9_1).f0), .int .i64 ((rd_T77 l0 x9_1).f1), .int .i64 0, .int .i64 0, .int .i64 0, .int .i64 0]) ?_ 2 _ rfl; (with_reducible repeat (first | refine blk_drewN ?_ _ | refine blk_drew ?_ | refine blk_alloc ?_ _)); refine blk_put (cs := #[.int .i64 ((rd_T77 l0 x9_1).f0), .int .i64 0, .int .i64 0, .int .i64 0, .int .i64 0, .int .i64 0]) ?_ 1 _ rfl; (with_reducible repeat (first | refine blk_drewN ?_ _ | refine blk_drew ?_ | refine blk_alloc ?_ _)); refine blk_put (cs := #[.int .i64 0, .int .i64 0, .int .i64 0, .int .i64 0, .int .i64 0, .int .i64 0]) ?_ 0 _ rfl; (with_reducible repeat (first | refine blk_drewN ?_ _ | refine blk_drew ?_ | refine blk_alloc ?_ _)); exact BK145.out) hb); have n3_ := Aside0.mk (Kept.below (S := (fun k_ => P1_ k_)) (by repeat (first | (with_reducible first | exact HK.out | apply Kept.alloc | apply Kept.drewN | apply Kept.drew | refine Kept.setCell ?_ (.inr GW145.out) _) | exact HK.out)) hb); have n4_ := Aside0.mk (below_step (by repeat (first | (with_reducible first | exact HB.out | apply below_alloc | apply pw_below_drewN | apply below_drew1 | refine below_set ?_ GE145.out) | exact HB.out)) hb); clear HO_1; clear BK145; clear HK; clear HB; have HO_1 := n0_; have HO232 := n1_; have BK145 := n2_; have HK := n3_; have HB := n4_; clear n0_ n1_ n2_ n3_ n4_; (try clear hb); (try clear hb2); (try clear hk); (try clear hi); (try clear ho0); obtain ⟨Ao81, co81, eo81⟩ := Kd.R_slice HO232.out; subst eo81) | ((with_reducible refine gate_builtin (b := .append) (xs := #[.tmp 15, .tmp 19]) rfl ?_); at_builtin; refine Kd.N_append k95 w.heap.size rfl (.tmp 15) (.tmp 19) 38 95 (.agg #[(.int .i64 0), (.int .i64 0), (.slice none 0 0)]) 40 rfl Try.underlying38 info95 rfl (by decide) (by omega) u1 x1_1 (⟨t228, t229, t230⟩ : S95) [.int .i64 t228, .int .i64 t229, .slice Ao81 t230.length co81] (fun k_ => (P1_ k_ ∨ w.heap.size ≤ k_) ∧ k_ ≠ gb145) (fun k_ => ((fun k_ => (P1_ k_ ∨ w.heap.size ≤ k_) ∧ k_ ≠ gb145)) k_ ∧ some k_ ≠ (u1 : Value).ownBlock) rfl rfl ?aP (fun _ hk => hk) ?aF ?aO (Below.refl _ _) ?aS ?aL ?_; (case aP => exact (k95_mkF _ _ (⟨t228, t229, t230⟩ : S95) (Kd.R_reads' (Kd.R_mono (ok' := (fun k_ => ((fun k_ => (P1_ k_ ∨ w.heap.size ≤ k_) ∧ k_ ≠ gb145)) k_ ∧ some k_ ≠ (u1 : Value).ownBlock)) (Kd.R_types (Kd.R_apart' (HO232.out) (Kd.N_typed HO_1.out) (by decide)) BK145.out (by decide)) (fun k_ hk => ⟨⟨hk.1.1.1, hk.2⟩, hk.1.2⟩))).2.1 (Kd.R_F (Kd.R_mono (ok' := (fun k_ => ((fun k_ => (P1_ k_ ∨ w.heap.size ≤ k_) ∧ k_ ≠ gb145)) k_ ∧ some k_ ≠ (u1 : Value).ownBlock)) (Kd.R_types (Kd.R_apart' (HO232.out) (Kd.N_typed HO_1.out) (by decide)) BK145.out (by decide)) (fun k_ hk => ⟨⟨hk.1.1.1, hk.2⟩, hk.1.2⟩))))); (case aF => exact (fun k_ hk => ⟨(.inr (Nat.le_trans (by first | exact HK.out.1 | exact (show Kept w _ (fun k_ => P1_ k_) from by repeat (first | (with_reducible first | exact HK.out | apply Kept.alloc | apply Kept.drewN | apply Kept.drew | refine Kept.setCell ?_ (.inr GW145.out) _) | exact HK.out)).1) hk)), Kd.freshB (g := gb145) (o := .cells #[.int .i64 ((rd_T77 l0 x9_1).f0), .int .i64 ((rd_T77 l0 x9_1).f1), .int .i64 ((rd_T77 l0 x9_1).f2), .int .i64 ((rd_T77 l0 x9_1).f3), .int .i64 ((rd_T77 l0 x9_1).f4), .int .i64 ((rd_T77 l0 x9_1).f5)] 77 (0, 0)) (by (with_reducible repeat (first | refine blk_drewN ?_ _ | refine blk_drew ?_ | refine blk_alloc ?_ _)); exact BK145.out) k_ hk⟩)); (case aO => exact (by (with_reducible repeat (first | apply Kd.N_alloc | apply Kd.N_drewN | apply Kd.N_drew)); exact Kd.N_mono HO_1.out (fun _ hk => ⟨hk.1.1, hk.1.2⟩))); (case aS => exact (by first | exact HK.out.1 | exact (show Kept w _ (fun k_ => P1_ k_) from by repeat (first | (with_reducible first | exact HK.out | apply Kept.alloc | apply Kept.drewN | apply Kept.drew | refine Kept.setCell ?_ (.inr GW145.out) _) | exact HK.out)).1)); (case aL => have := LMc77.out; omega); intro v234 w80 ho hb hg hat; rw [← Ny233.out] at ho; have n0_ := Aside0.mk (blk_grown (g := gb145) (o := .cells #[.int .i64 ((rd_T77 l0 x9_1).f0), .int .i64 ((rd_T77 l0 x9_1).f1), .int .i64 ((rd_T77 l0 x9_1).f2), .int .i64 ((rd_T77 l0 x9_1).f3), .int .i64 ((rd_T77 l0 x9_1).f4), .int .i64 ((rd_T77 l0 x9_1).f5)] 77 (0, 0)) (by (with_reducible repeat (first | refine blk_drewN ?_ _ | refine blk_drew ?_ | refine blk_alloc ?_ _)); exact BK145.out) hg (Kd.N_ne HO_1.out BK145.out (by decide))); have n1_ := Aside0.mk (below_weaken (by repeat (first | (with_reducible first | exact HB.out | apply below_alloc | apply pw_below_drewN | apply below_drew1 | refine below_set ?_ GE145.out) | exact HB.out)) HW0.out hb); have n2_ := Aside0.mk (Kept.of_grown (S := (fun k_ => P1_ k_)) hg (by repeat (first | (with_reducible first | exact HK.out | apply Kept.alloc | apply Kept.drewN | apply Kept.drew | refine Kept.setCell ?_ (.inr GW145.out) _) | exact HK.out)) (fun k_ e_ => .inr (Kd.N_base HO_1.out k_ e_))); have n3_ := Aside0.mk (ho); clear BK145; clear HB; clear HK; clear HO_1; clear HO232; have BK145 := n0_; have HB := n1_; have HK := n2_; have HO235 := n3_; clear n0_ n1_ n2_ n3_; clear ho hb hg hat))
                          go_meet
                          case rel => exact ⟨_, (y233), H', ⟨by have := HK1.out; first | omega | exact Nat.le_refl _⟩, ⟨by (with_reducible repeat (first | apply Kd.N_alloc | apply Kd.N_drewN | apply Kd.N_drew)); exact HO235.out⟩, ⟨by (with_reducible repeat (first | refine blk_drewN ?_ _ | refine blk_drew ?_ | refine blk_alloc ?_ _)); exact BK145.out⟩, ⟨by repeat (first | (with_reducible first | exact HK.out | apply Kept.alloc | apply Kept.drewN | apply Kept.drew | refine Kept.setCell ?_ (.inr GW145.out) _) | exact HK.out)⟩, ⟨by repeat (first | (with_reducible first | exact HB.out | apply below_alloc | apply pw_below_drewN | apply below_drew1 | refine below_set ?_ GE145.out) | exact HB.out)⟩⟩
                        · rw [if_neg c77] at H
                          exact absurd H (by simp)
            case rest =>
              clear HC6
              try clear c1
              try clear c2
              try clear p2
              try clear c3
              try clear c4
              try clear c5
              try clear c6
              try clear c7
              try clear c11
              try clear c16
              try clear c16b0
              try clear c16b1
              try clear c20
              try clear c33
              try clear c33b0
              try clear c33b1
              try clear c36
              try clear c46
              try clear c46b0
              try clear c46b1
              try clear c50
              try clear c63
              try clear c63b0
              try clear c63b1
              try clear c66
              try clear c77
              try clear hcz37_0
              try clear hcz37_1
              try clear hcz37_2
              try clear hcz37_3
              try clear hcz37_4
              try clear hcz37_5
              try clear hcz67_0
              try clear hcz67_1
              try clear hcz67_2
              try clear hcz67_3
              try clear hcz67_4
              try clear hcz67_5
              try clear hcz78_0
              try clear hcz78_1
              try clear hcz78_2
              try clear hcz78_3
              try clear hcz78_4
              try clear hcz78_5
              try clear hfz37_0
              try clear hfz37_1
              try clear hfz37_2
              try clear hfz37_3
              try clear hfz37_4
              try clear hfz37_5
              try clear hfz67_0
              try clear hfz67_1
              try clear hfz67_2
              try clear hfz67_3
              try clear hfz67_4
              try clear hfz67_5
              try clear hfz78_0
              try clear hfz78_1
              try clear hfz78_2
              try clear hfz78_3
              try clear hfz78_4
              try clear hfz78_5
              obtain ⟨kq, x1_5, HA, HJ5, HO_1, BK145, HK, HB⟩ := hcut
              cases kq with
              | zero => exact absurd HA.out (by simp [spec_l14Steps.j1])
              | succ kj5 =>
                have H := HA.out
                clear HA
                simp only [spec_l14Steps.j1] at H
                replace H := Option.bind_eq_some_iff.mp H
                obtain ⟨t236, A820, H⟩ := H
                replace H : (if t236 = true then ((spec_l3Step.f 3 ((rd_T77 l0 x9_1).f2)).bind fun bt237 => (if x1_5.length < 3518437208883 then (spec_l14Steps.l0 kj5 (x1_5 ++ [(⟨bt237.1, bt237.2.1, bt237.2.2⟩ : S95)]) l0 (l0.length : Int) (wrap64 (x9_1 + 1))) else (none))) else (spec_l14Steps.l0 kj5 x1_5 l0 (l0.length : Int) (wrap64 (x9_1 + 1)))) = some r := H
                have A82 := Aside0.mk A820
                clear A820
                by_cases c83 : t236 = true
                · subst c83
                  have H1 : ((spec_l3Step.f 3 ((rd_T77 l0 x9_1).f2)).bind fun bt237 => (if x1_5.length < 3518437208883 then (spec_l14Steps.l0 kj5 (x1_5 ++ [(⟨bt237.1, bt237.2.1, bt237.2.2⟩ : S95)]) l0 (l0.length : Int) (wrap64 (x9_1 + 1))) else (none))) = some r := by rw [if_pos rfl] at H; exact H
                  clear H
                  have H := H1
                  clear H1
                  replace H := Option.bind_eq_some_iff.mp H
                  obtain ⟨⟨t237, t238, t239⟩, A840, H⟩ := H
                  replace H : (if x1_5.length < 3518437208883 then (spec_l14Steps.l0 kj5 (x1_5 ++ [(⟨t237, t238, t239⟩ : S95)]) l0 (l0.length : Int) (wrap64 (x9_1 + 1))) else (none)) = some r := H
                  have A84 := Aside0.mk A840
                  clear A840
                  by_cases c85 : x1_5.length < 3518437208883
                  · rw [if_pos c85] at H
                    have LMc85 := Aside0.mk c85
                    clear c85
                    obtain ⟨y242, hy242⟩ : ∃ y_ : List (S95), y_ = (x1_5 ++ [(⟨t237, t238, t239⟩ : S95)]) := ⟨_, rfl⟩
                    replace H : (spec_l14Steps.l0 kj5 y242 l0 (l0.length : Int) (wrap64 (x9_1 + 1))) = some r := by first | (rw [hy242]; with_reducible exact H) | (have H2_ := (Option.bind_some _ _).symm.trans H; rw [hy242]; with_reducible exact H2_) | (have H2_ := (Option.bind_some _ _).symm.trans H; with_reducible exact H2_) | with_reducible exact H | (rw [hy242]; exact H) | exact H
                    have Ny242 := Aside0.mk hy242
                    clear hy242
                    have H' := Aside0.mk H
                    clear H
                    have hcz86_0 : wc.cell? ⟨gb145, 0, none⟩ = some (.int .i64 ((rd_T77 l0 x9_1).f0)) := (blk_cell BK145.out 0).trans rfl
                    have hcz86_1 : wc.cell? ⟨gb145, 1, none⟩ = some (.int .i64 ((rd_T77 l0 x9_1).f1)) := (blk_cell BK145.out 1).trans rfl
                    have hcz86_2 : wc.cell? ⟨gb145, 2, none⟩ = some (.int .i64 ((rd_T77 l0 x9_1).f2)) := (blk_cell BK145.out 2).trans rfl
                    have hcz86_3 : wc.cell? ⟨gb145, 3, none⟩ = some (.int .i64 ((rd_T77 l0 x9_1).f3)) := (blk_cell BK145.out 3).trans rfl
                    have hcz86_4 : wc.cell? ⟨gb145, 4, none⟩ = some (.int .i64 ((rd_T77 l0 x9_1).f4)) := (blk_cell BK145.out 4).trans rfl
                    have hcz86_5 : wc.cell? ⟨gb145, 5, none⟩ = some (.int .i64 ((rd_T77 l0 x9_1).f5)) := (blk_cell BK145.out 5).trans rfl
                    have hfz86_0 := blk_frozen BK145.out 0
                    have hfz86_1 := blk_frozen BK145.out 1
                    have hfz86_2 := blk_frozen BK145.out 2
                    have hfz86_3 := blk_frozen BK145.out 3
                    have hfz86_4 := blk_frozen BK145.out 4
                    have hfz86_5 := blk_frozen BK145.out 5
                    go_wp2_with (first | ((with_reducible refine gate_callee (f := 61) rfl ?_); refine goesL_ (some 75) rfl rfl Try.func61 (by kernel_rfl) rfl #[.int .i64 ((rd_T77 l0 x9_1).f0)] rfl (by (try simp only [List.map_toArray, List.map_cons, List.map_nil]); first | done | rfl | (simp only [List.length_drop, List.length_take]; rfl)) ?_; (with_reducible refine (spec_l9Sets.calls ((rd_T77 l0 x9_1).f0) true _ A82.out).mono ?_); rintro e w' ⟨rfl, ⟨nd, rfl⟩⟩; refine ⟨_, rfl, ?_⟩) | ((with_reducible refine gate_callee (f := 117) rfl ?_); refine goesL_ (some 79) rfl rfl Try.func117 (by kernel_rfl) rfl #[.int .i64 3, .int .i64 ((rd_T77 l0 x9_1).f2)] rfl (by (try simp only [List.map_toArray, List.map_cons, List.map_nil]); first | done | rfl | (simp only [List.length_drop, List.length_take]; rfl)) ?_; (with_reducible refine (spec_l3Step.calls 3 ((rd_T77 l0 x9_1).f2) t237 t238 t239 _ A84.out).mono ?_); rintro e w87 ⟨v240, rfl, ho0, hb⟩; refine ⟨_, rfl, ?_⟩; have n0_ := Aside0.mk (Kd.N_elder' (by (with_reducible repeat (first | apply Kd.N_alloc | apply Kd.N_drewN | apply Kd.N_drew)); exact HO_1.out) (Kd.R_base ho0) hb); have n1_ := Aside0.mk (Kd.R_lower (Kd.R_newM (M := fun k_ => (P1_ k_ ∨ w.heap.size ≤ k_)) ho0 (by first | exact HK.out.1 | exact (show Kept w _ (fun k_ => P1_ k_) from by repeat (first | (with_reducible first | exact HK.out | apply Kept.alloc | apply Kept.drewN | apply Kept.drew | refine Kept.setCell ?_ (.inr GW145.out) _) | exact HK.out)).1) (fun k_ h_ => .inr h_)) (below_size (by repeat (first | (with_reducible first | exact HB.out | apply below_alloc | apply pw_below_drewN | apply below_drew1 | refine below_set ?_ GE145.out) | exact HB.out)))); have n2_ := Aside0.mk (blk_below (g := gb145) (o := .cells #[.int .i64 ((rd_T77 l0 x9_1).f0), .int .i64 ((rd_T77 l0 x9_1).f1), .int .i64 ((rd_T77 l0 x9_1).f2), .int .i64 ((rd_T77 l0 x9_1).f3), .int .i64 ((rd_T77 l0 x9_1).f4), .int .i64 ((rd_T77 l0 x9_1).f5)] 77 (0, 0)) (by (with_reducible repeat (first | refine blk_drewN ?_ _ | refine blk_drew ?_ | refine blk_alloc ?_ _)); exact BK145.out) hb); have n3_ := Aside0.mk (Kept.below (S := (fun k_ => P1_ k_)) (by repeat (first | (with_reducible first | exact HK.out | apply Kept.alloc | apply Kept.drewN | apply Kept.drew | refine Kept.setCell ?_ (.inr GW145.out) _) | exact HK.out)) hb); have n4_ := Aside0.mk (below_step (by repeat (first | (with_reducible first | exact HB.out | apply below_alloc | apply pw_below_drewN | apply below_drew1 | refine below_set ?_ GE145.out) | exact HB.out)) hb); clear HO_1; clear BK145; clear HK; clear HB; have HO_1 := n0_; have HO241 := n1_; have BK145 := n2_; have HK := n3_; have HB := n4_; clear n0_ n1_ n2_ n3_ n4_; (try clear hb); (try clear hb2); (try clear hk); (try clear hi); (try clear ho0); obtain ⟨Ao89, co89, eo89⟩ := Kd.R_slice HO241.out; subst eo89) | ((with_reducible refine gate_builtin (b := .append) (xs := #[.tmp 76, .tmp 80]) rfl ?_); at_builtin; refine Kd.N_append k95 w.heap.size rfl (.tmp 76) (.tmp 80) 38 95 (.agg #[(.int .i64 0), (.int .i64 0), (.slice none 0 0)]) 40 rfl Try.underlying38 info95 rfl (by decide) (by omega) u1 x1_5 (⟨t237, t238, t239⟩ : S95) [.int .i64 t237, .int .i64 t238, .slice Ao89 t239.length co89] (fun k_ => (P1_ k_ ∨ w.heap.size ≤ k_) ∧ k_ ≠ gb145) (fun k_ => ((fun k_ => (P1_ k_ ∨ w.heap.size ≤ k_) ∧ k_ ≠ gb145)) k_ ∧ some k_ ≠ (u1 : Value).ownBlock) rfl rfl ?aP (fun _ hk => hk) ?aF ?aO (Below.refl _ _) ?aS ?aL ?_; (case aP => exact (k95_mkF _ _ (⟨t237, t238, t239⟩ : S95) (Kd.R_reads' (Kd.R_mono (ok' := (fun k_ => ((fun k_ => (P1_ k_ ∨ w.heap.size ≤ k_) ∧ k_ ≠ gb145)) k_ ∧ some k_ ≠ (u1 : Value).ownBlock)) (Kd.R_types (Kd.R_apart' (HO241.out) (Kd.N_typed HO_1.out) (by decide)) BK145.out (by decide)) (fun k_ hk => ⟨⟨hk.1.1.1, hk.2⟩, hk.1.2⟩))).2.1 (Kd.R_F (Kd.R_mono (ok' := (fun k_ => ((fun k_ => (P1_ k_ ∨ w.heap.size ≤ k_) ∧ k_ ≠ gb145)) k_ ∧ some k_ ≠ (u1 : Value).ownBlock)) (Kd.R_types (Kd.R_apart' (HO241.out) (Kd.N_typed HO_1.out) (by decide)) BK145.out (by decide)) (fun k_ hk => ⟨⟨hk.1.1.1, hk.2⟩, hk.1.2⟩))))); (case aF => exact (fun k_ hk => ⟨(.inr (Nat.le_trans (by first | exact HK.out.1 | exact (show Kept w _ (fun k_ => P1_ k_) from by repeat (first | (with_reducible first | exact HK.out | apply Kept.alloc | apply Kept.drewN | apply Kept.drew | refine Kept.setCell ?_ (.inr GW145.out) _) | exact HK.out)).1) hk)), Kd.freshB (g := gb145) (o := .cells #[.int .i64 ((rd_T77 l0 x9_1).f0), .int .i64 ((rd_T77 l0 x9_1).f1), .int .i64 ((rd_T77 l0 x9_1).f2), .int .i64 ((rd_T77 l0 x9_1).f3), .int .i64 ((rd_T77 l0 x9_1).f4), .int .i64 ((rd_T77 l0 x9_1).f5)] 77 (0, 0)) (by (with_reducible repeat (first | refine blk_drewN ?_ _ | refine blk_drew ?_ | refine blk_alloc ?_ _)); exact BK145.out) k_ hk⟩)); (case aO => exact (by (with_reducible repeat (first | apply Kd.N_alloc | apply Kd.N_drewN | apply Kd.N_drew)); exact Kd.N_mono HO_1.out (fun _ hk => ⟨hk.1.1, hk.1.2⟩))); (case aS => exact (by first | exact HK.out.1 | exact (show Kept w _ (fun k_ => P1_ k_) from by repeat (first | (with_reducible first | exact HK.out | apply Kept.alloc | apply Kept.drewN | apply Kept.drew | refine Kept.setCell ?_ (.inr GW145.out) _) | exact HK.out)).1)); (case aL => have := LMc85.out; omega); intro v243 w88 ho hb hg hat; rw [← Ny242.out] at ho; have n0_ := Aside0.mk (blk_grown (g := gb145) (o := .cells #[.int .i64 ((rd_T77 l0 x9_1).f0), .int .i64 ((rd_T77 l0 x9_1).f1), .int .i64 ((rd_T77 l0 x9_1).f2), .int .i64 ((rd_T77 l0 x9_1).f3), .int .i64 ((rd_T77 l0 x9_1).f4), .int .i64 ((rd_T77 l0 x9_1).f5)] 77 (0, 0)) (by (with_reducible repeat (first | refine blk_drewN ?_ _ | refine blk_drew ?_ | refine blk_alloc ?_ _)); exact BK145.out) hg (Kd.N_ne HO_1.out BK145.out (by decide))); have n1_ := Aside0.mk (below_weaken (by repeat (first | (with_reducible first | exact HB.out | apply below_alloc | apply pw_below_drewN | apply below_drew1 | refine below_set ?_ GE145.out) | exact HB.out)) HW0.out hb); have n2_ := Aside0.mk (Kept.of_grown (S := (fun k_ => P1_ k_)) hg (by repeat (first | (with_reducible first | exact HK.out | apply Kept.alloc | apply Kept.drewN | apply Kept.drew | refine Kept.setCell ?_ (.inr GW145.out) _) | exact HK.out)) (fun k_ e_ => .inr (Kd.N_base HO_1.out k_ e_))); have n3_ := Aside0.mk (ho); clear BK145; clear HB; clear HK; clear HO_1; clear HO241; have BK145 := n0_; have HB := n1_; have HK := n2_; have HO244 := n3_; clear n0_ n1_ n2_ n3_; clear ho hb hg hat))
                    go_roundg kj5
                    case measure => have := HK1.out; have := HJ5.out; omega
                    case rel => exact ⟨(y242), (wrap64 (x9_1 + 1)), (by first | rfl | (simp; done) | (simp [*]; done)), H', ⟨by have := HK1.out; have := HJ5.out; omega⟩, ⟨by (with_reducible repeat (first | apply Kd.N_alloc | apply Kd.N_drewN | apply Kd.N_drew)); exact Kd.N_mono HO244.out (fun _ hk => hk.1)⟩, ⟨by repeat (first | (with_reducible first | exact HK.out | apply Kept.alloc | apply Kept.drewN | apply Kept.drew | refine Kept.setCell ?_ (.inr GW145.out) _) | exact HK.out)⟩, ⟨by repeat (first | (with_reducible first | exact HB.out | apply below_alloc | apply pw_below_drewN | apply below_drew1 | refine below_set ?_ GE145.out) | exact HB.out)⟩⟩
                  · rw [if_neg c85] at H
                    exact absurd H (by simp)
                · replace c83 := Bool.eq_false_iff.mpr c83
                  subst c83
                  have H1 : (spec_l14Steps.l0 kj5 x1_5 l0 (l0.length : Int) (wrap64 (x9_1 + 1))) = some r := by rw [if_neg (show ¬ (false = true) by decide)] at H; exact H
                  clear H
                  have H := H1
                  clear H1
                  have H' := Aside0.mk H
                  clear H
                  have hcz90_0 : wc.cell? ⟨gb145, 0, none⟩ = some (.int .i64 ((rd_T77 l0 x9_1).f0)) := (blk_cell BK145.out 0).trans rfl
                  have hcz90_1 : wc.cell? ⟨gb145, 1, none⟩ = some (.int .i64 ((rd_T77 l0 x9_1).f1)) := (blk_cell BK145.out 1).trans rfl
                  have hcz90_2 : wc.cell? ⟨gb145, 2, none⟩ = some (.int .i64 ((rd_T77 l0 x9_1).f2)) := (blk_cell BK145.out 2).trans rfl
                  have hcz90_3 : wc.cell? ⟨gb145, 3, none⟩ = some (.int .i64 ((rd_T77 l0 x9_1).f3)) := (blk_cell BK145.out 3).trans rfl
                  have hcz90_4 : wc.cell? ⟨gb145, 4, none⟩ = some (.int .i64 ((rd_T77 l0 x9_1).f4)) := (blk_cell BK145.out 4).trans rfl
                  have hcz90_5 : wc.cell? ⟨gb145, 5, none⟩ = some (.int .i64 ((rd_T77 l0 x9_1).f5)) := (blk_cell BK145.out 5).trans rfl
                  have hfz90_0 := blk_frozen BK145.out 0
                  have hfz90_1 := blk_frozen BK145.out 1
                  have hfz90_2 := blk_frozen BK145.out 2
                  have hfz90_3 := blk_frozen BK145.out 3
                  have hfz90_4 := blk_frozen BK145.out 4
                  have hfz90_5 := blk_frozen BK145.out 5
                  go_wp2_with (first | ((with_reducible refine gate_callee (f := 61) rfl ?_); refine goesL_ (some 75) rfl rfl Try.func61 (by kernel_rfl) rfl #[.int .i64 ((rd_T77 l0 x9_1).f0)] rfl (by (try simp only [List.map_toArray, List.map_cons, List.map_nil]); first | done | rfl | (simp only [List.length_drop, List.length_take]; rfl)) ?_; (with_reducible refine (spec_l9Sets.calls ((rd_T77 l0 x9_1).f0) false _ A82.out).mono ?_); rintro e w' ⟨rfl, ⟨nd, rfl⟩⟩; refine ⟨_, rfl, ?_⟩))
                  go_roundg kj5
                  case measure => have := HK1.out; have := HJ5.out; omega
                  case rel => exact ⟨(x1_5), (wrap64 (x9_1 + 1)), (by first | rfl | (simp; done) | (simp [*]; done)), H', ⟨by have := HK1.out; have := HJ5.out; omega⟩, ⟨by (with_reducible repeat (first | apply Kd.N_alloc | apply Kd.N_drewN | apply Kd.N_drew)); exact Kd.N_mono HO_1.out (fun _ hk => hk.1)⟩, ⟨by repeat (first | (with_reducible first | exact HK.out | apply Kept.alloc | apply Kept.drewN | apply Kept.drew | refine Kept.setCell ?_ (.inr GW145.out) _) | exact HK.out)⟩, ⟨by repeat (first | (with_reducible first | exact HB.out | apply below_alloc | apply pw_below_drewN | apply below_drew1 | refine below_set ?_ GE145.out) | exact HB.out)⟩⟩
          · rw [if_neg c5] at H
            exact absurd H (by simp)
        · rw [if_neg c4] at H
          exact absurd H (by simp)
      · rw [if_neg c3] at H
        have c3b0 : decide (x9_1 < (l0.length : Int)) = false := decide_eq_false c3
        clear c3
        obtain rfl := Option.some.inj H
        go_wp2
        go_ret
        exact ⟨_, by first | rfl | (simp [errW_none, errW_some] <;> rfl) | (simp [*, errW_none, errW_some] <;> rfl), by (with_reducible repeat (first | apply Kd.N_alloc | apply Kd.N_drewN | apply Kd.N_drew)); exact HO_1.out, by repeat (first | (with_reducible first | exact HB.out | apply below_alloc | apply pw_below_drewN | apply below_drew1) | exact HB.out), by repeat (first | (with_reducible first | exact HK.out | apply Kept.alloc | apply Kept.drewN | apply Kept.drew) | exact HK.out)⟩

end Go.Proofs.Ytipikejhchpfnaa.FS
