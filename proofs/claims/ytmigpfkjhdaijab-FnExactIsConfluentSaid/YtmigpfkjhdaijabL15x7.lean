-- PRINTED by print.py (a twelfth state) out of the translation. Not trusted: Lean checks it.
import Derived.Test.YtmigpfkjhdaijabL15x0
import Derived.Test.YtmigpfkjhdaijabL15x5
import Derived.Test.YtmigpfkjhdaijabL15x6
namespace Go.Proofs.Ytmigpfkjhdaijab.L15
open Go.RowKit Go.Proofs.YtmigpfkjhdaijabW.PrintWords Go.Proofs.YtmigpfkjhdaijabW.PrintLast Go.Proofs.YtmigpfkjhdaijabW.PrintMore
attribute [local go_sem] max2_int min2_int max_two min_two max_three min_three max_four min_four   -- for this text's walks alone
set_option linter.unusedVariables false
set_option linter.unusedSimpArgs false

/-! ### impl_pairs: function 36 -/
mutual
def impl_pairs.l0 : Nat → List (S59) → List (List ByteArray) → List (S59) → Int → Int → Option ((List (List ByteArray)))
  | 0, _, _, _, _, _ => none
  | k + 1, x0, x3, x9, x10, x11 => if x11 < x10 then (if 0 ≤ x11 then (if x11 < (x9.length : Int) then (impl_pairs.l1 k x0 x3 x11 x9 x10 x11 x0 (x0.length : Int) 0 ((rd_T59 x9 x11).f0) ((rd_T59 x9 x11).f1)) else (none)) else (none)) else (some x3)
def impl_pairs.l1 : Nat → List (S59) → List (List ByteArray) → Int → List (S59) → Int → Int → List (S59) → Int → Int → ByteArray → ByteArray → Option ((List (List ByteArray)))
  | 0, _, _, _, _, _, _, _, _, _, _, _ => none
  | k + 1, x0, x3, x4, x9, x10, x11, x16, x17, x18, x209000, x209001 => if x18 < x17 then (if 0 ≤ x18 then (if x18 < (x16.length : Int) then ((impl_overlaps.f k x209000 x209001 ((rd_T59 x16 x18).f0) ((rd_T59 x16 x18).f1) (x4 == x18)).bind fun t211 => (if x3.length + t211.length < 5864062014805 then (impl_pairs.l1 k x0 (x3 ++ t211) x4 x9 x10 x11 x16 x17 (wrap64 (x18 + 1)) x209000 x209001) else (none))) else (none)) else (none)) else (impl_pairs.l0 k x0 x3 x9 x10 (wrap64 (x11 + 1)))
end
def impl_pairs.f (k : Nat) (l0 : List (S59)) : Option ((List (List ByteArray))) := impl_pairs.l0 k l0 (([] : List (List ByteArray))) l0 (l0.length : Int) 0
theorem impl_pairs.mono_l : ∀ k, (∀ y0 y1 y2 y3 y4, LeO (impl_pairs.l0 k y0 y1 y2 y3 y4) (impl_pairs.l0 (k + 1) y0 y1 y2 y3 y4)) ∧ (∀ y0 y1 y2 y3 y4 y5 y6 y7 y8 y9 y10, LeO (impl_pairs.l1 k y0 y1 y2 y3 y4 y5 y6 y7 y8 y9 y10) (impl_pairs.l1 (k + 1) y0 y1 y2 y3 y4 y5 y6 y7 y8 y9 y10))
  | 0 => ⟨fun _ _ _ _ _ r h => by simp [impl_pairs.l0] at h, fun _ _ _ _ _ _ _ _ _ _ _ r h => by simp [impl_pairs.l1] at h⟩
  | k + 1 => by
    obtain ⟨ih0, ih1⟩ := impl_pairs.mono_l k
    refine ⟨?_, ?_⟩
    · intro y0 y1 y2 y3 y4
      unfold impl_pairs.l0
      repeat' first
      | (with_reducible exact ih0 _ _ _ _ _)
      | (with_reducible exact ih1 _ _ _ _ _ _ _ _ _ _ _)
      | (with_reducible exact impl_overlaps.mono _ _ _ _ _ _)
      | (with_reducible exact LeO.refl _)
      | (with_reducible exact LeO.none _)
      | (with_reducible refine LeO.ite ?_ ?_)
      | (with_reducible refine LeO.bind ?_ (fun _ => ?_))
      | exact ih0 _ _ _ _ _
      | exact ih1 _ _ _ _ _ _ _ _ _ _ _
      | exact impl_overlaps.mono _ _ _ _ _ _
      | exact LeO.none _
      | refine LeO.ite ?_ ?_
      | refine LeO.bind ?_ (fun _ => ?_)
    · intro y0 y1 y2 y3 y4 y5 y6 y7 y8 y9 y10
      unfold impl_pairs.l1
      repeat' first
      | (with_reducible exact ih0 _ _ _ _ _)
      | (with_reducible exact ih1 _ _ _ _ _ _ _ _ _ _ _)
      | (with_reducible exact impl_overlaps.mono _ _ _ _ _ _)
      | (with_reducible exact LeO.refl _)
      | (with_reducible exact LeO.none _)
      | (with_reducible refine LeO.ite ?_ ?_)
      | (with_reducible refine LeO.bind ?_ (fun _ => ?_))
      | exact ih0 _ _ _ _ _
      | exact ih1 _ _ _ _ _ _ _ _ _ _ _
      | exact impl_overlaps.mono _ _ _ _ _ _
      | exact LeO.none _
      | refine LeO.ite ?_ ?_
      | refine LeO.bind ?_ (fun _ => ?_)
theorem impl_pairs.mono : ∀ a0 k, LeO (impl_pairs.f k a0) (impl_pairs.f (k + 1) a0) := by
  intro a0 k
  obtain ⟨ih0, ih1⟩ := impl_pairs.mono_l k
  unfold impl_pairs.f
  repeat' first
      | (with_reducible exact ih0 _ _ _ _ _)
      | (with_reducible exact ih1 _ _ _ _ _ _ _ _ _ _ _)
      | (with_reducible exact impl_overlaps.mono _ _ _ _ _ _)
      | (with_reducible exact LeO.refl _)
      | (with_reducible exact LeO.none _)
      | (with_reducible refine LeO.ite ?_ ?_)
      | (with_reducible refine LeO.bind ?_ (fun _ => ?_))
      | exact ih0 _ _ _ _ _
      | exact ih1 _ _ _ _ _ _ _ _ _ _ _
      | exact impl_overlaps.mono _ _ _ _ _ _
      | exact LeO.none _
      | refine LeO.ite ?_ ?_
      | refine LeO.bind ?_ (fun _ => ?_)
set_option maxHeartbeats 8000000 in
set_option maxRecDepth 100000 in
theorem impl_pairs.calls (k : Nat) (A0 : Option Addr) (c0 : Nat) (l0 : List (S59)) (r : List (List ByteArray)) (w : World) (hr0 : Kd.C k59 w A0 l0.length l0) (hc0 : l0.length ≤ c0) (h : impl_pairs.f k l0 = some r) :
    Calls Try.prog 36 #[.slice A0 l0.length c0] w fun e w' => ∃ v0_ : Value, e = .returned (v0_) ∧ Kd.N (Kd.slice 9 Kd.string) 29 w' w.heap.size (fun k_ => (w.heap.size ≤ k_)) v0_ r ∧ Below w.heap.size w w' := by
  have hu59 := Try.underlying59
  have HR0 := Aside0.mk hr0
  have HC0 := Aside0.mk hc0
  clear hr0 hc0
  have HB := Aside0.mk (Below.refl w.heap.size w)
  have H : (impl_pairs.l0 k l0 (([] : List (List ByteArray))) l0 (l0.length : Int) 0) = some r := h
  clear h
  obtain ⟨y204, hy204⟩ : ∃ y_ : List (List ByteArray), y_ = (([] : List (List ByteArray))) := ⟨_, rfl⟩
  replace H : (impl_pairs.l0 k l0 y204 l0 (l0.length : Int) 0) = some r := by first | (rw [hy204]; with_reducible exact H) | (have H2_ := (Option.bind_some _ _).symm.trans H; rw [hy204]; with_reducible exact H2_) | (have H2_ := (Option.bind_some _ _).symm.trans H; with_reducible exact H2_) | with_reducible exact H | (rw [hy204]; exact H) | exact H
  have Ny204 := Aside0.mk hy204
  clear hy204
  have H' := Aside0.mk H
  clear H
  go_enter Try.func36, Try.ntmps36
  go_wp2_with (first | ((with_reducible refine gate_dst (N := 8) rfl ?_); refine Kd.N_lit (Kd.slice 9 Kd.string) _ 29 ?hg (N' := 8) ?hd (xs := ([] : List (List ByteArray))) (inner := []) (ok := (fun k_ => (w.heap.size ≤ k_))) (okp := (fun k_ => (w.heap.size ≤ k_))) ?hr ?hp (fun _ hk => hk) ((show ∀ k_, w.heap.size ≤ k_ → (fun k_ => (w.heap.size ≤ k_)) k_ from fun k_ hk => (Nat.le_trans (below_size (by repeat (first | (with_reducible first | exact HB.out | apply below_alloc | apply pw_below_drewN | apply below_drew1) | exact HB.out))) hk)) _ (Nat.le_refl _)) (Below.refl _ _) (Nat.le_refl _) (by simp) ?_; (case hd => rfl); (case hg => rfl); (case hr => first | (go_simp; done) | (go_simp; rfl)); (case hp => exact (Reps.none _ _)); intro v205 w2 ho3 hb hg_ hnew_; clear hg_ hnew_; (first | rw [← Ny204.out] at ho3 | (simp only [Int.reduceToNat] at ho3; rw [← Ny204.out] at ho3)); have n0_ := Aside0.mk (Kd.N_lower ho3 (below_size (by repeat (first | (with_reducible first | exact HB.out | apply below_alloc | apply pw_below_drewN | apply below_drew1) | exact HB.out)))); have n1_ := Aside0.mk (below_step (by repeat (first | (with_reducible first | exact HB.out | apply below_alloc | apply pw_below_drewN | apply below_drew1) | exact HB.out)) hb); clear HB; have HO206 := n0_; have HB := n1_; clear n0_ n1_; clear hb ho3))
  go_loopg [3, 11] k (fun kq v3 v11 w' => ∃ (x3_1 : List (List ByteArray)) (x11_1 : Int), v11 = .int .i64 x11_1 ∧ Aside0 (impl_pairs.l0 kq l0 x3_1 l0 (l0.length : Int) x11_1 = some r) ∧ Aside0 (kq ≤ k) ∧ Aside0 (Kd.N (Kd.slice 9 Kd.string) 29 w' w.heap.size (fun k_ => (w.heap.size ≤ k_)) v3 x3_1) ∧ Aside0 (Below w.heap.size w w'))
  case atStart => exact ⟨(y204), (0), (by first | rfl | (simp; done) | (simp [*]; done)), H', ⟨Nat.le_refl _⟩, ⟨by (with_reducible repeat (first | apply Kd.N_alloc | apply Kd.N_drewN | apply Kd.N_drew)); exact HO206.out⟩, ⟨by repeat (first | (with_reducible first | exact HB.out | apply below_alloc | apply pw_below_drewN | apply below_drew1) | exact HB.out)⟩⟩
  case round =>
    clear H'
    try clear p2
    try clear c3
    obtain ⟨x3_1, x11_1, rfl, HA, HK1, HO_3, HB⟩ := hrel
    cases gk with
    | zero => exact absurd HA.out (by simp [impl_pairs.l0])
    | succ k1 =>
      have H := HA.out
      clear HA
      simp only [impl_pairs.l0] at H
      by_cases c4 : x11_1 < (l0.length : Int)
      · rw [if_pos c4] at H
        have c4b0 : decide (x11_1 < (l0.length : Int)) = true := decide_eq_true c4
        clear c4
        by_cases c5 : 0 ≤ x11_1
        · rw [if_pos c5] at H
          have c5b0 : decide (0 ≤ x11_1) = true := decide_eq_true c5
          clear c5
          by_cases c6 : x11_1 < (l0.length : Int)
          · rw [if_pos c6] at H
            have c6b0 : decide (x11_1 < (l0.length : Int)) = true := decide_eq_true c6
            clear c6
            have H' := Aside0.mk H
            clear H
            have p207 : 0 ≤ (x11_1 : Int) := of_decide_eq_true (by first | (with_reducible assumption) | assumption)
            have q207 : x11_1 < (l0.length : Int) := of_decide_eq_true (by first | (with_reducible assumption) | assumption)
            obtain ⟨ad207, e207, hx207_0, hx207_1⟩ := at_T59 HR0.out x11_1 p207 q207
            cases e207
            replace hx207_0 := (HB.out.cell (World.block_lt_of_cell? w _ hx207_0)).trans hx207_0
            replace hx207_1 := (HB.out.cell (World.block_lt_of_cell? w _ hx207_1)).trans hx207_1
            replace p207 := eq_true p207
            replace q207 := eq_true q207
            go_wp2_with (first | ((with_reducible refine gate_dst (N := 5) rfl ?_); refine box_event ?hg (N := 5) ?hd (cs := #[.string (⟨#[]⟩ : ByteArray), .string (⟨#[]⟩ : ByteArray)]) (t := 59) ?hr ?_; (case hd => rfl); (case hg => rfl); (case hr => first | (go_simp; done) | (go_simp; rfl)); intro gb208 hg w7 hbox hb; have n0_ := Aside0.mk (Kd.N_below (Kd.N_elderB (by (with_reducible repeat (first | apply Kd.N_alloc | apply Kd.N_drewN | apply Kd.N_drew)); exact HO_3.out) gb208 (Nat.le_of_eq hg.symm)) hb); have n1_ := Aside0.mk (below_step (by repeat (first | (with_reducible first | exact HB.out | apply below_alloc | apply pw_below_drewN | apply below_drew1) | exact HB.out)) hb); have n2_ := Aside0.mk (hbox); have n3_ := Aside0.mk ((by rw [hg]; exact (below_size (by repeat (first | (with_reducible first | exact HB.out | apply below_alloc | apply pw_below_drewN | apply below_drew1) | exact HB.out))) : w.heap.size ≤ gb208)); have n4_ := Aside0.mk ((by rw [hg]; exact (below_size (by repeat (first | (with_reducible first | exact HB.out | apply below_alloc | apply pw_below_drewN | apply below_drew1) | exact HB.out))) : w.heap.size ≤ gb208)); clear HO_3; clear HB; have HO_3 := n0_; have HB := n1_; have BK208 := n2_; have GW208 := n3_; have GE208 := n4_; clear n0_ n1_ n2_ n3_ n4_; clear hb hbox hg; have hcz8_0 : w7.cell? ⟨gb208, 0, none⟩ = some (.string (⟨#[]⟩ : ByteArray)) := (blk_cell BK208.out 0).trans rfl; have hcz8_1 : w7.cell? ⟨gb208, 1, none⟩ = some (.string (⟨#[]⟩ : ByteArray)) := (blk_cell BK208.out 1).trans rfl; have hfz8_0 := blk_frozen BK208.out 0; have hfz8_1 := blk_frozen BK208.out 1))
            go_loopg [3, 18] k1 (fun kq v3 v18 w' => ∃ (x3_2 : List (List ByteArray)) (x18_2 : Int), v18 = .int .i64 x18_2 ∧ Aside0 (impl_pairs.l1 kq l0 x3_2 x11_1 l0 (l0.length : Int) x11_1 l0 (l0.length : Int) x18_2 ((rd_T59 l0 x11_1).f0) ((rd_T59 l0 x11_1).f1) = some r) ∧ Aside0 (kq ≤ k1) ∧ Aside0 (Kd.N (Kd.slice 9 Kd.string) 29 w' w.heap.size (fun k_ => (w.heap.size ≤ k_) ∧ k_ ≠ gb208) v3 x3_2) ∧ Aside0 (w'.heap[gb208]? = some (.cells #[.string ((rd_T59 l0 x11_1).f0), .string ((rd_T59 l0 x11_1).f1)] 59 (0, 0))) ∧ Aside0 (Below w.heap.size w w'))
            case atStart => exact ⟨(x3_1), (0), (by first | rfl | (simp; done) | (simp [*]; done)), H', ⟨Nat.le_refl _⟩, ⟨by (with_reducible repeat (first | apply Kd.N_alloc | apply Kd.N_drewN | apply Kd.N_drew)); exact Kd.N_mono (Kd.N_far (p := ⟨gb208, 1, none⟩) (Kd.N_far (p := ⟨gb208, 0, none⟩) (Kd.N_mono HO_3.out (fun k_ hk => (⟨hk, hk.2⟩ : _ ∧ k_ ≠ gb208))) (fun _ hk => hk.2) (.string ((rd_T59 l0 x11_1).f0))) (fun _ hk => hk.2) (.string ((rd_T59 l0 x11_1).f1))) (fun _ hk => ⟨hk.1.1, hk.1.2⟩)⟩, ⟨by (with_reducible repeat (first | refine blk_drewN ?_ _ | refine blk_drew ?_ | refine blk_alloc ?_ _)); refine blk_put (cs := #[.string ((rd_T59 l0 x11_1).f0), .string (⟨#[]⟩ : ByteArray)]) ?_ 1 _ rfl; (with_reducible repeat (first | refine blk_drewN ?_ _ | refine blk_drew ?_ | refine blk_alloc ?_ _)); refine blk_put (cs := #[.string (⟨#[]⟩ : ByteArray), .string (⟨#[]⟩ : ByteArray)]) ?_ 0 _ rfl; (with_reducible repeat (first | refine blk_drewN ?_ _ | refine blk_drew ?_ | refine blk_alloc ?_ _)); exact BK208.out⟩, ⟨by repeat (first | (with_reducible first | exact HB.out | apply below_alloc | apply pw_below_drewN | apply below_drew1 | refine below_set ?_ GE208.out) | exact HB.out)⟩⟩
            case round =>
              clear H'
              try clear p2
              try clear q2
              try clear hx2
              try clear c3
              try clear c4
              try clear c4b0
              try clear c5
              try clear c5b0
              try clear c6
              try clear c6b0
              try clear hcz8_0
              try clear hcz8_1
              try clear hfz8_0
              try clear hfz8_1
              try clear hx207_0
              try clear hx207_1
              try clear p2
              try clear p207
              try clear q207
              obtain ⟨x3_2, x18_2, rfl, HA, HK2, HO_3, BK208, HB⟩ := hrel
              cases gk with
              | zero => exact absurd HA.out (by simp [impl_pairs.l1])
              | succ k2 =>
                have H := HA.out
                clear HA
                simp only [impl_pairs.l1] at H
                by_cases c9 : x18_2 < (l0.length : Int)
                · rw [if_pos c9] at H
                  have c9b0 : decide (x18_2 < (l0.length : Int)) = true := decide_eq_true c9
                  clear c9
                  by_cases c10 : 0 ≤ x18_2
                  · rw [if_pos c10] at H
                    have c10b0 : decide (0 ≤ x18_2) = true := decide_eq_true c10
                    clear c10
                    by_cases c11 : x18_2 < (l0.length : Int)
                    · rw [if_pos c11] at H
                      have c11b0 : decide (x18_2 < (l0.length : Int)) = true := decide_eq_true c11
                      clear c11
                      replace H := Option.bind_eq_some_iff.mp H
                      obtain ⟨t211, A120, H⟩ := H
                      replace H : (if x3_2.length + t211.length < 5864062014805 then (impl_pairs.l1 k2 l0 (x3_2 ++ t211) x11_1 l0 (l0.length : Int) x11_1 l0 (l0.length : Int) (wrap64 (x18_2 + 1)) ((rd_T59 l0 x11_1).f0) ((rd_T59 l0 x11_1).f1)) else (none)) = some r := H
                      have A12 := Aside0.mk A120
                      clear A120
                      by_cases c13 : x3_2.length + t211.length < 5864062014805
                      · rw [if_pos c13] at H
                        have LMc13 := Aside0.mk c13
                        clear c13
                        obtain ⟨y214, hy214⟩ : ∃ y_ : List (List ByteArray), y_ = (x3_2 ++ t211) := ⟨_, rfl⟩
                        replace H : (impl_pairs.l1 k2 l0 y214 x11_1 l0 (l0.length : Int) x11_1 l0 (l0.length : Int) (wrap64 (x18_2 + 1)) ((rd_T59 l0 x11_1).f0) ((rd_T59 l0 x11_1).f1)) = some r := by first | (rw [hy214]; with_reducible exact H) | (have H2_ := (Option.bind_some _ _).symm.trans H; rw [hy214]; with_reducible exact H2_) | (have H2_ := (Option.bind_some _ _).symm.trans H; with_reducible exact H2_) | with_reducible exact H | (rw [hy214]; exact H) | exact H
                        have Ny214 := Aside0.mk hy214
                        clear hy214
                        have H' := Aside0.mk H
                        clear H
                        have p209 : 0 ≤ (x18_2 : Int) := of_decide_eq_true (by first | (with_reducible assumption) | assumption)
                        have q209 : x18_2 < (l0.length : Int) := of_decide_eq_true (by first | (with_reducible assumption) | assumption)
                        obtain ⟨ad209, e209, hx209_0, hx209_1⟩ := at_T59 HR0.out x18_2 p209 q209
                        obtain rfl : ad207 = ad209 := (by injection e209)
                        replace hx209_0 := (HB.out.cell (World.block_lt_of_cell? w _ hx209_0)).trans hx209_0
                        replace hx209_1 := (HB.out.cell (World.block_lt_of_cell? w _ hx209_1)).trans hx209_1
                        replace p209 := eq_true p209
                        replace q209 := eq_true q209
                        go_wp2_with (first | ((with_reducible refine gate_dst (N := 7) rfl ?_); refine box_event ?hg (N := 7) ?hd (cs := #[.string (⟨#[]⟩ : ByteArray), .string (⟨#[]⟩ : ByteArray)]) (t := 59) ?hr ?_; (case hd => rfl); (case hg => rfl); (case hr => first | (go_simp; done) | (go_simp; rfl)); intro gb210 hg w14 hbox hb; have n0_ := Aside0.mk (Kd.N_below (Kd.N_elderB (by (with_reducible repeat (first | apply Kd.N_alloc | apply Kd.N_drewN | apply Kd.N_drew)); exact HO_3.out) gb210 (Nat.le_of_eq hg.symm)) hb); have n1_ := Aside0.mk (blk_below (g := gb208) (o := .cells #[.string ((rd_T59 l0 x11_1).f0), .string ((rd_T59 l0 x11_1).f1)] 59 (0, 0)) (by (with_reducible repeat (first | refine blk_drewN ?_ _ | refine blk_drew ?_ | refine blk_alloc ?_ _)); exact BK208.out) hb); have n2_ := Aside0.mk (below_step (by repeat (first | (with_reducible first | exact HB.out | apply below_alloc | apply pw_below_drewN | apply below_drew1 | refine below_set ?_ GE208.out) | exact HB.out)) hb); have n3_ := Aside0.mk (hbox); have n4_ := Aside0.mk ((by rw [hg]; exact (below_size (by repeat (first | (with_reducible first | exact HB.out | apply below_alloc | apply pw_below_drewN | apply below_drew1 | refine below_set ?_ GE208.out) | exact HB.out))) : w.heap.size ≤ gb210)); have n5_ := Aside0.mk ((by rw [hg]; exact (below_size (by repeat (first | (with_reducible first | exact HB.out | apply below_alloc | apply pw_below_drewN | apply below_drew1 | refine below_set ?_ GE208.out) | exact HB.out))) : w.heap.size ≤ gb210)); have n6_ := Aside0.mk ((by rw [hg]; exact Nat.ne_of_lt (blk_lt (g := gb208) (o := .cells #[.string ((rd_T59 l0 x11_1).f0), .string ((rd_T59 l0 x11_1).f1)] 59 (0, 0)) (by (with_reducible repeat (first | refine blk_drewN ?_ _ | refine blk_drew ?_ | refine blk_alloc ?_ _)); exact BK208.out)) : gb208 ≠ gb210)); have n7_ := Aside0.mk ((by rw [hg]; exact Nat.ne_of_gt (blk_lt (g := gb208) (o := .cells #[.string ((rd_T59 l0 x11_1).f0), .string ((rd_T59 l0 x11_1).f1)] 59 (0, 0)) (by (with_reducible repeat (first | refine blk_drewN ?_ _ | refine blk_drew ?_ | refine blk_alloc ?_ _)); exact BK208.out)) : gb210 ≠ gb208)); clear HO_3; clear BK208; clear HB; have HO_3 := n0_; have BK208 := n1_; have HB := n2_; have BK210 := n3_; have GW210 := n4_; have GE210 := n5_; have NB208_210 := n6_; have NB210_208 := n7_; clear n0_ n1_ n2_ n3_ n4_ n5_ n6_ n7_; clear hb hbox hg; have hnb15 := NB210_208.out; have hnc15 := NB208_210.out; have hcz16_0 : w14.cell? ⟨gb210, 0, none⟩ = some (.string (⟨#[]⟩ : ByteArray)) := (blk_cell BK210.out 0).trans rfl; have hcz16_1 : w14.cell? ⟨gb210, 1, none⟩ = some (.string (⟨#[]⟩ : ByteArray)) := (blk_cell BK210.out 1).trans rfl; have hfz16_0 := blk_frozen BK210.out 0; have hfz16_1 := blk_frozen BK210.out 1; have hcz17_0 : w14.cell? ⟨gb208, 0, none⟩ = some (.string ((rd_T59 l0 x11_1).f0)) := (blk_cell BK208.out 0).trans rfl; have hcz17_1 : w14.cell? ⟨gb208, 1, none⟩ = some (.string ((rd_T59 l0 x11_1).f1)) := (blk_cell BK208.out 1).trans rfl; have hfz17_0 := blk_frozen BK208.out 0; have hfz17_1 := blk_frozen BK208.out 1) | ((with_reducible refine gate_callee (f := 60) rfl ?_); refine goesL_ (some 29) rfl rfl Try.func60 (by kernel_rfl) rfl #[.agg #[.string ((rd_T59 l0 x11_1).f0), .string ((rd_T59 l0 x11_1).f1)], .agg #[.string ((rd_T59 l0 x18_2).f0), .string ((rd_T59 l0 x18_2).f1)], .bool (x11_1 == x18_2)] rfl (by (try simp only [List.map_toArray, List.map_cons, List.map_nil]); first | done | rfl | (simp only [List.length_drop, List.length_take]; rfl)) ?_; (with_reducible refine (impl_overlaps.calls k2 ((rd_T59 l0 x11_1).f0) ((rd_T59 l0 x11_1).f1) ((rd_T59 l0 x18_2).f0) ((rd_T59 l0 x18_2).f1) (x11_1 == x18_2) t211 _ A12.out).mono ?_); rintro e w18 ⟨v212, rfl, ho0, hb⟩; refine ⟨_, rfl, ?_⟩; have n0_ := Aside0.mk (Kd.N_elder' (by (with_reducible repeat (first | apply Kd.N_alloc | apply Kd.N_drewN | apply Kd.N_drew)); exact (Kd.N_mono (Kd.N_far (p := ⟨gb210, 1, none⟩) (Kd.N_far (p := ⟨gb210, 0, none⟩) (Kd.N_mono HO_3.out (fun k_ hk => (⟨hk, hk.2⟩ : _ ∧ k_ ≠ gb210))) (fun _ hk => hk.2) (.string ((rd_T59 l0 x18_2).f0))) (fun _ hk => hk.2) (.string ((rd_T59 l0 x18_2).f1))) (fun _ h_ => h_.1))) (by first | exact Kd.N_base ho0 | exact Kd.S_base ho0) hb); have n1_ := Aside0.mk (Kd.N_lower (Kd.N_mono (ok' := fun k_ => (w.heap.size ≤ k_) ∧ some k_ ≠ (u3 : Value).ownBlock ∧ k_ ≠ gb208 ∧ k_ ≠ gb210) (Kd.S_N (Kd.S_bound ho0)) (fun k_ hk_ => ⟨(Nat.le_trans (below_size (by repeat (first | (with_reducible first | exact HB.out | apply below_alloc | apply pw_below_drewN | apply below_drew1 | refine below_set ?_ GE208.out | refine below_set ?_ GE210.out) | exact HB.out))) hk_.2.1), (Kd.fresh' (Kd.N_lt (by (with_reducible repeat (first | apply Kd.N_alloc | apply Kd.N_drewN | apply Kd.N_drew)); exact (Kd.N_mono (Kd.N_far (p := ⟨gb210, 1, none⟩) (Kd.N_far (p := ⟨gb210, 0, none⟩) (Kd.N_mono HO_3.out (fun k_ hk => (⟨hk, hk.2⟩ : _ ∧ k_ ≠ gb210))) (fun _ hk => hk.2) (.string ((rd_T59 l0 x18_2).f0))) (fun _ hk => hk.2) (.string ((rd_T59 l0 x18_2).f1))) (fun _ h_ => h_.1)))) k_ hk_.2.1), (Kd.freshB (g := gb208) (o := .cells #[.string ((rd_T59 l0 x11_1).f0), .string ((rd_T59 l0 x11_1).f1)] 59 (0, 0)) (by (with_reducible repeat (first | refine blk_drewN ?_ _ | refine blk_drew ?_ | refine blk_alloc ?_ _)); refine blk_far ?_ NB208_210.out _; (with_reducible repeat (first | refine blk_drewN ?_ _ | refine blk_drew ?_ | refine blk_alloc ?_ _)); refine blk_far ?_ NB208_210.out _; (with_reducible repeat (first | refine blk_drewN ?_ _ | refine blk_drew ?_ | refine blk_alloc ?_ _)); exact BK208.out) k_ hk_.2.1), (Kd.freshB (g := gb210) (o := .cells #[.string ((rd_T59 l0 x18_2).f0), .string ((rd_T59 l0 x18_2).f1)] 59 (0, 0)) (by (with_reducible repeat (first | refine blk_drewN ?_ _ | refine blk_drew ?_ | refine blk_alloc ?_ _)); refine blk_put (cs := #[.string ((rd_T59 l0 x18_2).f0), .string (⟨#[]⟩ : ByteArray)]) ?_ 1 _ rfl; (with_reducible repeat (first | refine blk_drewN ?_ _ | refine blk_drew ?_ | refine blk_alloc ?_ _)); refine blk_put (cs := #[.string (⟨#[]⟩ : ByteArray), .string (⟨#[]⟩ : ByteArray)]) ?_ 0 _ rfl; (with_reducible repeat (first | refine blk_drewN ?_ _ | refine blk_drew ?_ | refine blk_alloc ?_ _)); exact BK210.out) k_ hk_.2.1)⟩)) (below_size (by repeat (first | (with_reducible first | exact HB.out | apply below_alloc | apply pw_below_drewN | apply below_drew1 | refine below_set ?_ GE208.out | refine below_set ?_ GE210.out) | exact HB.out)))); have n2_ := Aside0.mk (blk_below (g := gb208) (o := .cells #[.string ((rd_T59 l0 x11_1).f0), .string ((rd_T59 l0 x11_1).f1)] 59 (0, 0)) (by (with_reducible repeat (first | refine blk_drewN ?_ _ | refine blk_drew ?_ | refine blk_alloc ?_ _)); refine blk_far ?_ NB208_210.out _; (with_reducible repeat (first | refine blk_drewN ?_ _ | refine blk_drew ?_ | refine blk_alloc ?_ _)); refine blk_far ?_ NB208_210.out _; (with_reducible repeat (first | refine blk_drewN ?_ _ | refine blk_drew ?_ | refine blk_alloc ?_ _)); exact BK208.out) hb); have n3_ := Aside0.mk (blk_below (g := gb210) (o := .cells #[.string ((rd_T59 l0 x18_2).f0), .string ((rd_T59 l0 x18_2).f1)] 59 (0, 0)) (by (with_reducible repeat (first | refine blk_drewN ?_ _ | refine blk_drew ?_ | refine blk_alloc ?_ _)); refine blk_put (cs := #[.string ((rd_T59 l0 x18_2).f0), .string (⟨#[]⟩ : ByteArray)]) ?_ 1 _ rfl; (with_reducible repeat (first | refine blk_drewN ?_ _ | refine blk_drew ?_ | refine blk_alloc ?_ _)); refine blk_put (cs := #[.string (⟨#[]⟩ : ByteArray), .string (⟨#[]⟩ : ByteArray)]) ?_ 0 _ rfl; (with_reducible repeat (first | refine blk_drewN ?_ _ | refine blk_drew ?_ | refine blk_alloc ?_ _)); exact BK210.out) hb); have n4_ := Aside0.mk (below_step (by repeat (first | (with_reducible first | exact HB.out | apply below_alloc | apply pw_below_drewN | apply below_drew1 | refine below_set ?_ GE208.out | refine below_set ?_ GE210.out) | exact HB.out)) hb); clear HO_3; clear BK208; clear BK210; clear HB; have HO_3 := n0_; have HO213 := n1_; have BK208 := n2_; have BK210 := n3_; have HB := n4_; clear n0_ n1_ n2_ n3_ n4_; (try clear hb); (try clear hb2); (try clear hk); (try clear hi); (try clear ho0); obtain ⟨Ao20, co20, eo20⟩ := Kd.N_slice HO213.out; subst eo20) | ((with_reducible refine gate_builtin (b := .append) (xs := #[.tmp 23, .tmp 29]) rfl ?_); at_builtin; refine Kd.N_append_rows (Kd.slice 9 Kd.string) (w0 := w) w.heap.size rfl (.tmp 23) (.tmp 29) 25 29 (.slice none 0 0) 24 rfl Try.underlying25 info29 rfl (by decide) (by omega) u3 x3_2 t211 _ _ _ (fun k_ => (w.heap.size ≤ k_) ∧ k_ ≠ gb208 ∧ k_ ≠ gb210) (fun k_ => ((fun k_ => (w.heap.size ≤ k_) ∧ k_ ≠ gb208 ∧ k_ ≠ gb210)) k_ ∧ some k_ ≠ (u3 : Value).ownBlock) rfl rfl ?aO ?aR (fun _ hk => hk) ?aF ?aB ?aS ?aL ?_; (case aR => exact (by skip; exact Kd.N_F (Kd.N_mono (ok' := (fun k_ => ((fun k_ => (w.heap.size ≤ k_) ∧ k_ ≠ gb208 ∧ k_ ≠ gb210)) k_ ∧ some k_ ≠ (u3 : Value).ownBlock)) (HO213.out) (fun k_ hk => ⟨⟨hk.1, ⟨hk.2.2.1, hk.2.2.2⟩⟩, hk.2.1⟩)))); (case aB => exact (by repeat (first | (with_reducible first | exact HB.out | apply below_alloc | apply pw_below_drewN | apply below_drew1 | refine below_set ?_ GE208.out | refine below_set ?_ GE210.out) | exact HB.out))); (case aF => exact (fun k_ hk => ⟨(Nat.le_trans (below_size (by repeat (first | (with_reducible first | exact HB.out | apply below_alloc | apply pw_below_drewN | apply below_drew1 | refine below_set ?_ GE208.out | refine below_set ?_ GE210.out) | exact HB.out))) hk), Kd.freshB (g := gb208) (o := .cells #[.string ((rd_T59 l0 x11_1).f0), .string ((rd_T59 l0 x11_1).f1)] 59 (0, 0)) (by (with_reducible repeat (first | refine blk_drewN ?_ _ | refine blk_drew ?_ | refine blk_alloc ?_ _)); exact BK208.out) k_ hk, Kd.freshB (g := gb210) (o := .cells #[.string ((rd_T59 l0 x18_2).f0), .string ((rd_T59 l0 x18_2).f1)] 59 (0, 0)) (by (with_reducible repeat (first | refine blk_drewN ?_ _ | refine blk_drew ?_ | refine blk_alloc ?_ _)); exact BK210.out) k_ hk⟩)); (case aO => exact (by (with_reducible repeat (first | apply Kd.N_alloc | apply Kd.N_drewN | apply Kd.N_drew)); exact Kd.N_mono HO_3.out (fun _ hk => ⟨hk.1.1.1, ⟨hk.1.1.2, hk.1.2⟩⟩))); (case aS => exact (below_size (by repeat (first | (with_reducible first | exact HB.out | apply below_alloc | apply pw_below_drewN | apply below_drew1 | refine below_set ?_ GE208.out | refine below_set ?_ GE210.out) | exact HB.out)))); (case aL => have := LMc13.out; omega); intro v215 w19 ho hb hg hat; rw [← Ny214.out] at ho; have n0_ := Aside0.mk (blk_grown (g := gb208) (o := .cells #[.string ((rd_T59 l0 x11_1).f0), .string ((rd_T59 l0 x11_1).f1)] 59 (0, 0)) (by (with_reducible repeat (first | refine blk_drewN ?_ _ | refine blk_drew ?_ | refine blk_alloc ?_ _)); exact BK208.out) hg (Kd.N_ne HO_3.out BK208.out (by decide))); have n1_ := Aside0.mk (blk_grown (g := gb210) (o := .cells #[.string ((rd_T59 l0 x18_2).f0), .string ((rd_T59 l0 x18_2).f1)] 59 (0, 0)) (by (with_reducible repeat (first | refine blk_drewN ?_ _ | refine blk_drew ?_ | refine blk_alloc ?_ _)); exact BK210.out) hg (Kd.N_ne HO_3.out BK210.out (by decide))); have n2_ := Aside0.mk (Kd.N_afterv (ok := (fun k_ => (w.heap.size ≤ k_) ∧ k_ ≠ gb208 ∧ k_ ≠ gb210)) (by (with_reducible repeat (first | apply Kd.N_alloc | apply Kd.N_drewN | apply Kd.N_drew)); exact Kd.N_mono HO213.out (fun _ hk => ⟨⟨hk.1, ⟨hk.2.2.1, hk.2.2.2⟩⟩, hk.2.1⟩)) hg hat); have n3_ := Aside0.mk (hb); have n4_ := Aside0.mk (ho); clear BK208; clear BK210; clear HO213; clear HB; clear HO_3; have BK208 := n0_; have BK210 := n1_; have HO213 := n2_; have HB := n3_; have HO216 := n4_; clear n0_ n1_ n2_ n3_ n4_; clear ho hb hg hat))
                        go_roundg k2
                        case measure => have := HK1.out; have := HK2.out; omega
                        case rel => exact ⟨(y214), (wrap64 (x18_2 + 1)), (by first | rfl | (simp; done) | (simp [*]; done)), H', ⟨by have := HK1.out; have := HK2.out; omega⟩, ⟨by (with_reducible repeat (first | apply Kd.N_alloc | apply Kd.N_drewN | apply Kd.N_drew)); exact Kd.N_mono HO216.out (fun _ hk => ⟨hk.1, hk.2.1⟩)⟩, ⟨by (with_reducible repeat (first | refine blk_drewN ?_ _ | refine blk_drew ?_ | refine blk_alloc ?_ _)); exact BK208.out⟩, ⟨by repeat (first | (with_reducible first | exact HB.out | apply below_alloc | apply pw_below_drewN | apply below_drew1 | refine below_set ?_ GE208.out | refine below_set ?_ GE210.out) | exact HB.out)⟩⟩
                      · rw [if_neg c13] at H
                        exact absurd H (by simp)
                    · rw [if_neg c11] at H
                      exact absurd H (by simp)
                  · rw [if_neg c10] at H
                    exact absurd H (by simp)
                · rw [if_neg c9] at H
                  have c9b0 : decide (x18_2 < (l0.length : Int)) = false := decide_eq_false c9
                  clear c9
                  have H' := Aside0.mk H
                  clear H
                  go_wp2
                  go_roundg k2
                  case measure => have := HK1.out; have := HK2.out; omega
                  case rel => exact ⟨(x3_2), (wrap64 (x11_1 + 1)), (by first | rfl | (simp; done) | (simp [*]; done)), H', ⟨by have := HK1.out; have := HK2.out; omega⟩, ⟨by (with_reducible repeat (first | apply Kd.N_alloc | apply Kd.N_drewN | apply Kd.N_drew)); exact Kd.N_mono HO_3.out (fun _ hk => hk.1)⟩, ⟨by repeat (first | (with_reducible first | exact HB.out | apply below_alloc | apply pw_below_drewN | apply below_drew1 | refine below_set ?_ GE208.out) | exact HB.out)⟩⟩
          · rw [if_neg c6] at H
            exact absurd H (by simp)
        · rw [if_neg c5] at H
          exact absurd H (by simp)
      · rw [if_neg c4] at H
        have c4b0 : decide (x11_1 < (l0.length : Int)) = false := decide_eq_false c4
        clear c4
        obtain rfl := Option.some.inj H
        go_wp2
        go_ret
        exact ⟨_, by first | rfl | (simp [errW_none, errW_some] <;> rfl) | (simp [*, errW_none, errW_some] <;> rfl), by (with_reducible repeat (first | apply Kd.N_alloc | apply Kd.N_drewN | apply Kd.N_drew)); exact HO_3.out, by repeat (first | (with_reducible first | exact HB.out | apply below_alloc | apply pw_below_drewN | apply below_drew1) | exact HB.out)⟩

/-! ### impl_once: function 64 -/
set_option maxHeartbeats 4000000 in
set_option maxRecDepth 100000 in
theorem impl_all_1.calls (base B : Nat) (hbB : base ≤ B) (v : Value) (xs : List ByteArray) (t : ByteArray) (w : World)
    (hcell : w.heap[B]? = some (.cells #[v] 29 (0, 0))) (HO : Kd.R Kd.string 9 w base (fun _ => True) v xs) (hl : xs.length < 8796093022208) :
    Calls Try.prog 65 #[.string t, .pointer (some ⟨B, 0, none⟩)] w fun e w' => ∃ v1, e = .returned (.bool true) ∧ w'.heap[B]? = some (.cells #[v1] 29 (0, 0)) ∧ Kd.R Kd.string 9 w' base (fun _ => True) v1 (xs ++ [t]) ∧ Below base w w' ∧ KeepBut w w' B v.ownBlock := by
  obtain ⟨Ao, co, rfl⟩ := Kd.R_slice HO
  have hc : w.cell? ⟨B, 0, none⟩ = some (.slice Ao xs.length co) := (blk_cell hcell 0).trans rfl
  have hf := blk_frozen hcell 0
  have hB := blk_lt hcell
  have HC := Aside0.mk hcell
  have HO := Aside0.mk HO
  clear hcell
  go_enter Try.func65, Try.ntmps65
  go_wp2_with ((with_reducible refine gate_builtin (b := .append) (xs := #[.tmp 4, .tmp 6]) rfl ?_); at_builtin; refine Kd.R_append Kd.string (w0 := w) base rfl (.tmp 4) (.tmp 6) 29 9 (.string ⟨#[]⟩) 16 rfl Try.underlying29 info9 rfl (by decide) (by omega) (.slice Ao xs.length co) xs t [.string t] (fun _ => True) (fun _ => False) rfl rfl ?aP (fun _ hk => hk.elim) ?aF ?aO ?aB ?aS ?aL ?_; (case aP => exact rfl); (case aB => exact Below.refl _ _); (case aF => exact (fun _ _ => trivial)); (case aO => exact HO.out); (case aS => omega); (case aL => omega); intro v1 w1 ho hb hg hat; obtain ⟨A1, c1, rfl⟩ := Kd.R_slice ho; have hbl : w1.heap[B]? = some (.cells #[.slice Ao xs.length co] 29 (0, 0)) := blk_grown HC.out hg (Kd.R_ne HO.out HC.out (by decide)); have hc1 : w1.cell? ⟨B, 0, none⟩ = some (.slice Ao xs.length co) := (blk_cell hbl 0).trans rfl; have hf1 := blk_frozen hbl 0; have HO1 := Aside0.mk ho; have HB1 := Aside0.mk hb; have HL1 := Aside0.mk hbl; have HK1 := Aside0.mk (KeepBut.of_grown hg B); clear ho hb hg hat hbl)
  go_ret
  refine ⟨.slice A1 (xs ++ [t]).length c1, rfl, by rw [blk_set HL1.out]; simp, by have h_ := Kd.R_mono (Kd.R_far (p := ⟨B, 0, none⟩) (Kd.R_types HO1.out HL1.out (by decide)) (fun _ hk => hk.2) (.slice A1 (xs ++ [t]).length c1)) (fun _ _ => trivial); simpa using h_, HB1.out.setCell (p := ⟨B, 0, none⟩) hbB _, HK1.out.set_ 0 _⟩
/-- What comes of s by rule r at place i, if the rule can be used there. -/
def onceAt (r : S59) (s : ByteArray) (i : Nat) : Option ByteArray :=
  if (((s.extract i s.size).extract 0 r.f0.size).toList == r.f0.toList) = true then some ((s.extract 0 i ++ r.f1) ++ s.extract (i + r.f0.size) s.size) else none
def onceRule (r : S59) (s : ByteArray) : List ByteArray := (List.range (s.size + 1 - r.f0.size)).filterMap (onceAt r s)
/-- All texts that come of s by one rule at one place. -/
def onceL (l : List (S59)) (s : ByteArray) : List ByteArray := l.flatMap fun r => onceRule r s
theorem onceRule_length (r : S59) (s : ByteArray) : (onceRule r s).length ≤ s.size + 1 := by
  have h_ := List.length_filterMap_le (onceAt r s) (List.range (s.size + 1 - r.f0.size))
  simp only [List.length_range] at h_
  unfold onceRule
  omega
theorem onceL_length (l : List (S59)) (s : ByteArray) : (onceL l s).length ≤ l.length * (s.size + 1) := by
  induction l with
  | nil => simp [onceL]
  | cons r l ih =>
    have h_ := onceRule_length r s
    have e_ : onceL (r :: l) s = onceRule r s ++ onceL l s := rfl
    rw [e_, List.length_append, List.length_cons, Nat.succ_mul]
    omega
set_option maxHeartbeats 4000000 in
set_option maxRecDepth 100000 in
theorem impl_once.calls (B : Nat) (v : Value) (xs : List ByteArray) (A0 : Option Addr) (c0 : Nat) (l0 : List (S59)) (s : ByteArray) (w0 w : World)
    (hr0 : Kd.C k59 w0 A0 l0.length l0) (hc0 : l0.length ≤ c0) (hB : w0.heap.size ≤ B) (hb0 : Below w0.heap.size w0 w)
    (hcell : w.heap[B]? = some (.cells #[v] 29 (0, 0))) (HO : Kd.R Kd.string 9 w w0.heap.size (fun _ => True) v xs)
    (hl8 : l0.length ≤ 8) (hs : s.size ≤ 1000) (hx : xs.length ≤ 1000) (hsz : ∀ r ∈ l0, r.f0.size ≤ 1000 ∧ r.f1.size ≤ 1000) :
    Calls Try.prog 64 #[.slice A0 l0.length c0, .string s, .func (.func 65) #[] #[.pointer (some ⟨B, 0, none⟩)]] w fun e w' => e = .returned (.tuple #[]) ∧ ∃ v1, w'.heap[B]? = some (.cells #[v1] 29 (0, 0)) ∧ Kd.R Kd.string 9 w' w0.heap.size (fun _ => True) v1 (xs ++ onceL l0 s) ∧ Below w0.heap.size w0 w' := by
  have hu := Try.underlying59
  have HR := Aside0.mk hr0
  have HC := Aside0.mk hcell
  have HO := Aside0.mk HO
  have HB := Aside0.mk hb0
  have HS := Aside0.mk hsz
  clear hcell hr0 hb0 hsz
  go_enter Try.func64, Try.ntmps64
  go_wp2
  go_loopg [7, 8, 11] l0.length (fun gg _ _ s11 wr => ∃ (kk : Nat) (v1 : Value), kk ≤ l0.length ∧ l0.length - kk ≤ gg ∧ s11 = .int .i64 kk ∧ Aside0 (wr.heap[B]? = some (.cells #[v1] 29 (0, 0))) ∧ Aside0 (Kd.R Kd.string 9 wr w0.heap.size (fun _ => True) v1 (xs ++ onceL (l0.take kk) s)) ∧ Aside0 (Below w0.heap.size w0 wr))
  case atStart => exact ⟨0, v, Nat.zero_le _, by omega, rfl, HC, ⟨by simpa [onceL] using HO.out⟩, HB⟩
  case round =>
    obtain ⟨kk, v1, hkk, hg, rfl, HC1, HO1, HB1⟩ := hrel
    by_cases hlt : kk < l0.length
    · have hltz : (kk : Int) < (l0.length : Int) := by omega
      obtain ⟨ad, e, hx0, hx1⟩ := at_T59 HR.out kk (by omega) hltz
      cases e
      simp only [Int.toNat_natCast] at hx0 hx1
      replace hx0 := (HB1.out.cell (World.block_lt_of_cell? w0 _ hx0)).trans hx0
      replace hx1 := (HB1.out.cell (World.block_lt_of_cell? w0 _ hx1)).trans hx1
      clear HO HC HB
      have hrs := HS.out (rd_T59 l0 kk) (by simp only [rd_T59, Int.toNat_natCast, List.getD_eq_getElem?_getD, List.getElem?_eq_getElem hlt, Option.getD_some]; exact List.getElem_mem hlt)
      have hL : Aside0 (xs ++ onceL (l0.take (kk + 1)) s = (xs ++ onceL (l0.take kk) s) ++ onceRule (rd_T59 l0 kk) s) := ⟨by
        have e1 : l0.take (kk + 1) = l0.take kk ++ [l0[kk]] := List.take_succ_eq_append_getElem hlt
        have e2 : rd_T59 l0 kk = l0[kk] := by simp [rd_T59, List.getD_eq_getElem?_getD, List.getElem?_eq_getElem hlt]
        unfold onceL
        rw [e2, e1, List.flatMap_append, List.append_assoc, List.flatMap_cons, List.flatMap_nil, List.append_nil]⟩
      have hlen : (xs ++ onceL (l0.take kk) s).length ≤ 10000 := by have h_ := onceL_length (l0.take kk) s; rw [List.length_append]; rw [List.length_take, Nat.min_eq_left hkk] at h_; have h2_ : kk * (s.size + 1) ≤ 8 * 1001 := Nat.mul_le_mul (by omega) (by omega); omega
      generalize rd_T59 l0 kk = q at hx0 hx1 hrs hL
      obtain ⟨q1, q2⟩ := hrs
      generalize xs ++ onceL (l0.take kk) s = ys at HO1 hL hlen
      go_wp2_with fail
      have BK := Aside0.mk (heap_alloc_new wr (.cells #[.string q.f0, .string q.f1] 59))
      have HC2 := Aside0.mk (blk_alloc HC1.out (.cells #[.string q.f0, .string q.f1] 59))
      have HO2 := Aside0.mk (Kd.R_alloc HO1.out (.cells #[.string q.f0, .string q.f1] 59))
      have HB2 := Aside0.mk (below_alloc HB1.out (.cells #[.string q.f0, .string q.f1] 59))
      have hgB : Aside0 (B ≠ wr.heap.size) := ⟨by have := blk_lt HC1.out; omega⟩
      clear hx0 hx1 HC1 HO1 HB1
      generalize wr.alloc (.cells #[.string q.f0, .string q.f1] 59) = W1 at BK HC2 HO2 HB2 ⊢
      generalize wr.heap.size = gb at BK hgB ⊢
      go_loopg [8] (s.size + 1) (fun gg s8 wr => ∃ (j : Nat) (v2 : Value), j ≤ s.size + 1 ∧ s.size + 1 - j ≤ gg ∧ s8 = .int .i64 j ∧ Aside0 (wr.heap[B]? = some (.cells #[v2] 29 (0, 0))) ∧ Aside0 (Kd.R Kd.string 9 wr w0.heap.size (fun _ => True) v2 (ys ++ (List.range j).filterMap (onceAt q s))) ∧ Aside0 (wr.heap[gb]? = some (.cells #[.string q.f0, .string q.f1] 59 (0, 0))) ∧ Aside0 (Below w0.heap.size w0 wr) ∧ Aside0 (j = 0 ∨ j + q.f0.size ≤ s.size + 1))
      case atStart => exact ⟨0, v1, Nat.zero_le _, by omega, rfl, HC2, ⟨by simpa using HO2.out⟩, BK, HB2, ⟨.inl rfl⟩⟩
      case round =>
        clear HC2 HO2 BK HB2
        obtain ⟨j, v2, hj, hg2, rfl, HC3, HO3, BK3, HB3, HJ⟩ := hrel
        have hcz0 : wr.cell? ⟨gb, 0, none⟩ = some (.string q.f0) := (blk_cell BK3.out 0).trans rfl
        have hcz1 : wr.cell? ⟨gb, 1, none⟩ = some (.string q.f1) := (blk_cell BK3.out 1).trans rfl
        by_cases hlt2 : j + q.f0.size ≤ s.size
        · have t1 : decide (j + q.f0.size ≤ s.size) = true := by simpa using hlt2
          have t2 : decide ((j : Int) + (q.f0.size : Int) ≤ (s.size : Int)) = true := by simp; omega
          obtain ⟨b, hb⟩ : ∃ b : Bool, b = (((s.extract j s.size).extract 0 q.f0.size).toList == q.f0.toList) := ⟨_, rfl⟩
          have hp : strings_HasPrefix.f (s.extract j s.size) q.f0 = some b := by
            have h1 : (s.extract j s.size).size = s.size - j := by simp
            unfold strings_HasPrefix.f stringslite_HasPrefix.f
            rw [if_pos (by omega), if_pos (by omega), if_pos (by omega), hb]
            simp
          have HP := Aside0.mk hp
          have HA : Aside0 (onceAt q s j = if b = true then some ((s.extract 0 j ++ q.f1) ++ s.extract (j + q.f0.size) s.size) else none) := ⟨by rw [hb]; rfl⟩
          clear hp hb
          have i0 : (0 : Int) ≤ (j : Int) := by omega
          have i1 : (j : Int) ≤ (s.size : Int) := by omega
          have i2 : (0 : Int) ≤ (j : Int) + (q.f0.size : Int) := by omega
          have i3 : (j : Int) + (q.f0.size : Int) ≤ (s.size : Int) := by omega
          cases b with
          | true =>
            have HA1 : Aside0 (onceAt q s j = some ((s.extract 0 j ++ q.f1) ++ s.extract (j + q.f0.size) s.size)) := ⟨by rw [HA.out]; rfl⟩
            go_wp2_with fail
            have e1 : IntKind.i64.wrap ((j : Int) + (q.f0.size : Int)) = (j : Int) + (q.f0.size : Int) := IntWalk.i64_in _ (by omega)
            have e2 : ((j : Int) + (q.f0.size : Int)).toNat = j + q.f0.size := by omega
            have e3 : (9223372036854775807 < j + q.f1.size) = False := eq_false (by omega)
            have e4 : (9223372036854775807 < j + q.f1.size + (s.size - (j + q.f0.size))) = False := eq_false (by omega)
            have e5 : (9223372036854775807 < min j s.size + q.f1.size) = False := eq_false (by omega)
            have e6 : (9223372036854775807 < min j s.size + q.f1.size + (s.size - (j + q.f0.size))) = False := eq_false (by omega)
            have e7 : j ≤ s.size := by omega
            have hlen2 : (ys ++ (List.range j).filterMap (onceAt q s)).length < 8796093022208 := by
              have := List.length_filterMap_le (onceAt q s) (List.range j)
              rw [List.length_append]; simp only [List.length_range] at this; omega
            go_region_held3 (fun w' => w'.cell? ⟨gb, 0, none⟩ = some (.string q.f0) ∧ w'.cell? ⟨gb, 1, none⟩ = some (.string q.f1)) (go_keep) ((first | (go_at_call 69; refine (strings_HasPrefix.calls (s.extract j s.size) q.f0 true _ HP.out).mono ?_; rintro e w' ⟨rfl, ⟨nd, rfl⟩⟩) | (go_at_call 65; refine (impl_all_1.calls w0.heap.size B hB v2 (ys ++ (List.range j).filterMap (onceAt q s)) ((s.extract 0 j ++ q.f1) ++ s.extract (j + q.f0.size) s.size) _ (by (with_reducible repeat (first | refine blk_drewN ?_ _ | refine blk_drew ?_ | refine blk_alloc ?_ _)); exact HC3.out) (by (with_reducible repeat (first | apply Kd.R_alloc | apply Kd.R_drewN | apply Kd.R_drew)); exact HO3.out) hlen2).mono ?_; rintro e w4 ⟨v3, rfl, hc4, ho4, hb4, hk4⟩; have hbk4 := hk4.blk (by (with_reducible repeat (first | refine blk_drewN ?_ _ | refine blk_drew ?_ | refine blk_alloc ?_ _)); exact BK3.out) (Ne.symm hgB.out) (Kd.R_ne HO3.out BK3.out (by decide)); have hcy0 : w4.cell? ⟨gb, 0, none⟩ = some (.string q.f0) := (blk_cell hbk4 0).trans rfl; have hcy1 : w4.cell? ⟨gb, 1, none⟩ = some (.string q.f1) := (blk_cell hbk4 1).trans rfl; have HC4 := Aside0.mk hc4; have HO4 := Aside0.mk ho4; have HB4 := Aside0.mk hb4; have HK4 := Aside0.mk hk4; have BK4 := Aside0.mk hbk4; clear hc4 ho4 hb4 hk4 hbk4)))
            go_wp2
            go_roundg (s.size - j)
            case measure => omega
            case rel => exact ⟨j + 1, v3, by omega, by omega, by go_num, HC4, ⟨by
              have h_ := HO4.out
              rw [List.append_assoc] at h_
              rw [List.range_succ, List.filterMap_append, List.filterMap_cons, HA1.out, List.filterMap_nil]
              exact h_⟩, BK4, ⟨below_weaken (by repeat (first | exact HB3.out | apply pw_below_drewN | apply below_drew1)) (Nat.le_refl _) HB4.out⟩, ⟨.inr (by omega)⟩⟩
          | false =>
            have HA1 : Aside0 (onceAt q s j = none) := ⟨by rw [HA.out]; rfl⟩
            go_wp2_with fail
            go_quiet ((go_at_call 69; exact Calls.quiet_of ((strings_HasPrefix.calls (s.extract j s.size) q.f0 false _ HP.out).mono fun _ _ ⟨he, ⟨⟨m, hm⟩⟩⟩ => ⟨he, m, hm⟩)))
            go_wp2
            go_roundg (s.size - j)
            case measure => omega
            case rel => exact ⟨j + 1, v2, by omega, by omega, by go_num, ⟨by repeat (first | exact HC3.out | refine blk_drewN ?_ _ | refine blk_drew ?_)⟩, ⟨by
              rw [List.range_succ, List.filterMap_append, List.filterMap_cons, HA1.out, List.filterMap_nil, List.append_nil]
              (with_reducible repeat (first | apply Kd.R_alloc | apply Kd.R_drewN | apply Kd.R_drew)); exact HO3.out⟩, ⟨by repeat (first | exact BK3.out | refine blk_drewN ?_ _ | refine blk_drew ?_)⟩, ⟨by repeat (first | exact HB3.out | apply pw_below_drewN | apply below_drew1)⟩, ⟨.inr (by omega)⟩⟩
        · have t1 : decide (j + q.f0.size ≤ s.size) = false := by simpa using hlt2
          have t2 : decide ((j : Int) + (q.f0.size : Int) ≤ (s.size : Int)) = false := by simp; omega
          have hjn : Aside0 (j = s.size + 1 - q.f0.size) := ⟨by rcases HJ.out with h | h <;> omega⟩
          go_wp2
          go_roundg (l0.length - (kk + 1))
          case measure => omega
          case rel => exact ⟨kk + 1, v2, by omega, by omega, by go_num, HC3, ⟨by rw [hL.out]; have h_ := HO3.out; rw [hjn.out] at h_; exact h_⟩, HB3⟩
    · have hltz : ¬ (kk : Int) < (l0.length : Int) := by omega
      have hk : Aside0 (kk = l0.length) := ⟨by omega⟩
      clear HO HC HB
      go_wp2
      go_end0
      exact ⟨rfl, v1, HC1.out, by have h_ := HO1.out; rw [hk.out, List.take_length] at h_; exact h_, HB1.out⟩

-- NOT PRINTED: function 65 (impl_all_1)

/-! ### impl_all: function 45 -/
/-- What is asked of rules and a text: no row or text grows beyond a bound. -/
def impl_all.Fit (l : List (S59)) (s : ByteArray) : Prop := l.length ≤ 8 ∧ s.size ≤ 1000 ∧ ∀ r ∈ l, r.f0.size ≤ 1000 ∧ r.f1.size ≤ 1000
instance impl_all.fit_dec (l : List (S59)) (s : ByteArray) : Decidable (impl_all.Fit l s) := inferInstanceAs (Decidable (_ ∧ _ ∧ _))
def impl_all.f (l0 : List (S59)) (a1 : ByteArray) : Option (List ByteArray) := if impl_all.Fit l0 a1 then some (onceL l0 a1) else none
set_option maxHeartbeats 4000000 in
set_option maxRecDepth 100000 in
theorem impl_all.calls (A0 : Option Addr) (c0 : Nat) (l0 : List (S59)) (a1 : ByteArray) (r : List ByteArray) (w : World) (hr0 : Kd.C k59 w A0 l0.length l0) (hc0 : l0.length ≤ c0) (h : impl_all.f l0 a1 = some r) :
    Calls Try.prog 45 #[.slice A0 l0.length c0, .string a1] w fun e w' => ∃ v0_ : Value, e = .returned (v0_) ∧ Kd.R Kd.string 9 w' w.heap.size (fun _ => True) v0_ r ∧ Below w.heap.size w w' := by
  unfold impl_all.f at h
  by_cases hf : impl_all.Fit l0 a1
  · rw [if_pos hf] at h
    obtain rfl := Option.some.inj h
    obtain ⟨h8, hs, hsz⟩ := hf
    have hmf : ∀ (fn : Fn) (first cap : Array Value) (w : World), (Instr.makeFunc fn first cap).run Try.prog w = .ok (.func fn first cap) w := fun _ _ _ _ => rfl
    have HR := Aside0.mk hr0
    have HS := Aside0.mk hsz
    clear hr0 hsz h
    go_enter Try.func45, Try.ntmps45
    go_wp2_with fail
    have hcell := Aside0.mk (heap_alloc_new (w.alloc (.cells #[] 9)) (.cells #[.slice (some ⟨w.heap.size, 0, none⟩) 0 0] 29))
    have hrow : Aside0 (Kd.R Kd.string 9 ((w.alloc (.cells #[] 9)).alloc (.cells #[.slice (some ⟨w.heap.size, 0, none⟩) 0 0] 29)) w.heap.size (fun _ => True) (.slice (some ⟨w.heap.size, 0, none⟩) 0 0) ([] : List ByteArray)) := ⟨Kd.R_alloc (Kd.R_of_own (h1 := fun _ => rfl) (xs := ([] : List ByteArray)) (own_lit w w.heap.size 9 .i64 [] (Nat.le_refl _) (by simp)) (fun _ _ => trivial)) _⟩
    have hsz1 : ((w.alloc (.cells #[] 9)).heap.size) = w.heap.size + 1 := by simp
    rw [hsz1] at hcell
    refine (impl_once.calls (w.heap.size + 1) _ [] A0 c0 l0 a1 w _ HR.out hc0 (by omega) (by exact below_alloc (below_alloc (Below.refl _ _) _) _) hcell.out hrow.out h8 hs (by simp) HS.out).mono ?_
    rintro e w1 ⟨rfl, v1, hc1, ho1, hb1⟩
    have hcv : w1.cell? ⟨w.heap.size + 1, 0, none⟩ = some v1 := (blk_cell hc1 0).trans rfl
    obtain ⟨A1, c1, rfl⟩ := Kd.R_slice ho1
    have HO1 := Aside0.mk ho1
    have HB1 := Aside0.mk hb1
    clear hcell hrow hc1 ho1 hb1
    go_wp2
    go_ret
    exact ⟨_, rfl, by simpa using HO1.out, HB1.out⟩
  · rw [if_neg hf] at h
    cases h

/-! ### impl_normal: function 57 -/
def impl_normal.l0 : Nat → List (S59) → ByteArray → Bool → Int → Option (ByteArray × Int × Bool)
  | 0, _, _, _, _ => none
  | k + 1, x0, x1, x2, x9 => (impl_all.f x0 x1).bind fun t217 => (if (t217.length : Int) = 0 then (some (x1, x9, true)) else (if x9 = 400 then (some ((⟨#[]⟩ : ByteArray), 0, false)) else (if x2 = true then (if 0 ≤ (wrap64 ((t217.length : Int) - 1)) then (if (wrap64 ((t217.length : Int) - 1)) < (t217.length : Int) then (impl_normal.l0 k x0 (rdOf ByteArray.empty t217 (wrap64 ((t217.length : Int) - 1))) x2 (wrap64 (x9 + 1))) else (none)) else (none)) else (if 0 < (t217.length : Int) then (impl_normal.l0 k x0 (rdOf ByteArray.empty t217 0) x2 (wrap64 (x9 + 1))) else (none)))))
def impl_normal.f (k : Nat) (l0 : List (S59)) (a1 : ByteArray) (a2 : Bool) : Option (ByteArray × Int × Bool) := impl_normal.l0 k l0 a1 a2 0
theorem impl_normal.mono_l : ∀ k, (∀ y0 y1 y2 y3, LeO (impl_normal.l0 k y0 y1 y2 y3) (impl_normal.l0 (k + 1) y0 y1 y2 y3))
  | 0 => fun _ _ _ _ r h => by simp [impl_normal.l0] at h
  | k + 1 => by
    have ih0 := impl_normal.mono_l k
    · intro y0 y1 y2 y3
      unfold impl_normal.l0
      repeat' first
      | (with_reducible exact ih0 _ _ _ _)
      | (with_reducible exact LeO.refl _)
      | (with_reducible exact LeO.none _)
      | (with_reducible refine LeO.ite ?_ ?_)
      | (with_reducible refine LeO.bind ?_ (fun _ => ?_))
      | exact ih0 _ _ _ _
      | exact LeO.none _
      | refine LeO.ite ?_ ?_
      | refine LeO.bind ?_ (fun _ => ?_)
theorem impl_normal.mono : ∀ a0 a1 a2 k, LeO (impl_normal.f k a0 a1 a2) (impl_normal.f (k + 1) a0 a1 a2) := by
  intro a0 a1 a2 k
  have ih0 := impl_normal.mono_l k
  unfold impl_normal.f
  repeat' first
      | (with_reducible exact ih0 _ _ _ _)
      | (with_reducible exact LeO.refl _)
      | (with_reducible exact LeO.none _)
      | (with_reducible refine LeO.ite ?_ ?_)
      | (with_reducible refine LeO.bind ?_ (fun _ => ?_))
      | exact ih0 _ _ _ _
      | exact LeO.none _
      | refine LeO.ite ?_ ?_
      | refine LeO.bind ?_ (fun _ => ?_)
set_option maxHeartbeats 8000000 in
set_option maxRecDepth 100000 in
theorem impl_normal.calls (k : Nat) (A0 : Option Addr) (c0 : Nat) (l0 : List (S59)) (a1 : ByteArray) (a2 : Bool) (r1 : ByteArray) (r2 : Int) (r3 : Bool) (w : World) (hr0 : Kd.C k59 w A0 l0.length l0) (hc0 : l0.length ≤ c0) (h : impl_normal.f k l0 a1 a2 = some (r1, r2, r3)) :
    Calls Try.prog 57 #[.slice A0 l0.length c0, .string a1, .bool a2] w fun e w' => e = .returned (.tuple #[.string r1, .int .i64 r2, .bool r3]) ∧ Below w.heap.size w w' := by
  have HR0 := Aside0.mk hr0
  have HC0 := Aside0.mk hc0
  clear hr0 hc0
  have HB := Aside0.mk (Below.refl w.heap.size w)
  have H : (impl_normal.l0 k l0 a1 a2 0) = some (r1, r2, r3) := h
  clear h
  have H' := Aside0.mk H
  clear H
  go_enter Try.func57, Try.ntmps57
  go_wp2
  go_loopg [1, 9] k (fun kq v1 v9 w' => ∃ (x1_1 : ByteArray) (x9_1 : Int), v1 = .string x1_1 ∧ v9 = .int .i64 x9_1 ∧ Aside0 (impl_normal.l0 kq l0 x1_1 a2 x9_1 = some (r1, r2, r3)) ∧ Aside0 (kq ≤ k) ∧ Aside0 (Below w.heap.size w w'))
  case atStart => exact ⟨(a1), (0), (by first | rfl | (simp; done) | (simp [*]; done)), (by first | rfl | (simp; done) | (simp [*]; done)), H', ⟨Nat.le_refl _⟩, ⟨by repeat (first | (with_reducible first | exact HB.out | apply below_alloc | apply pw_below_drewN | apply below_drew1) | exact HB.out)⟩⟩
  case round =>
    clear H'
    try clear p2
    obtain ⟨x1_1, x9_1, rfl, rfl, HA, HK1, HB⟩ := hrel
    cases gk with
    | zero => exact absurd HA.out (by simp [impl_normal.l0])
    | succ k1 =>
      have H := HA.out
      clear HA
      simp only [impl_normal.l0] at H
      replace H := Option.bind_eq_some_iff.mp H
      obtain ⟨t217, A40, H⟩ := H
      replace H : (if (t217.length : Int) = 0 then (some (x1_1, x9_1, true)) else (if x9_1 = 400 then (some ((⟨#[]⟩ : ByteArray), 0, false)) else (if a2 = true then (if 0 ≤ (wrap64 ((t217.length : Int) - 1)) then (if (wrap64 ((t217.length : Int) - 1)) < (t217.length : Int) then (impl_normal.l0 k1 l0 (rdOf ByteArray.empty t217 (wrap64 ((t217.length : Int) - 1))) a2 (wrap64 (x9_1 + 1))) else (none)) else (none)) else (if 0 < (t217.length : Int) then (impl_normal.l0 k1 l0 (rdOf ByteArray.empty t217 0) a2 (wrap64 (x9_1 + 1))) else (none))))) = some (r1, r2, r3) := H
      have A4 := Aside0.mk A40
      clear A40
      by_cases c5 : (t217.length : Int) = 0
      · rw [if_pos c5] at H
        have c5b0 : ((t217.length : Int) == 0) = true := beq_iff_eq.mpr c5
        have c5b1 : ((t217.length : Int) != 0) = false := bne_eq_false_iff_eq.mpr c5
        clear c5
        simp only [Option.some.injEq, Prod.mk.injEq] at H
        obtain ⟨rfl, rfl, rfl⟩ := H
        go_wp2_with (first | ((with_reducible refine gate_callee (f := 45) rfl ?_); refine goesL_ (some 15) rfl rfl Try.func45 (by kernel_rfl) rfl #[.slice A0 l0.length c0, .string x1_1] rfl (by (try simp only [List.map_toArray, List.map_cons, List.map_nil]); first | done | rfl | (simp only [List.length_drop, List.length_take]; rfl)) ?_; (with_reducible refine (impl_all.calls _ _ l0 x1_1 t217 _ ?side1 ?side2 A4.out).mono ?_); (case side1 => repeat (first | exact (Kd.C_below HR0.out HB.out) | (with_reducible refine Kd.C_alloc ?_ _) | (with_reducible refine Kd.C_drewN ?_ _) | (with_reducible refine Kd.C_drew ?_))); (case side2 => exact HC0.out); rintro e w6 ⟨v218, rfl, ho0, hb⟩; refine ⟨_, rfl, ?_⟩; have n0_ := Aside0.mk (Kd.R_lower ho0 (below_size (by repeat (first | (with_reducible first | exact HB.out | apply below_alloc | apply pw_below_drewN | apply below_drew1) | exact HB.out)))); have n1_ := Aside0.mk (below_step (by repeat (first | (with_reducible first | exact HB.out | apply below_alloc | apply pw_below_drewN | apply below_drew1) | exact HB.out)) hb); clear HB; have HO219 := n0_; have HB := n1_; clear n0_ n1_; (try clear hb); (try clear hb2); (try clear hk); (try clear hi); (try clear ho0); obtain ⟨Ao7, co7, eo7⟩ := Kd.R_slice HO219.out; subst eo7))
        go_ret3
        exact ⟨by first | rfl | (simp [errW_none, errW_some] <;> rfl) | (simp [*, errW_none, errW_some] <;> rfl), by repeat (first | (with_reducible first | exact HB.out | apply below_alloc | apply pw_below_drewN | apply below_drew1) | exact HB.out)⟩
      · rw [if_neg c5] at H
        have c5b0 : ((t217.length : Int) == 0) = false := beq_eq_false_iff_ne.mpr c5
        have c5b1 : ((t217.length : Int) != 0) = true := bne_iff_ne.mpr c5
        have c5b2 : ¬ (t217 = []) := fun h_ => c5 (by rw [h_]; rfl)
        by_cases c8 : x9_1 = 400
        · rw [if_pos c8] at H
          have c8b0 : (x9_1 == 400) = true := beq_iff_eq.mpr c8
          have c8b1 : (x9_1 != 400) = false := bne_eq_false_iff_eq.mpr c8
          clear c8
          simp only [Option.some.injEq, Prod.mk.injEq] at H
          obtain ⟨rfl, rfl, rfl⟩ := H
          go_wp2_with (first | ((with_reducible refine gate_callee (f := 45) rfl ?_); refine goesL_ (some 15) rfl rfl Try.func45 (by kernel_rfl) rfl #[.slice A0 l0.length c0, .string x1_1] rfl (by (try simp only [List.map_toArray, List.map_cons, List.map_nil]); first | done | rfl | (simp only [List.length_drop, List.length_take]; rfl)) ?_; (with_reducible refine (impl_all.calls _ _ l0 x1_1 t217 _ ?side1 ?side2 A4.out).mono ?_); (case side1 => repeat (first | exact (Kd.C_below HR0.out HB.out) | (with_reducible refine Kd.C_alloc ?_ _) | (with_reducible refine Kd.C_drewN ?_ _) | (with_reducible refine Kd.C_drew ?_))); (case side2 => exact HC0.out); rintro e w9 ⟨v218, rfl, ho0, hb⟩; refine ⟨_, rfl, ?_⟩; have n0_ := Aside0.mk (Kd.R_lower ho0 (below_size (by repeat (first | (with_reducible first | exact HB.out | apply below_alloc | apply pw_below_drewN | apply below_drew1) | exact HB.out)))); have n1_ := Aside0.mk (below_step (by repeat (first | (with_reducible first | exact HB.out | apply below_alloc | apply pw_below_drewN | apply below_drew1) | exact HB.out)) hb); clear HB; have HO219 := n0_; have HB := n1_; clear n0_ n1_; (try clear hb); (try clear hb2); (try clear hk); (try clear hi); (try clear ho0); obtain ⟨Ao10, co10, eo10⟩ := Kd.R_slice HO219.out; subst eo10))
          go_ret3
          exact ⟨by first | rfl | (simp [errW_none, errW_some] <;> rfl) | (simp [*, errW_none, errW_some] <;> rfl), by repeat (first | (with_reducible first | exact HB.out | apply below_alloc | apply pw_below_drewN | apply below_drew1) | exact HB.out)⟩
        · rw [if_neg c8] at H
          have c8b0 : (x9_1 == 400) = false := beq_eq_false_iff_ne.mpr c8
          have c8b1 : (x9_1 != 400) = true := bne_iff_ne.mpr c8
          by_cases c11 : a2 = true
          · subst c11
            have H1 : (if 0 ≤ (wrap64 ((t217.length : Int) - 1)) then (if (wrap64 ((t217.length : Int) - 1)) < (t217.length : Int) then (impl_normal.l0 k1 l0 (rdOf ByteArray.empty t217 (wrap64 ((t217.length : Int) - 1))) true (wrap64 (x9_1 + 1))) else (none)) else (none)) = some (r1, r2, r3) := by rw [if_pos rfl] at H; exact H
            clear H
            have H := H1
            clear H1
            obtain ⟨ji12, hji12⟩ : ∃ j_ : Int, (wrap64 ((t217.length : Int) - 1)) = j_ := ⟨_, rfl⟩
            replace H : (if 0 ≤ (ji12) then (if (ji12) < (t217.length : Int) then (impl_normal.l0 k1 l0 (rdOf ByteArray.empty t217 (ji12)) true (wrap64 (x9_1 + 1))) else (none)) else (none)) = some (r1, r2, r3) := by first | (rw [hji12] at H; exact H) | (simp only [hji12] at H ⊢; exact H)
            (try rw [hji12] at A4)
            have hji12w : (IntKind.i64.wrap ((t217.length : Int) - 1)) = ji12 := (i64_w _).trans hji12
            by_cases c13 : 0 ≤ (ji12)
            · rw [if_pos c13] at H
              have c13b0 : decide (0 ≤ (ji12)) = true := decide_eq_true c13
              clear c13
              by_cases c14 : (ji12) < (t217.length : Int)
              · rw [if_pos c14] at H
                have c14b0 : decide ((ji12) < (t217.length : Int)) = true := decide_eq_true c14
                clear c14
                have H' := Aside0.mk H
                clear H
                go_wp2_with (first | ((with_reducible refine gate_callee (f := 45) rfl ?_); refine goesL_ (some 15) rfl rfl Try.func45 (by kernel_rfl) rfl #[.slice A0 l0.length c0, .string x1_1] rfl (by (try simp only [List.map_toArray, List.map_cons, List.map_nil]); first | done | rfl | (simp only [List.length_drop, List.length_take]; rfl)) ?_; (with_reducible refine (impl_all.calls _ _ l0 x1_1 t217 _ ?side1 ?side2 A4.out).mono ?_); (case side1 => repeat (first | exact (Kd.C_below HR0.out HB.out) | (with_reducible refine Kd.C_alloc ?_ _) | (with_reducible refine Kd.C_drewN ?_ _) | (with_reducible refine Kd.C_drew ?_))); (case side2 => exact HC0.out); rintro e w15 ⟨v218, rfl, ho0, hb⟩; refine ⟨_, rfl, ?_⟩; have n0_ := Aside0.mk (Kd.R_lower ho0 (below_size (by repeat (first | (with_reducible first | exact HB.out | apply below_alloc | apply pw_below_drewN | apply below_drew1) | exact HB.out)))); have n1_ := Aside0.mk (below_step (by repeat (first | (with_reducible first | exact HB.out | apply below_alloc | apply pw_below_drewN | apply below_drew1) | exact HB.out)) hb); clear HB; have HO219 := n0_; have HB := n1_; clear n0_ n1_; (try clear hb); (try clear hb2); (try clear hk); (try clear hi); (try clear ho0); obtain ⟨Ao16, co16, eo16⟩ := Kd.R_slice HO219.out; subst eo16; have p220 : 0 ≤ ((ji12) : Int) := of_decide_eq_true (by first | (with_reducible assumption) | assumption); have q220 : (ji12) < (t217.length : Int) := of_decide_eq_true (by first | (with_reducible assumption) | assumption); obtain ⟨ad220, e220, hx220_0⟩ := Kd.at_string (Kd.R_reads' HO219.out).2.2 (ji12) p220 q220; cases e220; replace p220 := eq_true p220; replace q220 := eq_true q220))
                go_roundg k1
                case measure => have := HK1.out; omega
                case rel => exact ⟨(rdOf ByteArray.empty t217 (ji12)), (wrap64 (x9_1 + 1)), (by first | rfl | (simp; done) | (simp only [← hji12] <;> (first | rfl | simp)) | (simp [*]; done)), (by first | rfl | (simp; done) | (simp [*]; done)), H', ⟨by have := HK1.out; omega⟩, ⟨by repeat (first | (with_reducible first | exact HB.out | apply below_alloc | apply pw_below_drewN | apply below_drew1) | exact HB.out)⟩⟩
              · rw [if_neg c14] at H
                exact absurd H (by simp)
            · rw [if_neg c13] at H
              exact absurd H (by simp)
          · replace c11 := Bool.eq_false_iff.mpr c11
            subst c11
            have H1 : (if 0 < (t217.length : Int) then (impl_normal.l0 k1 l0 (rdOf ByteArray.empty t217 0) false (wrap64 (x9_1 + 1))) else (none)) = some (r1, r2, r3) := by rw [if_neg (show ¬ (false = true) by decide)] at H; exact H
            clear H
            have H := H1
            clear H1
            by_cases c17 : 0 < (t217.length : Int)
            · rw [if_pos c17] at H
              have c17b0 : decide (0 < (t217.length : Int)) = true := decide_eq_true c17
              have c17b1 : decide (0 < t217.length) = true := decide_eq_true (by omega)
              clear c17
              have H' := Aside0.mk H
              clear H
              go_wp2_with (first | ((with_reducible refine gate_callee (f := 45) rfl ?_); refine goesL_ (some 15) rfl rfl Try.func45 (by kernel_rfl) rfl #[.slice A0 l0.length c0, .string x1_1] rfl (by (try simp only [List.map_toArray, List.map_cons, List.map_nil]); first | done | rfl | (simp only [List.length_drop, List.length_take]; rfl)) ?_; (with_reducible refine (impl_all.calls _ _ l0 x1_1 t217 _ ?side1 ?side2 A4.out).mono ?_); (case side1 => repeat (first | exact (Kd.C_below HR0.out HB.out) | (with_reducible refine Kd.C_alloc ?_ _) | (with_reducible refine Kd.C_drewN ?_ _) | (with_reducible refine Kd.C_drew ?_))); (case side2 => exact HC0.out); rintro e w18 ⟨v218, rfl, ho0, hb⟩; refine ⟨_, rfl, ?_⟩; have n0_ := Aside0.mk (Kd.R_lower ho0 (below_size (by repeat (first | (with_reducible first | exact HB.out | apply below_alloc | apply pw_below_drewN | apply below_drew1) | exact HB.out)))); have n1_ := Aside0.mk (below_step (by repeat (first | (with_reducible first | exact HB.out | apply below_alloc | apply pw_below_drewN | apply below_drew1) | exact HB.out)) hb); clear HB; have HO219 := n0_; have HB := n1_; clear n0_ n1_; (try clear hb); (try clear hb2); (try clear hk); (try clear hi); (try clear ho0); obtain ⟨Ao19, co19, eo19⟩ := Kd.R_slice HO219.out; subst eo19; have p221 : 0 ≤ (0 : Int) := (by omega); have q221 : 0 < (t217.length : Int) := of_decide_eq_true (by first | (with_reducible assumption) | assumption); obtain ⟨ad221, e221, hx221_0⟩ := Kd.at_string (Kd.R_reads' HO219.out).2.2 0 p221 q221; cases e221; have qi221 : (0 < t217.length) = True := eq_true (by omega); (try rw [show ((0 : Int)).toNat = 0 from rfl] at hx221_0); (try rw [Addr.add_zero'] at hx221_0); replace p221 := eq_true p221; replace q221 := eq_true q221))
              go_roundg k1
              case measure => have := HK1.out; omega
              case rel => exact ⟨(rdOf ByteArray.empty t217 0), (wrap64 (x9_1 + 1)), (by first | rfl | (simp; done) | (simp [*]; done)), (by first | rfl | (simp; done) | (simp [*]; done)), H', ⟨by have := HK1.out; omega⟩, ⟨by repeat (first | (with_reducible first | exact HB.out | apply below_alloc | apply pw_below_drewN | apply below_drew1) | exact HB.out)⟩⟩
            · rw [if_neg c17] at H
              exact absurd H (by simp)

/-! ### impl_IsConfluent: function 25 -/
def impl_IsConfluent.l0 : Nat → List (S59) → Bool → List (List ByteArray) → Int → Int → Option (Bool × Bool)
  | 0, _, _, _, _, _ => none
  | k + 1, x0, x4, x17, x18, x19 => if x19 < x18 then (if 0 ≤ x19 then (if x19 < (x17.length : Int) then (if 0 < ((rd_L3 x17 x19).length : Int) then ((impl_normal.f k x0 (rdOf ByteArray.empty (rd_L3 x17 x19) 0) false).bind fun bt228 => (if 1 < ((rd_L3 x17 x19).length : Int) then ((impl_normal.f k x0 (rdOf ByteArray.empty (rd_L3 x17 x19) 1) false).bind fun bt232 => (if bt228.2.2 = true then (if bt232.2.2 = true then (if x4 = true then (impl_IsConfluent.l0 k x0 (bt228.1.toList == bt232.1.toList) x17 x18 (wrap64 (x19 + 1))) else (impl_IsConfluent.l0 k x0 false x17 x18 (wrap64 (x19 + 1)))) else (some (false, false))) else (some (false, false)))) else (none))) else (none)) else (none)) else (none)) else (some (x4, true))
def impl_IsConfluent.f (k : Nat) (l0 : List (S59)) : Option (Bool × Bool) := (impl_GoodRules.f k l0).bind fun t222 => (if t222 = true then ((impl_pairs.f k l0).bind fun t223 => (impl_IsConfluent.l0 k l0 true t223 (t223.length : Int) 0)) else (some (false, false)))
theorem impl_IsConfluent.mono_l : ∀ k, (∀ y0 y1 y2 y3 y4, LeO (impl_IsConfluent.l0 k y0 y1 y2 y3 y4) (impl_IsConfluent.l0 (k + 1) y0 y1 y2 y3 y4))
  | 0 => fun _ _ _ _ _ r h => by simp [impl_IsConfluent.l0] at h
  | k + 1 => by
    have ih0 := impl_IsConfluent.mono_l k
    · intro y0 y1 y2 y3 y4
      unfold impl_IsConfluent.l0
      repeat' first
      | (with_reducible exact ih0 _ _ _ _ _)
      | (with_reducible exact impl_GoodRules.mono _ _)
      | (with_reducible exact impl_normal.mono _ _ _ _)
      | (with_reducible exact impl_pairs.mono _ _)
      | (with_reducible exact LeO.refl _)
      | (with_reducible exact LeO.none _)
      | (with_reducible refine LeO.ite ?_ ?_)
      | (with_reducible refine LeO.bind ?_ (fun _ => ?_))
      | exact ih0 _ _ _ _ _
      | exact impl_GoodRules.mono _ _
      | exact impl_normal.mono _ _ _ _
      | exact impl_pairs.mono _ _
      | exact LeO.none _
      | refine LeO.ite ?_ ?_
      | refine LeO.bind ?_ (fun _ => ?_)
theorem impl_IsConfluent.mono : ∀ a0 k, LeO (impl_IsConfluent.f k a0) (impl_IsConfluent.f (k + 1) a0) := by
  intro a0 k
  have ih0 := impl_IsConfluent.mono_l k
  unfold impl_IsConfluent.f
  repeat' first
      | (with_reducible exact ih0 _ _ _ _ _)
      | (with_reducible exact impl_GoodRules.mono _ _)
      | (with_reducible exact impl_normal.mono _ _ _ _)
      | (with_reducible exact impl_pairs.mono _ _)
      | (with_reducible exact LeO.refl _)
      | (with_reducible exact LeO.none _)
      | (with_reducible refine LeO.ite ?_ ?_)
      | (with_reducible refine LeO.bind ?_ (fun _ => ?_))
      | exact ih0 _ _ _ _ _
      | exact impl_GoodRules.mono _ _
      | exact impl_normal.mono _ _ _ _
      | exact impl_pairs.mono _ _
      | exact LeO.none _
      | refine LeO.ite ?_ ?_
      | refine LeO.bind ?_ (fun _ => ?_)
set_option maxHeartbeats 8000000 in
set_option maxRecDepth 100000 in
theorem impl_IsConfluent.calls (k : Nat) (A0 : Option Addr) (c0 : Nat) (l0 : List (S59)) (r1 : Bool) (r2 : Bool) (w : World) (hr0 : Kd.C k59 w A0 l0.length l0) (hc0 : l0.length ≤ c0) (h : impl_IsConfluent.f k l0 = some (r1, r2)) :
    Calls Try.prog 25 #[.slice A0 l0.length c0] w fun e w' => e = .returned (.tuple #[.bool r1, .bool r2]) ∧ Below w.heap.size w w' := by
  have HR0 := Aside0.mk hr0
  have HC0 := Aside0.mk hc0
  clear hr0 hc0
  have HB := Aside0.mk (Below.refl w.heap.size w)
  have H : ((impl_GoodRules.f k l0).bind fun t222 => (if t222 = true then ((impl_pairs.f k l0).bind fun t223 => (impl_IsConfluent.l0 k l0 true t223 (t223.length : Int) 0)) else (some (false, false)))) = some (r1, r2) := h
  clear h
  replace H := Option.bind_eq_some_iff.mp H
  obtain ⟨t222, A20, H⟩ := H
  replace H : (if t222 = true then ((impl_pairs.f k l0).bind fun t223 => (impl_IsConfluent.l0 k l0 true t223 (t223.length : Int) 0)) else (some (false, false))) = some (r1, r2) := H
  have A2 := Aside0.mk A20
  clear A20
  by_cases c3 : t222 = true
  · subst c3
    have H1 : ((impl_pairs.f k l0).bind fun t223 => (impl_IsConfluent.l0 k l0 true t223 (t223.length : Int) 0)) = some (r1, r2) := by rw [if_pos rfl] at H; exact H
    clear H
    have H := H1
    clear H1
    replace H := Option.bind_eq_some_iff.mp H
    obtain ⟨t223, A40, H⟩ := H
    replace H : (impl_IsConfluent.l0 k l0 true t223 (t223.length : Int) 0) = some (r1, r2) := H
    have A4 := Aside0.mk A40
    clear A40
    have H' := Aside0.mk H
    clear H
    go_enter Try.func25, Try.ntmps25
    go_wp2_with (first | ((with_reducible refine gate_callee (f := 10) rfl ?_); refine goesL_ (some 14) rfl rfl Try.func10 (by kernel_rfl) rfl #[.slice A0 l0.length c0] rfl (by (try simp only [List.map_toArray, List.map_cons, List.map_nil]); first | done | rfl | (simp only [List.length_drop, List.length_take]; rfl)) ?_; (with_reducible refine (impl_GoodRules.calls k _ _ l0 true _ ?side1 ?side2 A2.out).mono ?_); (case side1 => repeat (first | exact HR0.out | (with_reducible refine Kd.C_alloc ?_ _) | (with_reducible refine Kd.C_drewN ?_ _) | (with_reducible refine Kd.C_drew ?_))); (case side2 => exact HC0.out); rintro e w5 ⟨rfl, hb⟩; refine ⟨_, rfl, ?_⟩; have n0_ := Aside0.mk (below_step (by repeat (first | (with_reducible first | exact HB.out | apply below_alloc | apply pw_below_drewN | apply below_drew1) | exact HB.out)) hb); clear HB; have HB := n0_; clear n0_; (try clear hb); (try clear hb2); (try clear hk); (try clear hi)) | ((with_reducible refine gate_callee (f := 36) rfl ?_); refine goesL_ (some 17) rfl rfl Try.func36 (by kernel_rfl) rfl #[.slice A0 l0.length c0] rfl (by (try simp only [List.map_toArray, List.map_cons, List.map_nil]); first | done | rfl | (simp only [List.length_drop, List.length_take]; rfl)) ?_; (with_reducible refine (impl_pairs.calls k _ _ l0 t223 _ ?side1 ?side2 A4.out).mono ?_); (case side1 => repeat (first | exact (Kd.C_below HR0.out HB.out) | (with_reducible refine Kd.C_alloc ?_ _) | (with_reducible refine Kd.C_drewN ?_ _) | (with_reducible refine Kd.C_drew ?_))); (case side2 => exact HC0.out); rintro e w6 ⟨v224, rfl, ho0, hb⟩; refine ⟨_, rfl, ?_⟩; have n0_ := Aside0.mk (Kd.N_lower (Kd.N_mono (ok' := fun k_ => True) ho0 (fun k_ hk_ => trivial)) (below_size (by repeat (first | (with_reducible first | exact HB.out | apply below_alloc | apply pw_below_drewN | apply below_drew1) | exact HB.out)))); have n1_ := Aside0.mk (below_step (by repeat (first | (with_reducible first | exact HB.out | apply below_alloc | apply pw_below_drewN | apply below_drew1) | exact HB.out)) hb); clear HB; have HO225 := n0_; have HB := n1_; clear n0_ n1_; (try clear hb); (try clear hb2); (try clear hk); (try clear hi); (try clear ho0); obtain ⟨Ao7, co7, eo7⟩ := Kd.N_slice HO225.out; subst eo7))
    go_loopg [4, 19] k (fun kq v4 v19 w' => ∃ (x4_1 : Bool) (x19_1 : Int), v4 = .bool x4_1 ∧ v19 = .int .i64 x19_1 ∧ Aside0 (impl_IsConfluent.l0 kq l0 x4_1 t223 (t223.length : Int) x19_1 = some (r1, r2)) ∧ Aside0 (kq ≤ k) ∧ Aside0 (Kd.N (Kd.slice 9 Kd.string) 29 w' w.heap.size (fun _ => True) (.slice Ao7 t223.length co7) t223) ∧ Aside0 (Below w.heap.size w w'))
    case atStart => exact ⟨(true), (0), (by first | rfl | (simp; done) | (simp [*]; done)), (by first | rfl | (simp; done) | (simp [*]; done)), H', ⟨Nat.le_refl _⟩, ⟨by (with_reducible repeat (first | apply Kd.N_alloc | apply Kd.N_drewN | apply Kd.N_drew)); exact HO225.out⟩, ⟨by repeat (first | (with_reducible first | exact HB.out | apply below_alloc | apply pw_below_drewN | apply below_drew1) | exact HB.out)⟩⟩
    case round =>
      clear H'
      try clear c1
      try clear c2
      try clear p2
      try clear c3
      obtain ⟨x4_1, x19_1, rfl, rfl, HA, HK1, HO_17, HB⟩ := hrel
      cases gk with
      | zero => exact absurd HA.out (by simp [impl_IsConfluent.l0])
      | succ k1 =>
        have H := HA.out
        clear HA
        simp only [impl_IsConfluent.l0] at H
        by_cases c8 : x19_1 < (t223.length : Int)
        · rw [if_pos c8] at H
          have c8b0 : decide (x19_1 < (t223.length : Int)) = true := decide_eq_true c8
          clear c8
          by_cases c9 : 0 ≤ x19_1
          · rw [if_pos c9] at H
            have c9b0 : decide (0 ≤ x19_1) = true := decide_eq_true c9
            clear c9
            by_cases c10 : x19_1 < (t223.length : Int)
            · rw [if_pos c10] at H
              have c10b0 : decide (x19_1 < (t223.length : Int)) = true := decide_eq_true c10
              clear c10
              by_cases c11 : 0 < ((rd_L3 t223 x19_1).length : Int)
              · rw [if_pos c11] at H
                have c11b0 : decide (0 < ((rd_L3 t223 x19_1).length : Int)) = true := decide_eq_true c11
                have c11b1 : decide (0 < (rd_L3 t223 x19_1).length) = true := decide_eq_true (by omega)
                clear c11
                replace H := Option.bind_eq_some_iff.mp H
                obtain ⟨⟨t228, t229, t230⟩, A120, H⟩ := H
                replace H : (if 1 < ((rd_L3 t223 x19_1).length : Int) then ((impl_normal.f k1 l0 (rdOf ByteArray.empty (rd_L3 t223 x19_1) 1) false).bind fun bt232 => (if t230 = true then (if bt232.2.2 = true then (if x4_1 = true then (impl_IsConfluent.l0 k1 l0 (t228.toList == bt232.1.toList) t223 (t223.length : Int) (wrap64 (x19_1 + 1))) else (impl_IsConfluent.l0 k1 l0 false t223 (t223.length : Int) (wrap64 (x19_1 + 1)))) else (some (false, false))) else (some (false, false)))) else (none)) = some (r1, r2) := H
                have A12 := Aside0.mk A120
                clear A120
                by_cases c13 : 1 < ((rd_L3 t223 x19_1).length : Int)
                · rw [if_pos c13] at H
                  have c13b0 : decide (1 < ((rd_L3 t223 x19_1).length : Int)) = true := decide_eq_true c13
                  have c13b1 : decide (1 < (rd_L3 t223 x19_1).length) = true := decide_eq_true (by omega)
                  clear c13
                  replace H := Option.bind_eq_some_iff.mp H
                  obtain ⟨⟨t232, t233, t234⟩, A140, H⟩ := H
                  replace H : (if t230 = true then (if t234 = true then (if x4_1 = true then (impl_IsConfluent.l0 k1 l0 (t228.toList == t232.toList) t223 (t223.length : Int) (wrap64 (x19_1 + 1))) else (impl_IsConfluent.l0 k1 l0 false t223 (t223.length : Int) (wrap64 (x19_1 + 1)))) else (some (false, false))) else (some (false, false))) = some (r1, r2) := H
                  have A14 := Aside0.mk A140
                  clear A140
                  by_cases c15 : t230 = true
                  · subst c15
                    have H1 : (if t234 = true then (if x4_1 = true then (impl_IsConfluent.l0 k1 l0 (t228.toList == t232.toList) t223 (t223.length : Int) (wrap64 (x19_1 + 1))) else (impl_IsConfluent.l0 k1 l0 false t223 (t223.length : Int) (wrap64 (x19_1 + 1)))) else (some (false, false))) = some (r1, r2) := by rw [if_pos rfl] at H; exact H
                    clear H
                    have H := H1
                    clear H1
                    by_cases c16 : t234 = true
                    · subst c16
                      have H1 : (if x4_1 = true then (impl_IsConfluent.l0 k1 l0 (t228.toList == t232.toList) t223 (t223.length : Int) (wrap64 (x19_1 + 1))) else (impl_IsConfluent.l0 k1 l0 false t223 (t223.length : Int) (wrap64 (x19_1 + 1)))) = some (r1, r2) := by rw [if_pos rfl] at H; exact H
                      clear H
                      have H := H1
                      clear H1
                      by_cases c17 : x4_1 = true
                      · subst c17
                        have H1 : (impl_IsConfluent.l0 k1 l0 (t228.toList == t232.toList) t223 (t223.length : Int) (wrap64 (x19_1 + 1))) = some (r1, r2) := by rw [if_pos rfl] at H; exact H
                        clear H
                        have H := H1
                        clear H1
                        have H' := Aside0.mk H
                        clear H
                        have p226 : 0 ≤ (x19_1 : Int) := of_decide_eq_true (by first | (with_reducible assumption) | assumption)
                        have q226 : x19_1 < (t223.length : Int) := of_decide_eq_true (by first | (with_reducible assumption) | assumption)
                        obtain ⟨ad226, A226_0, c226_0, e226, hx226_0, hl226_0, hi226_0⟩ := at_L3 (Kd.N_reads' HO_17.out).2.2 x19_1 p226 q226
                        cases e226
                        obtain ⟨ce226, hce226, hMe226, hcc226⟩ := Kd.N_get HO_17.out [] x19_1 p226 (by first | exact q226 | exact of_decide_eq_true (by first | (with_reducible assumption) | assumption) | (have e_ := (Kd.N_reads' HO_17.out).1; omega))
                        obtain ⟨ua226_0, uc226_0, rfl, ul226_0, ge226_0⟩ := Kd.FK_slice_open hMe226
                        have hv226_0 := hcc226 0 _ rfl
                        rw [Nat.add_zero, show ((Kd.slice 9 Kd.string)).sz = 1 from rfl, Nat.mul_one] at hv226_0
                        replace hv226_0 := Option.some.inj (hv226_0.symm.trans hx226_0)
                        injection hv226_0 with hva_ hvn_ hvc_
                        rw [hva_] at ge226_0
                        rw [hvc_] at ul226_0
                        have HL226_0 := Aside0.mk (show Kd.V Kd.string 9 _ w.heap.size _ _ (rd_L3 t223 x19_1) from Kd.V_mk ul226_0 ge226_0)
                        clear hva_ hvn_ hvc_ ge226_0 ul226_0
                        clear hcc226 hce226
                        have HR226_0 := Aside0.mk hi226_0
                        have HC226_0 := Aside0.mk hl226_0
                        clear hi226_0 hl226_0
                        replace p226 := eq_true p226
                        replace q226 := eq_true q226
                        have p227 : 0 ≤ (0 : Int) := (by omega)
                        have q227 : 0 < ((rd_L3 t223 x19_1).length : Int) := of_decide_eq_true (by first | (with_reducible assumption) | assumption)
                        obtain ⟨ad227, e227, hx227_0⟩ := Kd.at_string (by repeat (first | (with_reducible exact HR226_0.out) | (with_reducible refine Kd.C_alloc ?_ _) | (with_reducible refine Kd.C_drewN ?_ _) | (with_reducible refine Kd.C_drew ?_) | exact HR226_0.out)) 0 p227 q227
                        cases e227
                        have qi227 : (0 < (rd_L3 t223 x19_1).length) = True := eq_true (by omega)
                        (try rw [show ((0 : Int)).toNat = 0 from rfl] at hx227_0)
                        (try rw [Addr.add_zero'] at hx227_0)
                        replace p227 := eq_true p227
                        replace q227 := eq_true q227
                        go_wp2_with (first | ((with_reducible refine gate_callee (f := 57) rfl ?_); refine goesL_ (some 28) rfl rfl Try.func57 (by kernel_rfl) rfl #[.slice A0 l0.length c0, .string (rdOf ByteArray.empty (rd_L3 t223 x19_1) 0), .bool false] rfl (by (try simp only [List.map_toArray, List.map_cons, List.map_nil]); first | done | rfl | (simp only [List.length_drop, List.length_take]; rfl)) ?_; (with_reducible refine (impl_normal.calls k1 _ _ l0 (rdOf ByteArray.empty (rd_L3 t223 x19_1) 0) false t228 t229 true _ ?side1 ?side2 A12.out).mono ?_); (case side1 => repeat (first | exact (Kd.C_below HR0.out HB.out) | (with_reducible refine Kd.C_alloc ?_ _) | (with_reducible refine Kd.C_drewN ?_ _) | (with_reducible refine Kd.C_drew ?_))); (case side2 => exact HC0.out); rintro e w18 ⟨rfl, hb⟩; refine ⟨_, rfl, ?_⟩; have n0_ := Aside0.mk (Kd.N_below (by (with_reducible repeat (first | apply Kd.N_alloc | apply Kd.N_drewN | apply Kd.N_drew)); exact HO_17.out) hb); have n1_ := Aside0.mk (Kd.V_below (by (with_reducible repeat (first | apply Kd.V_alloc | apply Kd.V_drewN | apply Kd.V_drew)); exact HL226_0.out) hb); have n2_ := Aside0.mk (Kd.C_below (by repeat (first | (with_reducible exact HR226_0.out) | (with_reducible refine Kd.C_alloc ?_ _) | (with_reducible refine Kd.C_drewN ?_ _) | (with_reducible refine Kd.C_drew ?_) | exact HR226_0.out)) hb); have n3_ := Aside0.mk (below_step (by repeat (first | (with_reducible first | exact HB.out | apply below_alloc | apply pw_below_drewN | apply below_drew1) | exact HB.out)) hb); clear HO_17; clear HL226_0; clear HR226_0; clear HB; have HO_17 := n0_; have HL226_0 := n1_; have HR226_0 := n2_; have HB := n3_; clear n0_ n1_ n2_ n3_; (try clear hb); (try clear hb2); (try clear hk); (try clear hi); have p231 : 0 ≤ (1 : Int) := (by omega); have q231 : 1 < ((rd_L3 t223 x19_1).length : Int) := of_decide_eq_true (by first | (with_reducible assumption) | assumption); obtain ⟨ad231, e231, hx231_0⟩ := Kd.at_string (by repeat (first | (with_reducible exact HR226_0.out) | (with_reducible refine Kd.C_alloc ?_ _) | (with_reducible refine Kd.C_drewN ?_ _) | (with_reducible refine Kd.C_drew ?_) | exact HR226_0.out)) 1 p231 q231; obtain rfl : ad227 = ad231 := (by injection e231); (try simp only [show (1 : Int).toNat = 1 from rfl, Nat.reduceMul, Nat.reduceEqDiff, Go.Addr.add, ↓reduceIte] at hx231_0); have qi231 : (1 < (rd_L3 t223 x19_1).length) = True := eq_true (by omega); (try rw [show ((1 : Int)).toNat = 1 from rfl] at hx231_0); replace p231 := eq_true p231; replace q231 := eq_true q231) | ((with_reducible refine gate_callee (f := 57) rfl ?_); refine goesL_ (some 37) rfl rfl Try.func57 (by kernel_rfl) rfl #[.slice A0 l0.length c0, .string (rdOf ByteArray.empty (rd_L3 t223 x19_1) 1), .bool false] rfl (by (try simp only [List.map_toArray, List.map_cons, List.map_nil]); first | done | rfl | (simp only [List.length_drop, List.length_take]; rfl)) ?_; (with_reducible refine (impl_normal.calls k1 _ _ l0 (rdOf ByteArray.empty (rd_L3 t223 x19_1) 1) false t232 t233 true _ ?side1 ?side2 A14.out).mono ?_); (case side1 => repeat (first | exact (Kd.C_below HR0.out HB.out) | (with_reducible refine Kd.C_alloc ?_ _) | (with_reducible refine Kd.C_drewN ?_ _) | (with_reducible refine Kd.C_drew ?_))); (case side2 => exact HC0.out); rintro e w19 ⟨rfl, hb⟩; refine ⟨_, rfl, ?_⟩; have n0_ := Aside0.mk (Kd.N_below (by (with_reducible repeat (first | apply Kd.N_alloc | apply Kd.N_drewN | apply Kd.N_drew)); exact HO_17.out) hb); have n1_ := Aside0.mk (Kd.V_below (by (with_reducible repeat (first | apply Kd.V_alloc | apply Kd.V_drewN | apply Kd.V_drew)); exact HL226_0.out) hb); have n2_ := Aside0.mk (Kd.C_below (by repeat (first | (with_reducible exact HR226_0.out) | (with_reducible refine Kd.C_alloc ?_ _) | (with_reducible refine Kd.C_drewN ?_ _) | (with_reducible refine Kd.C_drew ?_) | exact HR226_0.out)) hb); have n3_ := Aside0.mk (below_step (by repeat (first | (with_reducible first | exact HB.out | apply below_alloc | apply pw_below_drewN | apply below_drew1) | exact HB.out)) hb); clear HO_17; clear HL226_0; clear HR226_0; clear HB; have HO_17 := n0_; have HL226_0 := n1_; have HR226_0 := n2_; have HB := n3_; clear n0_ n1_ n2_ n3_; (try clear hb); (try clear hb2); (try clear hk); (try clear hi)))
                        go_roundg k1
                        case measure => have := HK1.out; omega
                        case rel => exact ⟨((t228.toList == t232.toList)), (wrap64 (x19_1 + 1)), (by first | rfl | (simp; done) | (simp [*]; done)), (by first | rfl | (simp; done) | (simp [*]; done)), H', ⟨by have := HK1.out; omega⟩, ⟨by (with_reducible repeat (first | apply Kd.N_alloc | apply Kd.N_drewN | apply Kd.N_drew)); exact HO_17.out⟩, ⟨by repeat (first | (with_reducible first | exact HB.out | apply below_alloc | apply pw_below_drewN | apply below_drew1) | exact HB.out)⟩⟩
                      · replace c17 := Bool.eq_false_iff.mpr c17
                        subst c17
                        have H1 : (impl_IsConfluent.l0 k1 l0 false t223 (t223.length : Int) (wrap64 (x19_1 + 1))) = some (r1, r2) := by rw [if_neg (show ¬ (false = true) by decide)] at H; exact H
                        clear H
                        have H := H1
                        clear H1
                        have H' := Aside0.mk H
                        clear H
                        have p226 : 0 ≤ (x19_1 : Int) := of_decide_eq_true (by first | (with_reducible assumption) | assumption)
                        have q226 : x19_1 < (t223.length : Int) := of_decide_eq_true (by first | (with_reducible assumption) | assumption)
                        obtain ⟨ad226, A226_0, c226_0, e226, hx226_0, hl226_0, hi226_0⟩ := at_L3 (Kd.N_reads' HO_17.out).2.2 x19_1 p226 q226
                        cases e226
                        obtain ⟨ce226, hce226, hMe226, hcc226⟩ := Kd.N_get HO_17.out [] x19_1 p226 (by first | exact q226 | exact of_decide_eq_true (by first | (with_reducible assumption) | assumption) | (have e_ := (Kd.N_reads' HO_17.out).1; omega))
                        obtain ⟨ua226_0, uc226_0, rfl, ul226_0, ge226_0⟩ := Kd.FK_slice_open hMe226
                        have hv226_0 := hcc226 0 _ rfl
                        rw [Nat.add_zero, show ((Kd.slice 9 Kd.string)).sz = 1 from rfl, Nat.mul_one] at hv226_0
                        replace hv226_0 := Option.some.inj (hv226_0.symm.trans hx226_0)
                        injection hv226_0 with hva_ hvn_ hvc_
                        rw [hva_] at ge226_0
                        rw [hvc_] at ul226_0
                        have HL226_0 := Aside0.mk (show Kd.V Kd.string 9 _ w.heap.size _ _ (rd_L3 t223 x19_1) from Kd.V_mk ul226_0 ge226_0)
                        clear hva_ hvn_ hvc_ ge226_0 ul226_0
                        clear hcc226 hce226
                        have HR226_0 := Aside0.mk hi226_0
                        have HC226_0 := Aside0.mk hl226_0
                        clear hi226_0 hl226_0
                        replace p226 := eq_true p226
                        replace q226 := eq_true q226
                        have p227 : 0 ≤ (0 : Int) := (by omega)
                        have q227 : 0 < ((rd_L3 t223 x19_1).length : Int) := of_decide_eq_true (by first | (with_reducible assumption) | assumption)
                        obtain ⟨ad227, e227, hx227_0⟩ := Kd.at_string (by repeat (first | (with_reducible exact HR226_0.out) | (with_reducible refine Kd.C_alloc ?_ _) | (with_reducible refine Kd.C_drewN ?_ _) | (with_reducible refine Kd.C_drew ?_) | exact HR226_0.out)) 0 p227 q227
                        cases e227
                        have qi227 : (0 < (rd_L3 t223 x19_1).length) = True := eq_true (by omega)
                        (try rw [show ((0 : Int)).toNat = 0 from rfl] at hx227_0)
                        (try rw [Addr.add_zero'] at hx227_0)
                        replace p227 := eq_true p227
                        replace q227 := eq_true q227
                        go_wp2_with (first | ((with_reducible refine gate_callee (f := 57) rfl ?_); refine goesL_ (some 28) rfl rfl Try.func57 (by kernel_rfl) rfl #[.slice A0 l0.length c0, .string (rdOf ByteArray.empty (rd_L3 t223 x19_1) 0), .bool false] rfl (by (try simp only [List.map_toArray, List.map_cons, List.map_nil]); first | done | rfl | (simp only [List.length_drop, List.length_take]; rfl)) ?_; (with_reducible refine (impl_normal.calls k1 _ _ l0 (rdOf ByteArray.empty (rd_L3 t223 x19_1) 0) false t228 t229 true _ ?side1 ?side2 A12.out).mono ?_); (case side1 => repeat (first | exact (Kd.C_below HR0.out HB.out) | (with_reducible refine Kd.C_alloc ?_ _) | (with_reducible refine Kd.C_drewN ?_ _) | (with_reducible refine Kd.C_drew ?_))); (case side2 => exact HC0.out); rintro e w20 ⟨rfl, hb⟩; refine ⟨_, rfl, ?_⟩; have n0_ := Aside0.mk (Kd.N_below (by (with_reducible repeat (first | apply Kd.N_alloc | apply Kd.N_drewN | apply Kd.N_drew)); exact HO_17.out) hb); have n1_ := Aside0.mk (Kd.V_below (by (with_reducible repeat (first | apply Kd.V_alloc | apply Kd.V_drewN | apply Kd.V_drew)); exact HL226_0.out) hb); have n2_ := Aside0.mk (Kd.C_below (by repeat (first | (with_reducible exact HR226_0.out) | (with_reducible refine Kd.C_alloc ?_ _) | (with_reducible refine Kd.C_drewN ?_ _) | (with_reducible refine Kd.C_drew ?_) | exact HR226_0.out)) hb); have n3_ := Aside0.mk (below_step (by repeat (first | (with_reducible first | exact HB.out | apply below_alloc | apply pw_below_drewN | apply below_drew1) | exact HB.out)) hb); clear HO_17; clear HL226_0; clear HR226_0; clear HB; have HO_17 := n0_; have HL226_0 := n1_; have HR226_0 := n2_; have HB := n3_; clear n0_ n1_ n2_ n3_; (try clear hb); (try clear hb2); (try clear hk); (try clear hi); have p231 : 0 ≤ (1 : Int) := (by omega); have q231 : 1 < ((rd_L3 t223 x19_1).length : Int) := of_decide_eq_true (by first | (with_reducible assumption) | assumption); obtain ⟨ad231, e231, hx231_0⟩ := Kd.at_string (by repeat (first | (with_reducible exact HR226_0.out) | (with_reducible refine Kd.C_alloc ?_ _) | (with_reducible refine Kd.C_drewN ?_ _) | (with_reducible refine Kd.C_drew ?_) | exact HR226_0.out)) 1 p231 q231; obtain rfl : ad227 = ad231 := (by injection e231); (try simp only [show (1 : Int).toNat = 1 from rfl, Nat.reduceMul, Nat.reduceEqDiff, Go.Addr.add, ↓reduceIte] at hx231_0); have qi231 : (1 < (rd_L3 t223 x19_1).length) = True := eq_true (by omega); (try rw [show ((1 : Int)).toNat = 1 from rfl] at hx231_0); replace p231 := eq_true p231; replace q231 := eq_true q231) | ((with_reducible refine gate_callee (f := 57) rfl ?_); refine goesL_ (some 37) rfl rfl Try.func57 (by kernel_rfl) rfl #[.slice A0 l0.length c0, .string (rdOf ByteArray.empty (rd_L3 t223 x19_1) 1), .bool false] rfl (by (try simp only [List.map_toArray, List.map_cons, List.map_nil]); first | done | rfl | (simp only [List.length_drop, List.length_take]; rfl)) ?_; (with_reducible refine (impl_normal.calls k1 _ _ l0 (rdOf ByteArray.empty (rd_L3 t223 x19_1) 1) false t232 t233 true _ ?side1 ?side2 A14.out).mono ?_); (case side1 => repeat (first | exact (Kd.C_below HR0.out HB.out) | (with_reducible refine Kd.C_alloc ?_ _) | (with_reducible refine Kd.C_drewN ?_ _) | (with_reducible refine Kd.C_drew ?_))); (case side2 => exact HC0.out); rintro e w21 ⟨rfl, hb⟩; refine ⟨_, rfl, ?_⟩; have n0_ := Aside0.mk (Kd.N_below (by (with_reducible repeat (first | apply Kd.N_alloc | apply Kd.N_drewN | apply Kd.N_drew)); exact HO_17.out) hb); have n1_ := Aside0.mk (Kd.V_below (by (with_reducible repeat (first | apply Kd.V_alloc | apply Kd.V_drewN | apply Kd.V_drew)); exact HL226_0.out) hb); have n2_ := Aside0.mk (Kd.C_below (by repeat (first | (with_reducible exact HR226_0.out) | (with_reducible refine Kd.C_alloc ?_ _) | (with_reducible refine Kd.C_drewN ?_ _) | (with_reducible refine Kd.C_drew ?_) | exact HR226_0.out)) hb); have n3_ := Aside0.mk (below_step (by repeat (first | (with_reducible first | exact HB.out | apply below_alloc | apply pw_below_drewN | apply below_drew1) | exact HB.out)) hb); clear HO_17; clear HL226_0; clear HR226_0; clear HB; have HO_17 := n0_; have HL226_0 := n1_; have HR226_0 := n2_; have HB := n3_; clear n0_ n1_ n2_ n3_; (try clear hb); (try clear hb2); (try clear hk); (try clear hi)))
                        go_roundg k1
                        case measure => have := HK1.out; omega
                        case rel => exact ⟨(false), (wrap64 (x19_1 + 1)), (by first | rfl | (simp; done) | (simp [*]; done)), (by first | rfl | (simp; done) | (simp [*]; done)), H', ⟨by have := HK1.out; omega⟩, ⟨by (with_reducible repeat (first | apply Kd.N_alloc | apply Kd.N_drewN | apply Kd.N_drew)); exact HO_17.out⟩, ⟨by repeat (first | (with_reducible first | exact HB.out | apply below_alloc | apply pw_below_drewN | apply below_drew1) | exact HB.out)⟩⟩
                    · replace c16 := Bool.eq_false_iff.mpr c16
                      subst c16
                      have H1 : (some (false, false)) = some (r1, r2) := by rw [if_neg (show ¬ (false = true) by decide)] at H; exact H
                      clear H
                      have H := H1
                      clear H1
                      simp only [Option.some.injEq, Prod.mk.injEq] at H
                      obtain ⟨rfl, rfl⟩ := H
                      have p226 : 0 ≤ (x19_1 : Int) := of_decide_eq_true (by first | (with_reducible assumption) | assumption)
                      have q226 : x19_1 < (t223.length : Int) := of_decide_eq_true (by first | (with_reducible assumption) | assumption)
                      obtain ⟨ad226, A226_0, c226_0, e226, hx226_0, hl226_0, hi226_0⟩ := at_L3 (Kd.N_reads' HO_17.out).2.2 x19_1 p226 q226
                      cases e226
                      obtain ⟨ce226, hce226, hMe226, hcc226⟩ := Kd.N_get HO_17.out [] x19_1 p226 (by first | exact q226 | exact of_decide_eq_true (by first | (with_reducible assumption) | assumption) | (have e_ := (Kd.N_reads' HO_17.out).1; omega))
                      obtain ⟨ua226_0, uc226_0, rfl, ul226_0, ge226_0⟩ := Kd.FK_slice_open hMe226
                      have hv226_0 := hcc226 0 _ rfl
                      rw [Nat.add_zero, show ((Kd.slice 9 Kd.string)).sz = 1 from rfl, Nat.mul_one] at hv226_0
                      replace hv226_0 := Option.some.inj (hv226_0.symm.trans hx226_0)
                      injection hv226_0 with hva_ hvn_ hvc_
                      rw [hva_] at ge226_0
                      rw [hvc_] at ul226_0
                      have HL226_0 := Aside0.mk (show Kd.V Kd.string 9 _ w.heap.size _ _ (rd_L3 t223 x19_1) from Kd.V_mk ul226_0 ge226_0)
                      clear hva_ hvn_ hvc_ ge226_0 ul226_0
                      clear hcc226 hce226
                      have HR226_0 := Aside0.mk hi226_0
                      have HC226_0 := Aside0.mk hl226_0
                      clear hi226_0 hl226_0
                      replace p226 := eq_true p226
                      replace q226 := eq_true q226
                      have p227 : 0 ≤ (0 : Int) := (by omega)
                      have q227 : 0 < ((rd_L3 t223 x19_1).length : Int) := of_decide_eq_true (by first | (with_reducible assumption) | assumption)
                      obtain ⟨ad227, e227, hx227_0⟩ := Kd.at_string (by repeat (first | (with_reducible exact HR226_0.out) | (with_reducible refine Kd.C_alloc ?_ _) | (with_reducible refine Kd.C_drewN ?_ _) | (with_reducible refine Kd.C_drew ?_) | exact HR226_0.out)) 0 p227 q227
                      cases e227
                      have qi227 : (0 < (rd_L3 t223 x19_1).length) = True := eq_true (by omega)
                      (try rw [show ((0 : Int)).toNat = 0 from rfl] at hx227_0)
                      (try rw [Addr.add_zero'] at hx227_0)
                      replace p227 := eq_true p227
                      replace q227 := eq_true q227
                      go_wp2_with (first | ((with_reducible refine gate_callee (f := 57) rfl ?_); refine goesL_ (some 28) rfl rfl Try.func57 (by kernel_rfl) rfl #[.slice A0 l0.length c0, .string (rdOf ByteArray.empty (rd_L3 t223 x19_1) 0), .bool false] rfl (by (try simp only [List.map_toArray, List.map_cons, List.map_nil]); first | done | rfl | (simp only [List.length_drop, List.length_take]; rfl)) ?_; (with_reducible refine (impl_normal.calls k1 _ _ l0 (rdOf ByteArray.empty (rd_L3 t223 x19_1) 0) false t228 t229 true _ ?side1 ?side2 A12.out).mono ?_); (case side1 => repeat (first | exact (Kd.C_below HR0.out HB.out) | (with_reducible refine Kd.C_alloc ?_ _) | (with_reducible refine Kd.C_drewN ?_ _) | (with_reducible refine Kd.C_drew ?_))); (case side2 => exact HC0.out); rintro e w22 ⟨rfl, hb⟩; refine ⟨_, rfl, ?_⟩; have n0_ := Aside0.mk (Kd.N_below (by (with_reducible repeat (first | apply Kd.N_alloc | apply Kd.N_drewN | apply Kd.N_drew)); exact HO_17.out) hb); have n1_ := Aside0.mk (Kd.V_below (by (with_reducible repeat (first | apply Kd.V_alloc | apply Kd.V_drewN | apply Kd.V_drew)); exact HL226_0.out) hb); have n2_ := Aside0.mk (Kd.C_below (by repeat (first | (with_reducible exact HR226_0.out) | (with_reducible refine Kd.C_alloc ?_ _) | (with_reducible refine Kd.C_drewN ?_ _) | (with_reducible refine Kd.C_drew ?_) | exact HR226_0.out)) hb); have n3_ := Aside0.mk (below_step (by repeat (first | (with_reducible first | exact HB.out | apply below_alloc | apply pw_below_drewN | apply below_drew1) | exact HB.out)) hb); clear HO_17; clear HL226_0; clear HR226_0; clear HB; have HO_17 := n0_; have HL226_0 := n1_; have HR226_0 := n2_; have HB := n3_; clear n0_ n1_ n2_ n3_; (try clear hb); (try clear hb2); (try clear hk); (try clear hi); have p231 : 0 ≤ (1 : Int) := (by omega); have q231 : 1 < ((rd_L3 t223 x19_1).length : Int) := of_decide_eq_true (by first | (with_reducible assumption) | assumption); obtain ⟨ad231, e231, hx231_0⟩ := Kd.at_string (by repeat (first | (with_reducible exact HR226_0.out) | (with_reducible refine Kd.C_alloc ?_ _) | (with_reducible refine Kd.C_drewN ?_ _) | (with_reducible refine Kd.C_drew ?_) | exact HR226_0.out)) 1 p231 q231; obtain rfl : ad227 = ad231 := (by injection e231); (try simp only [show (1 : Int).toNat = 1 from rfl, Nat.reduceMul, Nat.reduceEqDiff, Go.Addr.add, ↓reduceIte] at hx231_0); have qi231 : (1 < (rd_L3 t223 x19_1).length) = True := eq_true (by omega); (try rw [show ((1 : Int)).toNat = 1 from rfl] at hx231_0); replace p231 := eq_true p231; replace q231 := eq_true q231) | ((with_reducible refine gate_callee (f := 57) rfl ?_); refine goesL_ (some 37) rfl rfl Try.func57 (by kernel_rfl) rfl #[.slice A0 l0.length c0, .string (rdOf ByteArray.empty (rd_L3 t223 x19_1) 1), .bool false] rfl (by (try simp only [List.map_toArray, List.map_cons, List.map_nil]); first | done | rfl | (simp only [List.length_drop, List.length_take]; rfl)) ?_; (with_reducible refine (impl_normal.calls k1 _ _ l0 (rdOf ByteArray.empty (rd_L3 t223 x19_1) 1) false t232 t233 false _ ?side1 ?side2 A14.out).mono ?_); (case side1 => repeat (first | exact (Kd.C_below HR0.out HB.out) | (with_reducible refine Kd.C_alloc ?_ _) | (with_reducible refine Kd.C_drewN ?_ _) | (with_reducible refine Kd.C_drew ?_))); (case side2 => exact HC0.out); rintro e w23 ⟨rfl, hb⟩; refine ⟨_, rfl, ?_⟩; have n0_ := Aside0.mk (Kd.N_below (by (with_reducible repeat (first | apply Kd.N_alloc | apply Kd.N_drewN | apply Kd.N_drew)); exact HO_17.out) hb); have n1_ := Aside0.mk (Kd.V_below (by (with_reducible repeat (first | apply Kd.V_alloc | apply Kd.V_drewN | apply Kd.V_drew)); exact HL226_0.out) hb); have n2_ := Aside0.mk (Kd.C_below (by repeat (first | (with_reducible exact HR226_0.out) | (with_reducible refine Kd.C_alloc ?_ _) | (with_reducible refine Kd.C_drewN ?_ _) | (with_reducible refine Kd.C_drew ?_) | exact HR226_0.out)) hb); have n3_ := Aside0.mk (below_step (by repeat (first | (with_reducible first | exact HB.out | apply below_alloc | apply pw_below_drewN | apply below_drew1) | exact HB.out)) hb); clear HO_17; clear HL226_0; clear HR226_0; clear HB; have HO_17 := n0_; have HL226_0 := n1_; have HR226_0 := n2_; have HB := n3_; clear n0_ n1_ n2_ n3_; (try clear hb); (try clear hb2); (try clear hk); (try clear hi)))
                      go_ret2
                      exact ⟨by first | rfl | (simp [errW_none, errW_some] <;> rfl) | (simp [*, errW_none, errW_some] <;> rfl), by repeat (first | (with_reducible first | exact HB.out | apply below_alloc | apply pw_below_drewN | apply below_drew1) | exact HB.out)⟩
                  · replace c15 := Bool.eq_false_iff.mpr c15
                    subst c15
                    have H1 : (some (false, false)) = some (r1, r2) := by rw [if_neg (show ¬ (false = true) by decide)] at H; exact H
                    clear H
                    have H := H1
                    clear H1
                    simp only [Option.some.injEq, Prod.mk.injEq] at H
                    obtain ⟨rfl, rfl⟩ := H
                    have p226 : 0 ≤ (x19_1 : Int) := of_decide_eq_true (by first | (with_reducible assumption) | assumption)
                    have q226 : x19_1 < (t223.length : Int) := of_decide_eq_true (by first | (with_reducible assumption) | assumption)
                    obtain ⟨ad226, A226_0, c226_0, e226, hx226_0, hl226_0, hi226_0⟩ := at_L3 (Kd.N_reads' HO_17.out).2.2 x19_1 p226 q226
                    cases e226
                    obtain ⟨ce226, hce226, hMe226, hcc226⟩ := Kd.N_get HO_17.out [] x19_1 p226 (by first | exact q226 | exact of_decide_eq_true (by first | (with_reducible assumption) | assumption) | (have e_ := (Kd.N_reads' HO_17.out).1; omega))
                    obtain ⟨ua226_0, uc226_0, rfl, ul226_0, ge226_0⟩ := Kd.FK_slice_open hMe226
                    have hv226_0 := hcc226 0 _ rfl
                    rw [Nat.add_zero, show ((Kd.slice 9 Kd.string)).sz = 1 from rfl, Nat.mul_one] at hv226_0
                    replace hv226_0 := Option.some.inj (hv226_0.symm.trans hx226_0)
                    injection hv226_0 with hva_ hvn_ hvc_
                    rw [hva_] at ge226_0
                    rw [hvc_] at ul226_0
                    have HL226_0 := Aside0.mk (show Kd.V Kd.string 9 _ w.heap.size _ _ (rd_L3 t223 x19_1) from Kd.V_mk ul226_0 ge226_0)
                    clear hva_ hvn_ hvc_ ge226_0 ul226_0
                    clear hcc226 hce226
                    have HR226_0 := Aside0.mk hi226_0
                    have HC226_0 := Aside0.mk hl226_0
                    clear hi226_0 hl226_0
                    replace p226 := eq_true p226
                    replace q226 := eq_true q226
                    have p227 : 0 ≤ (0 : Int) := (by omega)
                    have q227 : 0 < ((rd_L3 t223 x19_1).length : Int) := of_decide_eq_true (by first | (with_reducible assumption) | assumption)
                    obtain ⟨ad227, e227, hx227_0⟩ := Kd.at_string (by repeat (first | (with_reducible exact HR226_0.out) | (with_reducible refine Kd.C_alloc ?_ _) | (with_reducible refine Kd.C_drewN ?_ _) | (with_reducible refine Kd.C_drew ?_) | exact HR226_0.out)) 0 p227 q227
                    cases e227
                    have qi227 : (0 < (rd_L3 t223 x19_1).length) = True := eq_true (by omega)
                    (try rw [show ((0 : Int)).toNat = 0 from rfl] at hx227_0)
                    (try rw [Addr.add_zero'] at hx227_0)
                    replace p227 := eq_true p227
                    replace q227 := eq_true q227
                    go_wp2_with (first | ((with_reducible refine gate_callee (f := 57) rfl ?_); refine goesL_ (some 28) rfl rfl Try.func57 (by kernel_rfl) rfl #[.slice A0 l0.length c0, .string (rdOf ByteArray.empty (rd_L3 t223 x19_1) 0), .bool false] rfl (by (try simp only [List.map_toArray, List.map_cons, List.map_nil]); first | done | rfl | (simp only [List.length_drop, List.length_take]; rfl)) ?_; (with_reducible refine (impl_normal.calls k1 _ _ l0 (rdOf ByteArray.empty (rd_L3 t223 x19_1) 0) false t228 t229 false _ ?side1 ?side2 A12.out).mono ?_); (case side1 => repeat (first | exact (Kd.C_below HR0.out HB.out) | (with_reducible refine Kd.C_alloc ?_ _) | (with_reducible refine Kd.C_drewN ?_ _) | (with_reducible refine Kd.C_drew ?_))); (case side2 => exact HC0.out); rintro e w24 ⟨rfl, hb⟩; refine ⟨_, rfl, ?_⟩; have n0_ := Aside0.mk (Kd.N_below (by (with_reducible repeat (first | apply Kd.N_alloc | apply Kd.N_drewN | apply Kd.N_drew)); exact HO_17.out) hb); have n1_ := Aside0.mk (Kd.V_below (by (with_reducible repeat (first | apply Kd.V_alloc | apply Kd.V_drewN | apply Kd.V_drew)); exact HL226_0.out) hb); have n2_ := Aside0.mk (Kd.C_below (by repeat (first | (with_reducible exact HR226_0.out) | (with_reducible refine Kd.C_alloc ?_ _) | (with_reducible refine Kd.C_drewN ?_ _) | (with_reducible refine Kd.C_drew ?_) | exact HR226_0.out)) hb); have n3_ := Aside0.mk (below_step (by repeat (first | (with_reducible first | exact HB.out | apply below_alloc | apply pw_below_drewN | apply below_drew1) | exact HB.out)) hb); clear HO_17; clear HL226_0; clear HR226_0; clear HB; have HO_17 := n0_; have HL226_0 := n1_; have HR226_0 := n2_; have HB := n3_; clear n0_ n1_ n2_ n3_; (try clear hb); (try clear hb2); (try clear hk); (try clear hi); have p231 : 0 ≤ (1 : Int) := (by omega); have q231 : 1 < ((rd_L3 t223 x19_1).length : Int) := of_decide_eq_true (by first | (with_reducible assumption) | assumption); obtain ⟨ad231, e231, hx231_0⟩ := Kd.at_string (by repeat (first | (with_reducible exact HR226_0.out) | (with_reducible refine Kd.C_alloc ?_ _) | (with_reducible refine Kd.C_drewN ?_ _) | (with_reducible refine Kd.C_drew ?_) | exact HR226_0.out)) 1 p231 q231; obtain rfl : ad227 = ad231 := (by injection e231); (try simp only [show (1 : Int).toNat = 1 from rfl, Nat.reduceMul, Nat.reduceEqDiff, Go.Addr.add, ↓reduceIte] at hx231_0); have qi231 : (1 < (rd_L3 t223 x19_1).length) = True := eq_true (by omega); (try rw [show ((1 : Int)).toNat = 1 from rfl] at hx231_0); replace p231 := eq_true p231; replace q231 := eq_true q231) | ((with_reducible refine gate_callee (f := 57) rfl ?_); refine goesL_ (some 37) rfl rfl Try.func57 (by kernel_rfl) rfl #[.slice A0 l0.length c0, .string (rdOf ByteArray.empty (rd_L3 t223 x19_1) 1), .bool false] rfl (by (try simp only [List.map_toArray, List.map_cons, List.map_nil]); first | done | rfl | (simp only [List.length_drop, List.length_take]; rfl)) ?_; (with_reducible refine (impl_normal.calls k1 _ _ l0 (rdOf ByteArray.empty (rd_L3 t223 x19_1) 1) false t232 t233 t234 _ ?side1 ?side2 A14.out).mono ?_); (case side1 => repeat (first | exact (Kd.C_below HR0.out HB.out) | (with_reducible refine Kd.C_alloc ?_ _) | (with_reducible refine Kd.C_drewN ?_ _) | (with_reducible refine Kd.C_drew ?_))); (case side2 => exact HC0.out); rintro e w25 ⟨rfl, hb⟩; refine ⟨_, rfl, ?_⟩; have n0_ := Aside0.mk (Kd.N_below (by (with_reducible repeat (first | apply Kd.N_alloc | apply Kd.N_drewN | apply Kd.N_drew)); exact HO_17.out) hb); have n1_ := Aside0.mk (Kd.V_below (by (with_reducible repeat (first | apply Kd.V_alloc | apply Kd.V_drewN | apply Kd.V_drew)); exact HL226_0.out) hb); have n2_ := Aside0.mk (Kd.C_below (by repeat (first | (with_reducible exact HR226_0.out) | (with_reducible refine Kd.C_alloc ?_ _) | (with_reducible refine Kd.C_drewN ?_ _) | (with_reducible refine Kd.C_drew ?_) | exact HR226_0.out)) hb); have n3_ := Aside0.mk (below_step (by repeat (first | (with_reducible first | exact HB.out | apply below_alloc | apply pw_below_drewN | apply below_drew1) | exact HB.out)) hb); clear HO_17; clear HL226_0; clear HR226_0; clear HB; have HO_17 := n0_; have HL226_0 := n1_; have HR226_0 := n2_; have HB := n3_; clear n0_ n1_ n2_ n3_; (try clear hb); (try clear hb2); (try clear hk); (try clear hi)))
                    go_ret2
                    exact ⟨by first | rfl | (simp [errW_none, errW_some] <;> rfl) | (simp [*, errW_none, errW_some] <;> rfl), by repeat (first | (with_reducible first | exact HB.out | apply below_alloc | apply pw_below_drewN | apply below_drew1) | exact HB.out)⟩
                · rw [if_neg c13] at H
                  exact absurd H (by simp)
              · rw [if_neg c11] at H
                exact absurd H (by simp)
            · rw [if_neg c10] at H
              exact absurd H (by simp)
          · rw [if_neg c9] at H
            exact absurd H (by simp)
        · rw [if_neg c8] at H
          have c8b0 : decide (x19_1 < (t223.length : Int)) = false := decide_eq_false c8
          clear c8
          simp only [Option.some.injEq, Prod.mk.injEq] at H
          obtain ⟨rfl, rfl⟩ := H
          go_wp2
          go_ret2
          exact ⟨by first | rfl | (simp [errW_none, errW_some] <;> rfl) | (simp [*, errW_none, errW_some] <;> rfl), by repeat (first | (with_reducible first | exact HB.out | apply below_alloc | apply pw_below_drewN | apply below_drew1) | exact HB.out)⟩
  · replace c3 := Bool.eq_false_iff.mpr c3
    subst c3
    have H1 : (some (false, false)) = some (r1, r2) := by rw [if_neg (show ¬ (false = true) by decide)] at H; exact H
    clear H
    have H := H1
    clear H1
    simp only [Option.some.injEq, Prod.mk.injEq] at H
    obtain ⟨rfl, rfl⟩ := H
    go_enter Try.func25, Try.ntmps25
    go_wp2_with (first | ((with_reducible refine gate_callee (f := 10) rfl ?_); refine goesL_ (some 14) rfl rfl Try.func10 (by kernel_rfl) rfl #[.slice A0 l0.length c0] rfl (by (try simp only [List.map_toArray, List.map_cons, List.map_nil]); first | done | rfl | (simp only [List.length_drop, List.length_take]; rfl)) ?_; (with_reducible refine (impl_GoodRules.calls k _ _ l0 false _ ?side1 ?side2 A2.out).mono ?_); (case side1 => repeat (first | exact HR0.out | (with_reducible refine Kd.C_alloc ?_ _) | (with_reducible refine Kd.C_drewN ?_ _) | (with_reducible refine Kd.C_drew ?_))); (case side2 => exact HC0.out); rintro e w26 ⟨rfl, hb⟩; refine ⟨_, rfl, ?_⟩; have n0_ := Aside0.mk (below_step (by repeat (first | (with_reducible first | exact HB.out | apply below_alloc | apply pw_below_drewN | apply below_drew1) | exact HB.out)) hb); clear HB; have HB := n0_; clear n0_; (try clear hb); (try clear hb2); (try clear hk); (try clear hi)))
    go_ret2
    exact ⟨by first | rfl | (simp [errW_none, errW_some] <;> rfl) | (simp [*, errW_none, errW_some] <;> rfl), by repeat (first | (with_reducible first | exact HB.out | apply below_alloc | apply pw_below_drewN | apply below_drew1) | exact HB.out)⟩

end Go.Proofs.Ytmigpfkjhdaijab.L15
