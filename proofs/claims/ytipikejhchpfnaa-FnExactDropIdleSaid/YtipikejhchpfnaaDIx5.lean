-- PRINTED by print.py (a twelfth state) out of the translation. Not trusted: Lean checks it.
import Derived.Test.YtipikejhchpfnaaDIx0
import Derived.Test.YtipikejhchpfnaaDIx4
namespace Go.Proofs.Ytipikejhchpfnaa.DI
open Go.RowKit Go.Proofs.YtipikejhchpfnaaW.PrintWords Go.Proofs.YtipikejhchpfnaaW.PrintLast Go.Proofs.YtipikejhchpfnaaW.PrintMore
attribute [local go_sem] max2_int min2_int max_two min_two max_three min_three max_four min_four   -- for this text's walks alone
set_option linter.unusedVariables false
set_option linter.unusedSimpArgs false

/-! ### spec_l16Uses: function 79 -/
mutual
def spec_l16Uses.l0 : Nat → List Int → Int → Int → List (S77) → Int → Int → Option (Int × Bool)
  | 0, _, _, _, _, _, _ => none
  | k + 1, x2, x8, x9, x22, x23, x24 => if x24 < x23 then (if 0 ≤ x24 then (if x24 < (x22.length : Int) then ((spec_l9Uses.f ((rd_T77 x22 x24).f0) ((rd_T77 x22 x24).f1) ((rd_T77 x22 x24).f2) ((rd_T77 x22 x24).f3) ((rd_T77 x22 x24).f4) ((rd_T77 x22 x24).f5)).bind fun t174 => (spec_l16Uses.l1 k x2 x8 x9 x22 x23 x24 t174 (t174.length : Int) 0 ((rd_T77 x22 x24).f0) ((rd_T77 x22 x24).f1) ((rd_T77 x22 x24).f2) ((rd_T77 x22 x24).f3) ((rd_T77 x22 x24).f4) ((rd_T77 x22 x24).f5))) else (none)) else (none)) else ((spec_l1Has.f k x2 x9).bind fun t171 => (some (x8, t171)))
def spec_l16Uses.l1 : Nat → List Int → Int → Int → List (S77) → Int → Int → List Int → Int → Int → Int → Int → Int → Int → Int → Int → Option (Int × Bool)
  | 0, _, _, _, _, _, _, _, _, _, _, _, _, _, _, _ => none
  | k + 1, x2, x8, x9, x22, x23, x24, x29, x30, x31, x174000, x174001, x174002, x174003, x174004, x174005 => if x31 < x30 then (if 0 ≤ x31 then (if x31 < (x29.length : Int) then (if (rd x29 x31) = x9 then (spec_l16Uses.l1 k x2 (wrap64 (x8 + 1)) x9 x22 x23 x24 x29 x30 (wrap64 (x31 + 1)) x174000 x174001 x174002 x174003 x174004 x174005) else (spec_l16Uses.l1 k x2 x8 x9 x22 x23 x24 x29 x30 (wrap64 (x31 + 1)) x174000 x174001 x174002 x174003 x174004 x174005)) else (none)) else (none)) else ((spec_l9Sets.f x174000).bind fun t178 => (if t178 = true then (if x174002 = x9 then (some (x8, false)) else (spec_l16Uses.l0 k x2 x8 x9 x22 x23 (wrap64 (x24 + 1)))) else (spec_l16Uses.l0 k x2 x8 x9 x22 x23 (wrap64 (x24 + 1)))))
end
def spec_l16Uses.f (k : Nat) (l0 : List (S77)) (a1 : Int) (l2 : List Int) : Option (Int × Bool) := if 0 ≤ a1 then (if a1 < (l0.length : Int) then (if 0 ≤ (wrap64 (a1 + 1)) then (if (wrap64 (a1 + 1)) ≤ (l0.length : Int) then ((some (l0.drop ((wrap64 (a1 + 1)) : Int).toNat : List (S77))).bind fun y167 => (spec_l16Uses.l0 k l2 0 ((rd_T77 l0 a1).f2) y167 (y167.length : Int) 0)) else (none)) else (none)) else (none)) else (none)
theorem spec_l16Uses.mono_l : ∀ k, (∀ y0 y1 y2 y3 y4 y5, LeO (spec_l16Uses.l0 k y0 y1 y2 y3 y4 y5) (spec_l16Uses.l0 (k + 1) y0 y1 y2 y3 y4 y5)) ∧ (∀ y0 y1 y2 y3 y4 y5 y6 y7 y8 y9 y10 y11 y12 y13 y14, LeO (spec_l16Uses.l1 k y0 y1 y2 y3 y4 y5 y6 y7 y8 y9 y10 y11 y12 y13 y14) (spec_l16Uses.l1 (k + 1) y0 y1 y2 y3 y4 y5 y6 y7 y8 y9 y10 y11 y12 y13 y14))
  | 0 => ⟨fun _ _ _ _ _ _ r h => by simp [spec_l16Uses.l0] at h, fun _ _ _ _ _ _ _ _ _ _ _ _ _ _ _ r h => by simp [spec_l16Uses.l1] at h⟩
  | k + 1 => by
    obtain ⟨ih0, ih1⟩ := spec_l16Uses.mono_l k
    refine ⟨?_, ?_⟩
    · intro y0 y1 y2 y3 y4 y5
      unfold spec_l16Uses.l0
      repeat' first
      | (with_reducible exact ih0 _ _ _ _ _ _)
      | (with_reducible exact ih1 _ _ _ _ _ _ _ _ _ _ _ _ _ _ _)
      | (with_reducible exact spec_l1Has.mono _ _ _)
      | (with_reducible exact LeO.refl _)
      | (with_reducible exact LeO.none _)
      | (with_reducible refine LeO.ite ?_ ?_)
      | (with_reducible refine LeO.bind ?_ (fun _ => ?_))
      | exact ih0 _ _ _ _ _ _
      | exact ih1 _ _ _ _ _ _ _ _ _ _ _ _ _ _ _
      | exact spec_l1Has.mono _ _ _
      | exact LeO.none _
      | refine LeO.ite ?_ ?_
      | refine LeO.bind ?_ (fun _ => ?_)
    · intro y0 y1 y2 y3 y4 y5 y6 y7 y8 y9 y10 y11 y12 y13 y14
      unfold spec_l16Uses.l1
      repeat' first
      | (with_reducible exact ih0 _ _ _ _ _ _)
      | (with_reducible exact ih1 _ _ _ _ _ _ _ _ _ _ _ _ _ _ _)
      | (with_reducible exact spec_l1Has.mono _ _ _)
      | (with_reducible exact LeO.refl _)
      | (with_reducible exact LeO.none _)
      | (with_reducible refine LeO.ite ?_ ?_)
      | (with_reducible refine LeO.bind ?_ (fun _ => ?_))
      | exact ih0 _ _ _ _ _ _
      | exact ih1 _ _ _ _ _ _ _ _ _ _ _ _ _ _ _
      | exact spec_l1Has.mono _ _ _
      | exact LeO.none _
      | refine LeO.ite ?_ ?_
      | refine LeO.bind ?_ (fun _ => ?_)
theorem spec_l16Uses.mono : ∀ a0 a1 a2 k, LeO (spec_l16Uses.f k a0 a1 a2) (spec_l16Uses.f (k + 1) a0 a1 a2) := by
  intro a0 a1 a2 k
  obtain ⟨ih0, ih1⟩ := spec_l16Uses.mono_l k
  unfold spec_l16Uses.f
  repeat' first
      | (with_reducible exact ih0 _ _ _ _ _ _)
      | (with_reducible exact ih1 _ _ _ _ _ _ _ _ _ _ _ _ _ _ _)
      | (with_reducible exact spec_l1Has.mono _ _ _)
      | (with_reducible exact LeO.refl _)
      | (with_reducible exact LeO.none _)
      | (with_reducible refine LeO.ite ?_ ?_)
      | (with_reducible refine LeO.bind ?_ (fun _ => ?_))
      | exact ih0 _ _ _ _ _ _
      | exact ih1 _ _ _ _ _ _ _ _ _ _ _ _ _ _ _
      | exact spec_l1Has.mono _ _ _
      | exact LeO.none _
      | refine LeO.ite ?_ ?_
      | refine LeO.bind ?_ (fun _ => ?_)
set_option maxHeartbeats 8000000 in
set_option maxRecDepth 100000 in
theorem spec_l16Uses.calls (k : Nat) (A0 : Option Addr) (c0 : Nat) (l0 : List (S77)) (a1 : Int) (A2 : Option Addr) (c2 : Nat) (l2 : List Int) (r1 : Int) (r2 : Bool) (w : World) (hr0 : Kd.C k77 w A0 l0.length l0) (hc0 : l0.length ≤ c0) (hr2 : Kd.C (Kd.int .i64) w A2 l2.length l2) (hc2 : l2.length ≤ c2) (h : spec_l16Uses.f k l0 a1 l2 = some (r1, r2)) :
    Calls Try.prog 79 #[.slice A0 l0.length c0, .int .i64 a1, .slice A2 l2.length c2] w fun e w' => e = .returned (.tuple #[.int .i64 r1, .bool r2]) ∧ Below w.heap.size w w' := by
  have hu77 := Try.underlying77
  have HR0 := Aside0.mk hr0
  have HC0 := Aside0.mk hc0
  clear hr0 hc0
  have HR2 := Aside0.mk hr2
  have HC2 := Aside0.mk hc2
  clear hr2 hc2
  have HB := Aside0.mk (Below.refl w.heap.size w)
  have H : (if 0 ≤ a1 then (if a1 < (l0.length : Int) then (if 0 ≤ (wrap64 (a1 + 1)) then (if (wrap64 (a1 + 1)) ≤ (l0.length : Int) then ((some (l0.drop ((wrap64 (a1 + 1)) : Int).toNat : List (S77))).bind fun y167 => (spec_l16Uses.l0 k l2 0 ((rd_T77 l0 a1).f2) y167 (y167.length : Int) 0)) else (none)) else (none)) else (none)) else (none)) = some (r1, r2) := h
  clear h
  by_cases c4 : 0 ≤ a1
  · rw [if_pos c4] at H
    have c4b0 : decide (0 ≤ a1) = true := decide_eq_true c4
    clear c4
    by_cases c5 : a1 < (l0.length : Int)
    · rw [if_pos c5] at H
      have c5b0 : decide (a1 < (l0.length : Int)) = true := decide_eq_true c5
      clear c5
      obtain ⟨ji6, hji6⟩ : ∃ j_ : Int, (wrap64 (a1 + 1)) = j_ := ⟨_, rfl⟩
      replace H : (if 0 ≤ (ji6) then (if (ji6) ≤ (l0.length : Int) then ((some (l0.drop ((ji6) : Int).toNat : List (S77))).bind fun y167 => (spec_l16Uses.l0 k l2 0 ((rd_T77 l0 a1).f2) y167 (y167.length : Int) 0)) else (none)) else (none)) = some (r1, r2) := by first | (rw [hji6] at H; exact H) | (simp only [hji6] at H ⊢; exact H)
      have hji6w : (IntKind.i64.wrap (a1 + 1)) = ji6 := (i64_w _).trans hji6
      by_cases c7 : 0 ≤ (ji6)
      · rw [if_pos c7] at H
        have c7b0 := eq_true c7
        have c7b1 : decide (0 ≤ (ji6)) = true := decide_eq_true c7
        clear c7
        by_cases c8 : (ji6) ≤ (l0.length : Int)
        · rw [if_pos c8] at H
          have c8b0 := eq_true c8
          have c8b1 : decide ((ji6) ≤ (l0.length : Int)) = true := decide_eq_true c8
          clear c8
          obtain ⟨y167, hy167⟩ : ∃ y_ : List (S77), y_ = (l0.drop ((ji6) : Int).toNat) := ⟨_, rfl⟩
          replace H : (spec_l16Uses.l0 k l2 0 ((rd_T77 l0 a1).f2) y167 (y167.length : Int) 0) = some (r1, r2) := by first | (rw [hy167]; with_reducible exact H) | (have H2_ := (Option.bind_some _ _).symm.trans H; rw [hy167]; with_reducible exact H2_) | (have H2_ := (Option.bind_some _ _).symm.trans H; with_reducible exact H2_) | with_reducible exact H | (rw [hy167]; exact H) | exact H
          have Ny167 := Aside0.mk hy167
          clear hy167
          have H' := Aside0.mk H
          clear H
          have p166 : 0 ≤ (a1 : Int) := of_decide_eq_true (by first | (with_reducible assumption) | assumption)
          have q166 : a1 < (l0.length : Int) := of_decide_eq_true (by first | (with_reducible assumption) | assumption)
          obtain ⟨ad166, e166, hx166_0, hx166_1, hx166_2, hx166_3, hx166_4, hx166_5⟩ := at_T77 HR0.out a1 p166 q166
          cases e166
          replace p166 := eq_true p166
          replace q166 := eq_true q166
          have q9 : ((ji6) : Int) ≤ ((l0.length : Int) : Int) := of_decide_eq_true (by first | (with_reducible assumption) | assumption)
          obtain ⟨i09, hi09, _, hsz9, _⟩ := info_parts info77
          have hroom9 : l0.length ≤ c0 := HC0.out
          have hC9 : Kd.C k77 _ (some ad166) l0.length l0 := HR0.out
          have q09 : (0 : Int) ≤ ((ji6) : Int) := of_decide_eq_true (by first | (with_reducible assumption) | assumption)
          have hcut9 := cut_from (P := Try.prog) 27 77 .i64 Try.underlying27 hi09 6 hsz9 (some ad166) l0.length c0 (ji6) q09 q9
          have hr9 := Kd.C_drop (m := ((ji6) : Int).toNat) (c := c0) hC9 (by omega) hroom9
          obtain ⟨A9, hA9⟩ : ∃ A1, A1 = (if c0 = ((ji6) : Int).toNat then (some ad166) else ((some ad166) : Option Addr).map (·.add (((ji6) : Int).toNat * 6))) := ⟨_, rfl⟩
          obtain ⟨c9, hc9⟩ : ∃ c1, c1 = c0 - ((ji6) : Int).toNat := ⟨_, rfl⟩
          have hy9 : y167.length = l0.length - ((ji6) : Int).toNat := (by rw [Ny167.out, List.length_drop] <;> omega)
          rw [show (l0).drop ((ji6) : Int).toNat = y167 from Ny167.out.symm] at hr9
          replace hr9 : Kd.C k77 _ A9 y167.length y167 := (by rw [hA9]; exact hr9)
          rw [← hy9, ← hA9, ← hc9] at hcut9
          have HR170 := Aside0.mk hr9
          have HC170 := Aside0.mk (show y167.length ≤ c9 from by rw [hy9, hc9]; exact Nat.sub_le_sub_right hroom9 _)
          clear hr9 hC9 hroom9 hi09 hsz9 hc9
          have KY9 := Aside0.mk hy9
          have KA9 := Aside0.mk hA9
          clear hy9 hA9
          replace q9 := eq_true q9
          go_enter Try.func79, Try.ntmps79
          go_wp2
          go_loopg [8, 24] k (fun kq v8 v24 w' => ∃ (x8_1 : Int) (x24_1 : Int), v8 = .int .i64 x8_1 ∧ v24 = .int .i64 x24_1 ∧ Aside0 (spec_l16Uses.l0 kq l2 x8_1 ((rd_T77 l0 a1).f2) y167 (y167.length : Int) x24_1 = some (r1, r2)) ∧ Aside0 (kq ≤ k) ∧ Aside0 (Below w.heap.size w w'))
          case atStart => exact ⟨(0), (0), (by first | rfl | (simp; done) | (simp [*]; done)), (by first | rfl | (simp; done) | (simp [*]; done)), H', ⟨Nat.le_refl _⟩, ⟨by repeat (first | (with_reducible first | exact HB.out | apply below_alloc | apply pw_below_drewN | apply below_drew1) | exact HB.out)⟩⟩
          case round =>
            clear H'
            try clear c1
            try clear p1
            try clear q1
            try clear hx1
            try clear c2
            try clear p2
            try clear c4
            try clear c4b0
            try clear c5
            try clear c5b0
            try clear p6
            try clear c7
            try clear c7b0
            try clear c7b1
            try clear c8
            try clear c8b0
            try clear c8b1
            try clear c9
            try clear q9
            try clear hx166_0
            try clear hx166_1
            try clear hx166_2
            try clear hx166_3
            try clear hx166_4
            try clear hx166_5
            try clear p166
            try clear q09
            try clear q166
            try clear q9
            obtain ⟨x8_1, x24_1, rfl, rfl, HA, HK1, HB⟩ := hrel
            cases gk with
            | zero => exact absurd HA.out (by simp [spec_l16Uses.l0])
            | succ k1 =>
              have H := HA.out
              clear HA
              simp only [spec_l16Uses.l0] at H
              by_cases c10 : x24_1 < (y167.length : Int)
              · rw [if_pos c10] at H
                have c10b0 : decide (x24_1 < (y167.length : Int)) = true := decide_eq_true c10
                clear c10
                by_cases c11 : 0 ≤ x24_1
                · rw [if_pos c11] at H
                  have c11b0 : decide (0 ≤ x24_1) = true := decide_eq_true c11
                  clear c11
                  by_cases c12 : x24_1 < (y167.length : Int)
                  · rw [if_pos c12] at H
                    have c12b0 : decide (x24_1 < (y167.length : Int)) = true := decide_eq_true c12
                    clear c12
                    replace H := Option.bind_eq_some_iff.mp H
                    obtain ⟨t174, A130, H⟩ := H
                    replace H : (spec_l16Uses.l1 k1 l2 x8_1 ((rd_T77 l0 a1).f2) y167 (y167.length : Int) x24_1 t174 (t174.length : Int) 0 ((rd_T77 y167 x24_1).f0) ((rd_T77 y167 x24_1).f1) ((rd_T77 y167 x24_1).f2) ((rd_T77 y167 x24_1).f3) ((rd_T77 y167 x24_1).f4) ((rd_T77 y167 x24_1).f5)) = some (r1, r2) := H
                    have A13 := Aside0.mk A130
                    clear A130
                    have H' := Aside0.mk H
                    clear H
                    have p172 : 0 ≤ (x24_1 : Int) := of_decide_eq_true (by first | (with_reducible assumption) | assumption)
                    have q172 : x24_1 < (y167.length : Int) := of_decide_eq_true (by first | (with_reducible assumption) | assumption)
                    obtain ⟨ad172, e172, hx172_0, hx172_1, hx172_2, hx172_3, hx172_4, hx172_5⟩ := at_T77 HR170.out x24_1 p172 q172
                    cases e172
                    replace hx172_0 := (HB.out.cell (World.block_lt_of_cell? w _ hx172_0)).trans hx172_0
                    replace hx172_1 := (HB.out.cell (World.block_lt_of_cell? w _ hx172_1)).trans hx172_1
                    replace hx172_2 := (HB.out.cell (World.block_lt_of_cell? w _ hx172_2)).trans hx172_2
                    replace hx172_3 := (HB.out.cell (World.block_lt_of_cell? w _ hx172_3)).trans hx172_3
                    replace hx172_4 := (HB.out.cell (World.block_lt_of_cell? w _ hx172_4)).trans hx172_4
                    replace hx172_5 := (HB.out.cell (World.block_lt_of_cell? w _ hx172_5)).trans hx172_5
                    replace p172 := eq_true p172
                    replace q172 := eq_true q172
                    go_wp2_with (first | ((with_reducible refine gate_dst (N := 11) rfl ?_); refine box_event ?hg (N := 11) ?hd (cs := #[.int .i64 0, .int .i64 0, .int .i64 0, .int .i64 0, .int .i64 0, .int .i64 0]) (t := 77) ?hr ?_; (case hd => rfl); (case hg => rfl); (case hr => first | (go_simp; done) | (go_simp; rfl)); intro gb173 hg w14 hbox hb; have n0_ := Aside0.mk (below_step (by repeat (first | (with_reducible first | exact HB.out | apply below_alloc | apply pw_below_drewN | apply below_drew1) | exact HB.out)) hb); have n1_ := Aside0.mk (hbox); have n2_ := Aside0.mk ((by rw [hg]; exact (below_size (by repeat (first | (with_reducible first | exact HB.out | apply below_alloc | apply pw_below_drewN | apply below_drew1) | exact HB.out))) : w.heap.size ≤ gb173)); have n3_ := Aside0.mk ((by rw [hg]; exact (below_size (by repeat (first | (with_reducible first | exact HB.out | apply below_alloc | apply pw_below_drewN | apply below_drew1) | exact HB.out))) : w.heap.size ≤ gb173)); clear HB; have HB := n0_; have BK173 := n1_; have GW173 := n2_; have GE173 := n3_; clear n0_ n1_ n2_ n3_; clear hb hbox hg; have hcz15_0 : w14.cell? ⟨gb173, 0, none⟩ = some (.int .i64 0) := (blk_cell BK173.out 0).trans rfl; have hcz15_1 : w14.cell? ⟨gb173, 1, none⟩ = some (.int .i64 0) := (blk_cell BK173.out 1).trans rfl; have hcz15_2 : w14.cell? ⟨gb173, 2, none⟩ = some (.int .i64 0) := (blk_cell BK173.out 2).trans rfl; have hcz15_3 : w14.cell? ⟨gb173, 3, none⟩ = some (.int .i64 0) := (blk_cell BK173.out 3).trans rfl; have hcz15_4 : w14.cell? ⟨gb173, 4, none⟩ = some (.int .i64 0) := (blk_cell BK173.out 4).trans rfl; have hcz15_5 : w14.cell? ⟨gb173, 5, none⟩ = some (.int .i64 0) := (blk_cell BK173.out 5).trans rfl; have hfz15_0 := blk_frozen BK173.out 0; have hfz15_1 := blk_frozen BK173.out 1; have hfz15_2 := blk_frozen BK173.out 2; have hfz15_3 := blk_frozen BK173.out 3; have hfz15_4 := blk_frozen BK173.out 4; have hfz15_5 := blk_frozen BK173.out 5) | ((with_reducible refine gate_callee (f := 69) rfl ?_); refine goesL_ (some 29) rfl rfl Try.func69 (by kernel_rfl) rfl #[.agg #[.int .i64 ((rd_T77 y167 x24_1).f0), .int .i64 ((rd_T77 y167 x24_1).f1), .int .i64 ((rd_T77 y167 x24_1).f2), .int .i64 ((rd_T77 y167 x24_1).f3), .int .i64 ((rd_T77 y167 x24_1).f4), .int .i64 ((rd_T77 y167 x24_1).f5)]] rfl (by (try simp only [List.map_toArray, List.map_cons, List.map_nil]); first | done | rfl | (simp only [List.length_drop, List.length_take]; rfl)) ?_; (with_reducible refine (spec_l9Uses.calls ((rd_T77 y167 x24_1).f0) ((rd_T77 y167 x24_1).f1) ((rd_T77 y167 x24_1).f2) ((rd_T77 y167 x24_1).f3) ((rd_T77 y167 x24_1).f4) ((rd_T77 y167 x24_1).f5) t174 _ A13.out).mono ?_); rintro e w16 ⟨v175, rfl, ho0, hb⟩; refine ⟨_, rfl, ?_⟩; have n0_ := Aside0.mk (Kd.R_lower ho0 (below_size (by repeat (first | (with_reducible first | exact HB.out | apply below_alloc | apply pw_below_drewN | apply below_drew1 | refine below_set ?_ GE173.out) | exact HB.out)))); have n1_ := Aside0.mk (blk_below (g := gb173) (o := .cells #[.int .i64 ((rd_T77 y167 x24_1).f0), .int .i64 ((rd_T77 y167 x24_1).f1), .int .i64 ((rd_T77 y167 x24_1).f2), .int .i64 ((rd_T77 y167 x24_1).f3), .int .i64 ((rd_T77 y167 x24_1).f4), .int .i64 ((rd_T77 y167 x24_1).f5)] 77 (0, 0)) (by (with_reducible repeat (first | refine blk_drewN ?_ _ | refine blk_drew ?_ | refine blk_alloc ?_ _)); refine blk_put (cs := #[.int .i64 ((rd_T77 y167 x24_1).f0), .int .i64 ((rd_T77 y167 x24_1).f1), .int .i64 ((rd_T77 y167 x24_1).f2), .int .i64 ((rd_T77 y167 x24_1).f3), .int .i64 ((rd_T77 y167 x24_1).f4), .int .i64 0]) ?_ 5 _ rfl; (with_reducible repeat (first | refine blk_drewN ?_ _ | refine blk_drew ?_ | refine blk_alloc ?_ _)); refine blk_put (cs := #[.int .i64 ((rd_T77 y167 x24_1).f0), .int .i64 ((rd_T77 y167 x24_1).f1), .int .i64 ((rd_T77 y167 x24_1).f2), .int .i64 ((rd_T77 y167 x24_1).f3), .int .i64 0, .int .i64 0]) ?_ 4 _ rfl; (with_reducible repeat (first | refine blk_drewN ?_ _ | refine blk_drew ?_ | refine blk_alloc ?_ _)); refine blk_put (cs := #[.int .i64 ((rd_T77 y167 x24_1).f0), .int .i64 ((rd_T77 y167 x24_1).f1), .int .i64 ((rd_T77 y167 x24_1).f2), .int .i64 0, .int .i64 0, .int .i64 0]) ?_ 3 _ rfl; (with_reducible repeat (first | refine blk_drewN ?_ _ | refine blk_drew ?_ | refine blk_alloc ?_ _)); refine blk_put (cs := #[.int .i64 ((rd_T77 y167 x24_1).f0), .int .i64 ((rd_T77 y167 x24_1).f1), .int .i64 0, .int .i64 0, .int .i64 0, .int .i64 0]) ?_ 2 _ rfl; (with_reducible repeat (first | refine blk_drewN ?_ _ | refine blk_drew ?_ | refine blk_alloc ?_ _)); refine blk_put (cs := #[.int .i64 ((rd_T77 y167 x24_1).f0), .int .i64 0, .int .i64 0, .int .i64 0, .int .i64 0, .int .i64 0]) ?_ 1 _ rfl; (with_reducible repeat (first | refine blk_drewN ?_ _ | refine blk_drew ?_ | refine blk_alloc ?_ _)); refine blk_put (cs := #[.int .i64 0, .int .i64 0, .int .i64 0, .int .i64 0, .int .i64 0, .int .i64 0]) ?_ 0 _ rfl; (with_reducible repeat (first | refine blk_drewN ?_ _ | refine blk_drew ?_ | refine blk_alloc ?_ _)); exact BK173.out) hb); have n2_ := Aside0.mk (below_step (by repeat (first | (with_reducible first | exact HB.out | apply below_alloc | apply pw_below_drewN | apply below_drew1 | refine below_set ?_ GE173.out) | exact HB.out)) hb); clear BK173; clear HB; have HO176 := n0_; have BK173 := n1_; have HB := n2_; clear n0_ n1_ n2_; (try clear hb); (try clear hb2); (try clear hk); (try clear hi); (try clear ho0); obtain ⟨Ao17, co17, eo17⟩ := Kd.R_slice HO176.out; subst eo17))
                    go_loopg [8, 31] k1 (fun kq v8 v31 w' => ∃ (x8_2 : Int) (x31_2 : Int), v8 = .int .i64 x8_2 ∧ v31 = .int .i64 x31_2 ∧ Aside0 (spec_l16Uses.l1 kq l2 x8_2 ((rd_T77 l0 a1).f2) y167 (y167.length : Int) x24_1 t174 (t174.length : Int) x31_2 ((rd_T77 y167 x24_1).f0) ((rd_T77 y167 x24_1).f1) ((rd_T77 y167 x24_1).f2) ((rd_T77 y167 x24_1).f3) ((rd_T77 y167 x24_1).f4) ((rd_T77 y167 x24_1).f5) = some (r1, r2)) ∧ Aside0 (kq ≤ k1) ∧ Aside0 (Kd.R (Kd.int .i64) 3 w' w.heap.size (fun _ => True) (.slice Ao17 t174.length co17) t174) ∧ Aside0 (w'.heap[gb173]? = some (.cells #[.int .i64 ((rd_T77 y167 x24_1).f0), .int .i64 ((rd_T77 y167 x24_1).f1), .int .i64 ((rd_T77 y167 x24_1).f2), .int .i64 ((rd_T77 y167 x24_1).f3), .int .i64 ((rd_T77 y167 x24_1).f4), .int .i64 ((rd_T77 y167 x24_1).f5)] 77 (0, 0))) ∧ Aside0 (Below w.heap.size w w'))
                    case atStart => exact ⟨(x8_1), (0), (by first | rfl | (simp; done) | (simp [*]; done)), (by first | rfl | (simp; done) | (simp [*]; done)), H', ⟨Nat.le_refl _⟩, ⟨by (with_reducible repeat (first | apply Kd.R_alloc | apply Kd.R_drewN | apply Kd.R_drew)); exact HO176.out⟩, ⟨by (with_reducible repeat (first | refine blk_drewN ?_ _ | refine blk_drew ?_ | refine blk_alloc ?_ _)); exact BK173.out⟩, ⟨by repeat (first | (with_reducible first | exact HB.out | apply below_alloc | apply pw_below_drewN | apply below_drew1 | refine below_set ?_ GE173.out) | exact HB.out)⟩⟩
                    case round =>
                      clear H'
                      try clear c1
                      try clear p1
                      try clear q1
                      try clear hx1
                      try clear c2
                      try clear p2
                      try clear c4
                      try clear c4b0
                      try clear c5
                      try clear c5b0
                      try clear c6
                      try clear p6
                      try clear c7
                      try clear c7b0
                      try clear c7b1
                      try clear c8
                      try clear c8b0
                      try clear c8b1
                      try clear c9
                      try clear q9
                      try clear c10
                      try clear c10b0
                      try clear c11
                      try clear c11b0
                      try clear c12
                      try clear c12b0
                      try clear p16
                      try clear q16
                      try clear hx16
                      try clear p17
                      try clear q17
                      try clear hx17
                      try clear hcz15_0
                      try clear hcz15_1
                      try clear hcz15_2
                      try clear hcz15_3
                      try clear hcz15_4
                      try clear hcz15_5
                      try clear hfz15_0
                      try clear hfz15_1
                      try clear hfz15_2
                      try clear hfz15_3
                      try clear hfz15_4
                      try clear hfz15_5
                      try clear hx166_0
                      try clear hx166_1
                      try clear hx166_2
                      try clear hx166_3
                      try clear hx166_4
                      try clear hx166_5
                      try clear hx172_0
                      try clear hx172_1
                      try clear hx172_2
                      try clear hx172_3
                      try clear hx172_4
                      try clear hx172_5
                      try clear p1
                      try clear p166
                      try clear p172
                      try clear p2
                      try clear p6
                      try clear q09
                      try clear q1
                      try clear q166
                      try clear q172
                      try clear q9
                      obtain ⟨x8_2, x31_2, rfl, rfl, HA, HK2, HO_29, BK173, HB⟩ := hrel
                      cases gk with
                      | zero => exact absurd HA.out (by simp [spec_l16Uses.l1])
                      | succ k2 =>
                        have H := HA.out
                        clear HA
                        simp only [spec_l16Uses.l1] at H
                        by_cases c18 : x31_2 < (t174.length : Int)
                        · rw [if_pos c18] at H
                          have c18b0 : decide (x31_2 < (t174.length : Int)) = true := decide_eq_true c18
                          clear c18
                          by_cases c19 : 0 ≤ x31_2
                          · rw [if_pos c19] at H
                            have c19b0 : decide (0 ≤ x31_2) = true := decide_eq_true c19
                            clear c19
                            by_cases c20 : x31_2 < (t174.length : Int)
                            · rw [if_pos c20] at H
                              have c20b0 : decide (x31_2 < (t174.length : Int)) = true := decide_eq_true c20
                              clear c20
                              by_cases c21 : (rd t174 x31_2) = ((rd_T77 l0 a1).f2)
                              · rw [if_pos c21] at H
                                have c21b0 : ((rd t174 x31_2) == ((rd_T77 l0 a1).f2)) = true := beq_iff_eq.mpr c21
                                have c21b1 : ((rd t174 x31_2) != ((rd_T77 l0 a1).f2)) = false := bne_eq_false_iff_eq.mpr c21
                                clear c21
                                have H' := Aside0.mk H
                                clear H
                                have p177 : 0 ≤ (x31_2 : Int) := of_decide_eq_true (by first | (with_reducible assumption) | assumption)
                                have q177 : x31_2 < (t174.length : Int) := of_decide_eq_true (by first | (with_reducible assumption) | assumption)
                                obtain ⟨ad177, e177, hx177_0⟩ := Kd.at_int (Kd.R_reads' HO_29.out).2.2 x31_2 p177 q177
                                cases e177
                                replace p177 := eq_true p177
                                replace q177 := eq_true q177
                                go_wp2
                                go_roundg k2
                                case measure => have := HK1.out; have := HK2.out; omega
                                case rel => exact ⟨(wrap64 (x8_2 + 1)), (wrap64 (x31_2 + 1)), (by first | rfl | (simp; done) | (simp [*]; done)), (by first | rfl | (simp; done) | (simp [*]; done)), H', ⟨by have := HK1.out; have := HK2.out; omega⟩, ⟨by (with_reducible repeat (first | apply Kd.R_alloc | apply Kd.R_drewN | apply Kd.R_drew)); exact HO_29.out⟩, ⟨by (with_reducible repeat (first | refine blk_drewN ?_ _ | refine blk_drew ?_ | refine blk_alloc ?_ _)); exact BK173.out⟩, ⟨by repeat (first | (with_reducible first | exact HB.out | apply below_alloc | apply pw_below_drewN | apply below_drew1 | refine below_set ?_ GE173.out) | exact HB.out)⟩⟩
                              · rw [if_neg c21] at H
                                have c21b0 : ((rd t174 x31_2) == ((rd_T77 l0 a1).f2)) = false := beq_eq_false_iff_ne.mpr c21
                                have c21b1 : ((rd t174 x31_2) != ((rd_T77 l0 a1).f2)) = true := bne_iff_ne.mpr c21
                                have H' := Aside0.mk H
                                clear H
                                have p177 : 0 ≤ (x31_2 : Int) := of_decide_eq_true (by first | (with_reducible assumption) | assumption)
                                have q177 : x31_2 < (t174.length : Int) := of_decide_eq_true (by first | (with_reducible assumption) | assumption)
                                obtain ⟨ad177, e177, hx177_0⟩ := Kd.at_int (Kd.R_reads' HO_29.out).2.2 x31_2 p177 q177
                                cases e177
                                replace p177 := eq_true p177
                                replace q177 := eq_true q177
                                go_wp2
                                go_roundg k2
                                case measure => have := HK1.out; have := HK2.out; omega
                                case rel => exact ⟨(x8_2), (wrap64 (x31_2 + 1)), (by first | rfl | (simp; done) | (simp [*]; done)), (by first | rfl | (simp; done) | (simp [*]; done)), H', ⟨by have := HK1.out; have := HK2.out; omega⟩, ⟨by (with_reducible repeat (first | apply Kd.R_alloc | apply Kd.R_drewN | apply Kd.R_drew)); exact HO_29.out⟩, ⟨by (with_reducible repeat (first | refine blk_drewN ?_ _ | refine blk_drew ?_ | refine blk_alloc ?_ _)); exact BK173.out⟩, ⟨by repeat (first | (with_reducible first | exact HB.out | apply below_alloc | apply pw_below_drewN | apply below_drew1 | refine below_set ?_ GE173.out) | exact HB.out)⟩⟩
                            · rw [if_neg c20] at H
                              exact absurd H (by simp)
                          · rw [if_neg c19] at H
                            exact absurd H (by simp)
                        · rw [if_neg c18] at H
                          have c18b0 : decide (x31_2 < (t174.length : Int)) = false := decide_eq_false c18
                          clear c18
                          replace H := Option.bind_eq_some_iff.mp H
                          obtain ⟨t178, A220, H⟩ := H
                          replace H : (if t178 = true then (if ((rd_T77 y167 x24_1).f2) = ((rd_T77 l0 a1).f2) then (some (x8_2, false)) else (spec_l16Uses.l0 k2 l2 x8_2 ((rd_T77 l0 a1).f2) y167 (y167.length : Int) (wrap64 (x24_1 + 1)))) else (spec_l16Uses.l0 k2 l2 x8_2 ((rd_T77 l0 a1).f2) y167 (y167.length : Int) (wrap64 (x24_1 + 1)))) = some (r1, r2) := H
                          have A22 := Aside0.mk A220
                          clear A220
                          by_cases c23 : t178 = true
                          · subst c23
                            have H1 : (if ((rd_T77 y167 x24_1).f2) = ((rd_T77 l0 a1).f2) then (some (x8_2, false)) else (spec_l16Uses.l0 k2 l2 x8_2 ((rd_T77 l0 a1).f2) y167 (y167.length : Int) (wrap64 (x24_1 + 1)))) = some (r1, r2) := by rw [if_pos rfl] at H; exact H
                            clear H
                            have H := H1
                            clear H1
                            by_cases c24 : ((rd_T77 y167 x24_1).f2) = ((rd_T77 l0 a1).f2)
                            · rw [if_pos c24] at H
                              have c24b0 : (((rd_T77 y167 x24_1).f2) == ((rd_T77 l0 a1).f2)) = true := beq_iff_eq.mpr c24
                              have c24b1 : (((rd_T77 y167 x24_1).f2) != ((rd_T77 l0 a1).f2)) = false := bne_eq_false_iff_eq.mpr c24
                              clear c24
                              simp only [Option.some.injEq, Prod.mk.injEq] at H
                              obtain ⟨rfl, rfl⟩ := H
                              have hcz25_0 : wr.cell? ⟨gb173, 0, none⟩ = some (.int .i64 ((rd_T77 y167 x24_1).f0)) := (blk_cell BK173.out 0).trans rfl
                              have hcz25_1 : wr.cell? ⟨gb173, 1, none⟩ = some (.int .i64 ((rd_T77 y167 x24_1).f1)) := (blk_cell BK173.out 1).trans rfl
                              have hcz25_2 : wr.cell? ⟨gb173, 2, none⟩ = some (.int .i64 ((rd_T77 y167 x24_1).f2)) := (blk_cell BK173.out 2).trans rfl
                              have hcz25_3 : wr.cell? ⟨gb173, 3, none⟩ = some (.int .i64 ((rd_T77 y167 x24_1).f3)) := (blk_cell BK173.out 3).trans rfl
                              have hcz25_4 : wr.cell? ⟨gb173, 4, none⟩ = some (.int .i64 ((rd_T77 y167 x24_1).f4)) := (blk_cell BK173.out 4).trans rfl
                              have hcz25_5 : wr.cell? ⟨gb173, 5, none⟩ = some (.int .i64 ((rd_T77 y167 x24_1).f5)) := (blk_cell BK173.out 5).trans rfl
                              have hfz25_0 := blk_frozen BK173.out 0
                              have hfz25_1 := blk_frozen BK173.out 1
                              have hfz25_2 := blk_frozen BK173.out 2
                              have hfz25_3 := blk_frozen BK173.out 3
                              have hfz25_4 := blk_frozen BK173.out 4
                              have hfz25_5 := blk_frozen BK173.out 5
                              go_wp2_with (first | ((with_reducible refine gate_callee (f := 61) rfl ?_); refine goesL_ (some 43) rfl rfl Try.func61 (by kernel_rfl) rfl #[.int .i64 ((rd_T77 y167 x24_1).f0)] rfl (by (try simp only [List.map_toArray, List.map_cons, List.map_nil]); first | done | rfl | (simp only [List.length_drop, List.length_take]; rfl)) ?_; (with_reducible refine (spec_l9Sets.calls ((rd_T77 y167 x24_1).f0) true _ A22.out).mono ?_); rintro e w' ⟨rfl, ⟨nd, rfl⟩⟩; refine ⟨_, rfl, ?_⟩))
                              go_ret2
                              exact ⟨by first | rfl | (simp [errW_none, errW_some] <;> rfl) | (simp only [← hji6]; first | rfl | (simp [errW_none, errW_some] <;> rfl)) | (simp [*, errW_none, errW_some] <;> rfl), by repeat (first | (with_reducible first | exact HB.out | apply below_alloc | apply pw_below_drewN | apply below_drew1 | refine below_set ?_ GE173.out) | exact HB.out)⟩
                            · rw [if_neg c24] at H
                              have c24b0 : (((rd_T77 y167 x24_1).f2) == ((rd_T77 l0 a1).f2)) = false := beq_eq_false_iff_ne.mpr c24
                              have c24b1 : (((rd_T77 y167 x24_1).f2) != ((rd_T77 l0 a1).f2)) = true := bne_iff_ne.mpr c24
                              have H' := Aside0.mk H
                              clear H
                              have hcz26_0 : wr.cell? ⟨gb173, 0, none⟩ = some (.int .i64 ((rd_T77 y167 x24_1).f0)) := (blk_cell BK173.out 0).trans rfl
                              have hcz26_1 : wr.cell? ⟨gb173, 1, none⟩ = some (.int .i64 ((rd_T77 y167 x24_1).f1)) := (blk_cell BK173.out 1).trans rfl
                              have hcz26_2 : wr.cell? ⟨gb173, 2, none⟩ = some (.int .i64 ((rd_T77 y167 x24_1).f2)) := (blk_cell BK173.out 2).trans rfl
                              have hcz26_3 : wr.cell? ⟨gb173, 3, none⟩ = some (.int .i64 ((rd_T77 y167 x24_1).f3)) := (blk_cell BK173.out 3).trans rfl
                              have hcz26_4 : wr.cell? ⟨gb173, 4, none⟩ = some (.int .i64 ((rd_T77 y167 x24_1).f4)) := (blk_cell BK173.out 4).trans rfl
                              have hcz26_5 : wr.cell? ⟨gb173, 5, none⟩ = some (.int .i64 ((rd_T77 y167 x24_1).f5)) := (blk_cell BK173.out 5).trans rfl
                              have hfz26_0 := blk_frozen BK173.out 0
                              have hfz26_1 := blk_frozen BK173.out 1
                              have hfz26_2 := blk_frozen BK173.out 2
                              have hfz26_3 := blk_frozen BK173.out 3
                              have hfz26_4 := blk_frozen BK173.out 4
                              have hfz26_5 := blk_frozen BK173.out 5
                              go_wp2_with (first | ((with_reducible refine gate_callee (f := 61) rfl ?_); refine goesL_ (some 43) rfl rfl Try.func61 (by kernel_rfl) rfl #[.int .i64 ((rd_T77 y167 x24_1).f0)] rfl (by (try simp only [List.map_toArray, List.map_cons, List.map_nil]); first | done | rfl | (simp only [List.length_drop, List.length_take]; rfl)) ?_; (with_reducible refine (spec_l9Sets.calls ((rd_T77 y167 x24_1).f0) true _ A22.out).mono ?_); rintro e w' ⟨rfl, ⟨nd, rfl⟩⟩; refine ⟨_, rfl, ?_⟩))
                              go_roundg k2
                              case measure => have := HK1.out; have := HK2.out; omega
                              case rel => exact ⟨(x8_2), (wrap64 (x24_1 + 1)), (by first | rfl | (simp; done) | (simp [*]; done)), (by first | rfl | (simp; done) | (simp [*]; done)), H', ⟨by have := HK1.out; have := HK2.out; omega⟩, ⟨by repeat (first | (with_reducible first | exact HB.out | apply below_alloc | apply pw_below_drewN | apply below_drew1 | refine below_set ?_ GE173.out) | exact HB.out)⟩⟩
                          · replace c23 := Bool.eq_false_iff.mpr c23
                            subst c23
                            have H1 : (spec_l16Uses.l0 k2 l2 x8_2 ((rd_T77 l0 a1).f2) y167 (y167.length : Int) (wrap64 (x24_1 + 1))) = some (r1, r2) := by rw [if_neg (show ¬ (false = true) by decide)] at H; exact H
                            clear H
                            have H := H1
                            clear H1
                            have H' := Aside0.mk H
                            clear H
                            have hcz27_0 : wr.cell? ⟨gb173, 0, none⟩ = some (.int .i64 ((rd_T77 y167 x24_1).f0)) := (blk_cell BK173.out 0).trans rfl
                            have hcz27_1 : wr.cell? ⟨gb173, 1, none⟩ = some (.int .i64 ((rd_T77 y167 x24_1).f1)) := (blk_cell BK173.out 1).trans rfl
                            have hcz27_2 : wr.cell? ⟨gb173, 2, none⟩ = some (.int .i64 ((rd_T77 y167 x24_1).f2)) := (blk_cell BK173.out 2).trans rfl
                            have hcz27_3 : wr.cell? ⟨gb173, 3, none⟩ = some (.int .i64 ((rd_T77 y167 x24_1).f3)) := (blk_cell BK173.out 3).trans rfl
                            have hcz27_4 : wr.cell? ⟨gb173, 4, none⟩ = some (.int .i64 ((rd_T77 y167 x24_1).f4)) := (blk_cell BK173.out 4).trans rfl
                            have hcz27_5 : wr.cell? ⟨gb173, 5, none⟩ = some (.int .i64 ((rd_T77 y167 x24_1).f5)) := (blk_cell BK173.out 5).trans rfl
                            have hfz27_0 := blk_frozen BK173.out 0
                            have hfz27_1 := blk_frozen BK173.out 1
                            have hfz27_2 := blk_frozen BK173.out 2
                            have hfz27_3 := blk_frozen BK173.out 3
                            have hfz27_4 := blk_frozen BK173.out 4
                            have hfz27_5 := blk_frozen BK173.out 5
                            go_wp2_with (first | ((with_reducible refine gate_callee (f := 61) rfl ?_); refine goesL_ (some 43) rfl rfl Try.func61 (by kernel_rfl) rfl #[.int .i64 ((rd_T77 y167 x24_1).f0)] rfl (by (try simp only [List.map_toArray, List.map_cons, List.map_nil]); first | done | rfl | (simp only [List.length_drop, List.length_take]; rfl)) ?_; (with_reducible refine (spec_l9Sets.calls ((rd_T77 y167 x24_1).f0) false _ A22.out).mono ?_); rintro e w' ⟨rfl, ⟨nd, rfl⟩⟩; refine ⟨_, rfl, ?_⟩))
                            go_roundg k2
                            case measure => have := HK1.out; have := HK2.out; omega
                            case rel => exact ⟨(x8_2), (wrap64 (x24_1 + 1)), (by first | rfl | (simp; done) | (simp [*]; done)), (by first | rfl | (simp; done) | (simp [*]; done)), H', ⟨by have := HK1.out; have := HK2.out; omega⟩, ⟨by repeat (first | (with_reducible first | exact HB.out | apply below_alloc | apply pw_below_drewN | apply below_drew1 | refine below_set ?_ GE173.out) | exact HB.out)⟩⟩
                  · rw [if_neg c12] at H
                    exact absurd H (by simp)
                · rw [if_neg c11] at H
                  exact absurd H (by simp)
              · rw [if_neg c10] at H
                have c10b0 : decide (x24_1 < (y167.length : Int)) = false := decide_eq_false c10
                clear c10
                replace H := Option.bind_eq_some_iff.mp H
                obtain ⟨t171, A280, H⟩ := H
                replace H : (some (x8_1, t171)) = some (r1, r2) := H
                have A28 := Aside0.mk A280
                clear A280
                simp only [Option.some.injEq, Prod.mk.injEq] at H
                obtain ⟨rfl, rfl⟩ := H
                go_wp2_with (first | ((with_reducible refine gate_callee (f := 70) rfl ?_); refine goesL_ (some 55) rfl rfl Try.func70 (by kernel_rfl) rfl #[.slice A2 l2.length c2, .int .i64 ((rd_T77 l0 a1).f2)] rfl (by (try simp only [List.map_toArray, List.map_cons, List.map_nil]); first | done | rfl | (simp only [List.length_drop, List.length_take]; rfl)) ?_; (with_reducible refine (spec_l1Has.calls k1 _ _ l2 ((rd_T77 l0 a1).f2) t171 _ ?side1 ?side2 A28.out).mono ?_); (case side1 => repeat (first | exact (Kd.C_below HR2.out HB.out) | (with_reducible refine Kd.C_alloc ?_ _) | (with_reducible refine Kd.C_drewN ?_ _) | (with_reducible refine Kd.C_drew ?_))); (case side2 => exact HC2.out); rintro e w' ⟨rfl, ⟨nd, rfl⟩⟩; refine ⟨_, rfl, ?_⟩))
                go_ret2
                exact ⟨by first | rfl | (simp [errW_none, errW_some] <;> rfl) | (simp only [← hji6]; first | rfl | (simp [errW_none, errW_some] <;> rfl)) | (simp [*, errW_none, errW_some] <;> rfl), by repeat (first | (with_reducible first | exact HB.out | apply below_alloc | apply pw_below_drewN | apply below_drew1) | exact HB.out)⟩
        · rw [if_neg c8] at H
          exact absurd H (by simp)
      · rw [if_neg c7] at H
        exact absurd H (by simp)
    · rw [if_neg c5] at H
      exact absurd H (by simp)
  · rw [if_neg c4] at H
    exact absurd H (by simp)

end Go.Proofs.Ytipikejhchpfnaa.DI
