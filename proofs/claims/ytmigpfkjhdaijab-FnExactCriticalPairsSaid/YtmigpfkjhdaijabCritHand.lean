/- The critical pairs: rows of rows, the program's own and its marks, and the law's walk, where all that is asked answers yes. Conditions: in each theorem. -/
import Derived.Test.YtmigpfkjhdaijabCPx
import Derived.Outline
import Derived.Shelf.Abstract
namespace Go.Proofs.Ytmigpfkjhdaijab.CP
open Go.RowKit Go.Proofs.YtmigpfkjhdaijabW.PrintWords Go.Proofs.YtmigpfkjhdaijabW.PrintLast Go.Proofs.YtmigpfkjhdaijabW.PrintMore
attribute [local go_sem] max2_int min2_int max_two min_two max_three min_three max_four min_four   -- for this text's walks alone
set_option linter.unusedVariables false

set_option linter.unusedSimpArgs false

/-! ### Rows of rows, one behind the other -/
section
open Go.Proofs.YtmigpfkjhdaijabW.PrintWords.Kd
section
variable {α β : Type} {d : Kd α} {d' : Kd β} {e e' : Nat} {w w1 W : World} {base : Nat} {ok ok' : Nat → Prop} {u v : Value} {xs : List α} {ys : List β}
theorem R_rowsM {A : Option Addr} {n c : Nat} (h : d.R e w base ok (.slice A n c) xs) : ReadsRow (d.M w base (fun k => ok k ∧ some k ≠ (Value.slice A n c).ownBlock)) d.sz w A n xs := by
  obtain ⟨A', c', he, hl, hr⟩ := OwnRow.reads h.2
  injection he with h1 h2 h3
  subst h1
  subst h2
  exact hr
theorem zip_app (xs ys : List α) : (xs ++ ys).zipIdx = xs.zipIdx ++ ys.zipIdx xs.length := by rw [List.zipIdx_append]; simp
/-- An elder row and one that a call has made: apart. -/
theorem S_two {P1 P2 : Nat → Prop} (hu : S d e W base ok u xs) (hv : S d' e' w1 W.heap.size ok' v ys) (hb : Below W.heap.size W w1) (h1 : ∀ k, W.heap.size ≤ k → P1 k) (h2 : ∀ k, W.heap.size ≤ k → P2 k) (hbase : base ≤ W.heap.size) :
    ∃ N, S d e w1 base (fun k => ok k ∧ k < N) u xs ∧ S d' e' w1 base (fun k => base ≤ k ∧ N ≤ k ∧ P1 k ∧ P2 k) v ys :=
  ⟨W.heap.size, S_old hu hb, S_lower (S_mono (S_bound hv) (fun k hk => ⟨Nat.le_trans hbase hk.2.1, hk.2.1, h1 k hk.2.1, h2 k hk.2.1⟩)) hbase⟩
end
section
variable {P : Program} {ops : Array Oper} {rest : List Oper} {o : Oper} {a : Act} {Q : Exit → Act → World → Prop} {α : Type} {W : World}
open Classical in
theorem S_append_rows (d : Kd α) {w0 : World} (base : Nat) (hgd : o.guard = none) (s x : Operand) (t e : TypeId) (z : Value) (bytes : Nat)
    (ho : o.op = .call { callee := .builtin .append, args := #[s, x], argTypes := #[t, t] })
    (ht : P.underlying t = some (.slice e)) (hinfo : (P.info? e).map (fun i => (i.zero, i.size, i.bytes)) = some (some z, d.sz, bytes)) (hz : z.cells.size = d.sz) (hs0 : 0 < d.sz) (hb0 : 0 < bytes)
    (v : Value) (xs ys : List α) (A : Option Addr) (m c : Nat) (ok okp : Nat → Prop) (hs : a.eval s = v) (hx : a.eval x = .slice A m c)
    (HO : S d e W base (fun k => ok k ∧ ¬ okp k) v xs) (HR : S d e W base okp (.slice A m c) ys) (hokp : ∀ k, okp k → ok k) (hfresh : ∀ k, W.heap.size ≤ k → ok k)
    (HB : Below base w0 W) (hbase : base ≤ W.heap.size) (hl : (xs.length + m) * bytes ≤ 140737488355328)
    (h : ∀ v1 w1, S d e w1 base ok v1 (xs ++ ys) → Below base w0 w1 → W.grownBy w1 v.ownBlock → (v1.ownBlock = v.ownBlock ∨ ∃ b, v1.ownBlock = some b ∧ W.heap.size ≤ b) → wpList P ops Q rest (a.put o.dst v1) w1) :
    wpList P ops Q (o :: rest) a W := by
  obtain ⟨f, hR⟩ := HO
  obtain ⟨f', hT⟩ := HR
  have hown := hR.1
  have hR2 := R_tag (f' := fun k => if okp k then f' k + xs.length else f k) hR (fun k hk _ => if_neg hk.2)
  have hrd := R_rowsM hT
  have hm : ys.length = m := by
    have h1 := hrd.1
    rwa [List.length_zipIdx] at h1
  have hrd2 : ReadsRow (fun (p : α × Nat) cs => ∃ q, q ∈ ys.zipIdx ∧ p = (q.1, q.2 + xs.length) ∧ (tag f' d).M W base (fun k => okp k ∧ some k ≠ (Value.slice A m c).ownBlock) q cs) (tag f' d).sz W A m (ys.zipIdx xs.length) := by
    refine ⟨by rw [List.length_zipIdx]; exact hm, hrd.2.1, fun hp => ?_⟩
    obtain ⟨ad, hA, hc⟩ := hrd.2.2 hp
    refine ⟨ad, hA, fun j p hj => ?_⟩
    rw [List.getElem?_zipIdx] at hj
    obtain ⟨y, hy, rfl⟩ := Option.map_eq_some_iff.1 hj
    have hj0 : ys.zipIdx[j]? = some (y, j) := zip_at hy
    obtain ⟨cs, hcl, hM, hcc⟩ := hc j _ hj0
    exact ⟨cs, hcl, ⟨(y, j), List.mem_of_getElem? hj0, by rw [Nat.add_comm], hM⟩, hcc⟩
  refine R_append_rows (tag (fun k => if okp k then f' k + xs.length else f k) d) base hgd s x t e z bytes ho ht hinfo hz hs0 hb0 v xs.zipIdx (ys.zipIdx xs.length) A m c ok (fun k => okp k ∧ some k ≠ v.ownBlock) hs hx (R_mono hR2 (fun _ hk => hk.1)) hrd2 ?_ (fun k hk => ⟨hokp k hk.1, hk.2⟩) hfresh HB hbase (by rw [List.length_zipIdx]; exact hl) ?_
  · rintro p cs ⟨q, _, rfl, hM⟩
    refine d.M_mono ?_ hM
    intro k hk
    refine ⟨⟨hk.1.1, fun he => ?_⟩, ?_⟩
    · exact (hown k he.symm).2 hk.1.1
    · show (if okp k then f' k + xs.length else f k) = q.2 + xs.length
      rw [if_pos hk.1.1]
      exact congrArg (· + xs.length) hk.2
  · intro v1 w1 hr
    rw [← zip_app] at hr
    exact h v1 w1 ⟨_, hr⟩
end
end
set_option maxHeartbeats 8000000 in
set_option maxRecDepth 100000 in
theorem impl_pairs.callsS (k : Nat) (A0 : Option Addr) (c0 : Nat) (l0 : List (S59)) (r : List (List ByteArray)) (w : World) (hr0 : Kd.C k59 w A0 l0.length l0) (hc0 : l0.length ≤ c0) (h : impl_pairs.f k l0 = some r) :
    Calls Try.prog 36 #[.slice A0 l0.length c0] w fun e w' => ∃ v0_ : Value, e = .returned (v0_) ∧ Kd.S (Kd.slice 9 Kd.string) 29 w' w.heap.size (fun k_ => (w.heap.size ≤ k_)) v0_ r ∧ Below w.heap.size w w' := by
  have hu59 := Try.underlying59
  have HR0 := Aside0.mk hr0
  have HC0 := Aside0.mk hc0
  clear hr0 hc0
  have HB := Aside0.mk (Below.refl w.heap.size w)
  have H : (impl_pairs.l0 k l0 (([] : List (List ByteArray))) l0 (l0.length : Int) 0) = some r := h
  clear h
  obtain ⟨y126, hy126⟩ : ∃ y_ : List (List ByteArray), y_ = (([] : List (List ByteArray))) := ⟨_, rfl⟩
  replace H : (impl_pairs.l0 k l0 y126 l0 (l0.length : Int) 0) = some r := by first | (rw [hy126]; with_reducible exact H) | (have H2_ := (Option.bind_some _ _).symm.trans H; rw [hy126]; with_reducible exact H2_) | (have H2_ := (Option.bind_some _ _).symm.trans H; with_reducible exact H2_) | with_reducible exact H | (rw [hy126]; exact H) | exact H
  have Ny126 := Aside0.mk hy126
  clear hy126
  have H' := Aside0.mk H
  clear H
  go_enter Try.func36, Try.ntmps36
  go_wp2_with (first | ((with_reducible refine gate_dst (N := 8) rfl ?_); refine Kd.S_lit (Kd.slice 9 Kd.string) _ 29 ?hg (N := 8) ?hd (xs := ([] : List (List ByteArray))) (inner := []) (ok := (fun k_ => (w.heap.size ≤ k_))) (okp := (fun k_ => (w.heap.size ≤ k_))) ?hr ?hp (fun _ hk => hk) ((show ∀ k_, w.heap.size ≤ k_ → (fun k_ => (w.heap.size ≤ k_)) k_ from fun k_ hk => (Nat.le_trans (below_size (by repeat (first | (with_reducible first | exact HB.out | apply below_alloc | apply pw_below_drewN | apply below_drew1) | exact HB.out))) hk)) _ (Nat.le_refl _)) (Below.refl _ _) (Nat.le_refl _) (by simp) ?_; (case hd => rfl); (case hg => rfl); (case hr => first | (go_simp; done) | (go_simp; rfl)); (case hp => exact (Reps.none _ _)); intro v127 w2 ho3 hb hg_ hnew_; clear hg_ hnew_; (first | rw [← Ny126.out] at ho3 | (simp only [Int.reduceToNat] at ho3; rw [← Ny126.out] at ho3)); have n0_ := Aside0.mk (Kd.S_lower ho3 (below_size (by repeat (first | (with_reducible first | exact HB.out | apply below_alloc | apply pw_below_drewN | apply below_drew1) | exact HB.out)))); have n1_ := Aside0.mk (below_step (by repeat (first | (with_reducible first | exact HB.out | apply below_alloc | apply pw_below_drewN | apply below_drew1) | exact HB.out)) hb); clear HB; have HO128 := n0_; have HB := n1_; clear n0_ n1_; clear hb ho3))
  go_loopg [3, 11] k (fun kq v3 v11 w' => ∃ (x3_1 : List (List ByteArray)) (x11_1 : Int), v11 = .int .i64 x11_1 ∧ Aside0 (impl_pairs.l0 kq l0 x3_1 l0 (l0.length : Int) x11_1 = some r) ∧ Aside0 (kq ≤ k) ∧ Aside0 (Kd.S (Kd.slice 9 Kd.string) 29 w' w.heap.size (fun k_ => (w.heap.size ≤ k_)) v3 x3_1) ∧ Aside0 (Below w.heap.size w w'))
  case atStart => exact ⟨(y126), (0), (by first | rfl | (simp; done) | (simp [*]; done)), H', ⟨Nat.le_refl _⟩, ⟨by (with_reducible repeat (first | apply Kd.S_alloc | apply Kd.S_drewN | apply Kd.S_drew)); exact HO128.out⟩, ⟨by repeat (first | (with_reducible first | exact HB.out | apply below_alloc | apply pw_below_drewN | apply below_drew1) | exact HB.out)⟩⟩
  case round =>
    clear H'
    try clear p2
    try clear c3
    obtain ⟨x3_1, x11_1, rfl, HA, HK1, HO_3, HB⟩ := hrel
    cases gk with
    | zero => exact absurd HA.out (by simp [impl_pairs.l0])
    | succ k1 =>
      have H := HA.out
      clear HA
      simp only [impl_pairs.l0] at H
      by_cases c4 : x11_1 < (l0.length : Int)
      · rw [if_pos c4] at H
        have c4b0 : decide (x11_1 < (l0.length : Int)) = true := decide_eq_true c4
        clear c4
        by_cases c5 : 0 ≤ x11_1
        · rw [if_pos c5] at H
          have c5b0 : decide (0 ≤ x11_1) = true := decide_eq_true c5
          clear c5
          by_cases c6 : x11_1 < (l0.length : Int)
          · rw [if_pos c6] at H
            have c6b0 : decide (x11_1 < (l0.length : Int)) = true := decide_eq_true c6
            clear c6
            have H' := Aside0.mk H
            clear H
            have p129 : 0 ≤ (x11_1 : Int) := of_decide_eq_true (by first | (with_reducible assumption) | assumption)
            have q129 : x11_1 < (l0.length : Int) := of_decide_eq_true (by first | (with_reducible assumption) | assumption)
            obtain ⟨ad129, e129, hx129_0, hx129_1⟩ := at_T59 HR0.out x11_1 p129 q129
            cases e129
            replace hx129_0 := (HB.out.cell (World.block_lt_of_cell? w _ hx129_0)).trans hx129_0
            replace hx129_1 := (HB.out.cell (World.block_lt_of_cell? w _ hx129_1)).trans hx129_1
            replace p129 := eq_true p129
            replace q129 := eq_true q129
            go_wp2_with (first | ((with_reducible refine gate_dst (N := 5) rfl ?_); refine box_event ?hg (N := 5) ?hd (cs := #[.string (⟨#[]⟩ : ByteArray), .string (⟨#[]⟩ : ByteArray)]) (t := 59) ?hr ?_; (case hd => rfl); (case hg => rfl); (case hr => first | (go_simp; done) | (go_simp; rfl)); intro gb130 hg w7 hbox hb; have n0_ := Aside0.mk (Kd.S_below (Kd.S_elderB (by (with_reducible repeat (first | apply Kd.S_alloc | apply Kd.S_drewN | apply Kd.S_drew)); exact HO_3.out) gb130 (Nat.le_of_eq hg.symm)) hb); have n1_ := Aside0.mk (below_step (by repeat (first | (with_reducible first | exact HB.out | apply below_alloc | apply pw_below_drewN | apply below_drew1) | exact HB.out)) hb); have n2_ := Aside0.mk (hbox); have n3_ := Aside0.mk ((by rw [hg]; exact (below_size (by repeat (first | (with_reducible first | exact HB.out | apply below_alloc | apply pw_below_drewN | apply below_drew1) | exact HB.out))) : w.heap.size ≤ gb130)); have n4_ := Aside0.mk ((by rw [hg]; exact (below_size (by repeat (first | (with_reducible first | exact HB.out | apply below_alloc | apply pw_below_drewN | apply below_drew1) | exact HB.out))) : w.heap.size ≤ gb130)); clear HO_3; clear HB; have HO_3 := n0_; have HB := n1_; have BK130 := n2_; have GW130 := n3_; have GE130 := n4_; clear n0_ n1_ n2_ n3_ n4_; clear hb hbox hg; have hcz8_0 : w7.cell? ⟨gb130, 0, none⟩ = some (.string (⟨#[]⟩ : ByteArray)) := (blk_cell BK130.out 0).trans rfl; have hcz8_1 : w7.cell? ⟨gb130, 1, none⟩ = some (.string (⟨#[]⟩ : ByteArray)) := (blk_cell BK130.out 1).trans rfl; have hfz8_0 := blk_frozen BK130.out 0; have hfz8_1 := blk_frozen BK130.out 1))
            go_loopg [3, 18] k1 (fun kq v3 v18 w' => ∃ (x3_2 : List (List ByteArray)) (x18_2 : Int), v18 = .int .i64 x18_2 ∧ Aside0 (impl_pairs.l1 kq l0 x3_2 x11_1 l0 (l0.length : Int) x11_1 l0 (l0.length : Int) x18_2 ((rd_T59 l0 x11_1).f0) ((rd_T59 l0 x11_1).f1) = some r) ∧ Aside0 (kq ≤ k1) ∧ Aside0 (Kd.S (Kd.slice 9 Kd.string) 29 w' w.heap.size (fun k_ => (w.heap.size ≤ k_) ∧ k_ ≠ gb130) v3 x3_2) ∧ Aside0 (w'.heap[gb130]? = some (.cells #[.string ((rd_T59 l0 x11_1).f0), .string ((rd_T59 l0 x11_1).f1)] 59 (0, 0))) ∧ Aside0 (Below w.heap.size w w'))
            case atStart => exact ⟨(x3_1), (0), (by first | rfl | (simp; done) | (simp [*]; done)), H', ⟨Nat.le_refl _⟩, ⟨by (with_reducible repeat (first | apply Kd.S_alloc | apply Kd.S_drewN | apply Kd.S_drew)); exact Kd.S_mono (Kd.S_far (p := ⟨gb130, 1, none⟩) (Kd.S_far (p := ⟨gb130, 0, none⟩) (Kd.S_mono HO_3.out (fun k_ hk => (⟨hk, hk.2⟩ : _ ∧ k_ ≠ gb130))) (fun _ hk => hk.2) (.string ((rd_T59 l0 x11_1).f0))) (fun _ hk => hk.2) (.string ((rd_T59 l0 x11_1).f1))) (fun _ hk => ⟨hk.1.1, hk.1.2⟩)⟩, ⟨by (with_reducible repeat (first | refine blk_drewN ?_ _ | refine blk_drew ?_ | refine blk_alloc ?_ _)); refine blk_put (cs := #[.string ((rd_T59 l0 x11_1).f0), .string (⟨#[]⟩ : ByteArray)]) ?_ 1 _ rfl; (with_reducible repeat (first | refine blk_drewN ?_ _ | refine blk_drew ?_ | refine blk_alloc ?_ _)); refine blk_put (cs := #[.string (⟨#[]⟩ : ByteArray), .string (⟨#[]⟩ : ByteArray)]) ?_ 0 _ rfl; (with_reducible repeat (first | refine blk_drewN ?_ _ | refine blk_drew ?_ | refine blk_alloc ?_ _)); exact BK130.out⟩, ⟨by repeat (first | (with_reducible first | exact HB.out | apply below_alloc | apply pw_below_drewN | apply below_drew1 | refine below_set ?_ GE130.out) | exact HB.out)⟩⟩
            case round =>
              clear H'
              try clear p1
              try clear q1
              try clear hx1
              try clear p2
              try clear c3
              try clear c4
              try clear c4b0
              try clear c5
              try clear c5b0
              try clear c6
              try clear c6b0
              try clear hcz8_0
              try clear hcz8_1
              try clear hfz8_0
              try clear hfz8_1
              try clear hx129_0
              try clear hx129_1
              try clear p129
              try clear p2
              try clear q129
              obtain ⟨x3_2, x18_2, rfl, HA, HK2, HO_3, BK130, HB⟩ := hrel
              cases gk with
              | zero => exact absurd HA.out (by simp [impl_pairs.l1])
              | succ k2 =>
                have H := HA.out
                clear HA
                simp only [impl_pairs.l1] at H
                by_cases c9 : x18_2 < (l0.length : Int)
                · rw [if_pos c9] at H
                  have c9b0 : decide (x18_2 < (l0.length : Int)) = true := decide_eq_true c9
                  clear c9
                  by_cases c10 : 0 ≤ x18_2
                  · rw [if_pos c10] at H
                    have c10b0 : decide (0 ≤ x18_2) = true := decide_eq_true c10
                    clear c10
                    by_cases c11 : x18_2 < (l0.length : Int)
                    · rw [if_pos c11] at H
                      have c11b0 : decide (x18_2 < (l0.length : Int)) = true := decide_eq_true c11
                      clear c11
                      replace H := Option.bind_eq_some_iff.mp H
                      obtain ⟨t133, A120, H⟩ := H
                      replace H : (if x3_2.length + t133.length < 5864062014805 then (impl_pairs.l1 k2 l0 (x3_2 ++ t133) x11_1 l0 (l0.length : Int) x11_1 l0 (l0.length : Int) (wrap64 (x18_2 + 1)) ((rd_T59 l0 x11_1).f0) ((rd_T59 l0 x11_1).f1)) else (none)) = some r := H
                      have A12 := Aside0.mk A120
                      clear A120
                      by_cases c13 : x3_2.length + t133.length < 5864062014805
                      · rw [if_pos c13] at H
                        have LMc13 := Aside0.mk c13
                        clear c13
                        obtain ⟨y136, hy136⟩ : ∃ y_ : List (List ByteArray), y_ = (x3_2 ++ t133) := ⟨_, rfl⟩
                        replace H : (impl_pairs.l1 k2 l0 y136 x11_1 l0 (l0.length : Int) x11_1 l0 (l0.length : Int) (wrap64 (x18_2 + 1)) ((rd_T59 l0 x11_1).f0) ((rd_T59 l0 x11_1).f1)) = some r := by first | (rw [hy136]; with_reducible exact H) | (have H2_ := (Option.bind_some _ _).symm.trans H; rw [hy136]; with_reducible exact H2_) | (have H2_ := (Option.bind_some _ _).symm.trans H; with_reducible exact H2_) | with_reducible exact H | (rw [hy136]; exact H) | exact H
                        have Ny136 := Aside0.mk hy136
                        clear hy136
                        have H' := Aside0.mk H
                        clear H
                        have p131 : 0 ≤ (x18_2 : Int) := of_decide_eq_true (by first | (with_reducible assumption) | assumption)
                        have q131 : x18_2 < (l0.length : Int) := of_decide_eq_true (by first | (with_reducible assumption) | assumption)
                        obtain ⟨ad131, e131, hx131_0, hx131_1⟩ := at_T59 HR0.out x18_2 p131 q131
                        obtain rfl : ad129 = ad131 := (by injection e131)
                        replace hx131_0 := (HB.out.cell (World.block_lt_of_cell? w _ hx131_0)).trans hx131_0
                        replace hx131_1 := (HB.out.cell (World.block_lt_of_cell? w _ hx131_1)).trans hx131_1
                        replace p131 := eq_true p131
                        replace q131 := eq_true q131
                        go_wp2_with (first | ((with_reducible refine gate_dst (N := 7) rfl ?_); refine box_event ?hg (N := 7) ?hd (cs := #[.string (⟨#[]⟩ : ByteArray), .string (⟨#[]⟩ : ByteArray)]) (t := 59) ?hr ?_; (case hd => rfl); (case hg => rfl); (case hr => first | (go_simp; done) | (go_simp; rfl)); intro gb132 hg w14 hbox hb; have n0_ := Aside0.mk (Kd.S_below (Kd.S_elderB (by (with_reducible repeat (first | apply Kd.S_alloc | apply Kd.S_drewN | apply Kd.S_drew)); exact HO_3.out) gb132 (Nat.le_of_eq hg.symm)) hb); have n1_ := Aside0.mk (blk_below (g := gb130) (o := .cells #[.string ((rd_T59 l0 x11_1).f0), .string ((rd_T59 l0 x11_1).f1)] 59 (0, 0)) (by (with_reducible repeat (first | refine blk_drewN ?_ _ | refine blk_drew ?_ | refine blk_alloc ?_ _)); exact BK130.out) hb); have n2_ := Aside0.mk (below_step (by repeat (first | (with_reducible first | exact HB.out | apply below_alloc | apply pw_below_drewN | apply below_drew1 | refine below_set ?_ GE130.out) | exact HB.out)) hb); have n3_ := Aside0.mk (hbox); have n4_ := Aside0.mk ((by rw [hg]; exact (below_size (by repeat (first | (with_reducible first | exact HB.out | apply below_alloc | apply pw_below_drewN | apply below_drew1 | refine below_set ?_ GE130.out) | exact HB.out))) : w.heap.size ≤ gb132)); have n5_ := Aside0.mk ((by rw [hg]; exact (below_size (by repeat (first | (with_reducible first | exact HB.out | apply below_alloc | apply pw_below_drewN | apply below_drew1 | refine below_set ?_ GE130.out) | exact HB.out))) : w.heap.size ≤ gb132)); have n6_ := Aside0.mk ((by rw [hg]; exact Nat.ne_of_lt (blk_lt (g := gb130) (o := .cells #[.string ((rd_T59 l0 x11_1).f0), .string ((rd_T59 l0 x11_1).f1)] 59 (0, 0)) (by (with_reducible repeat (first | refine blk_drewN ?_ _ | refine blk_drew ?_ | refine blk_alloc ?_ _)); exact BK130.out)) : gb130 ≠ gb132)); have n7_ := Aside0.mk ((by rw [hg]; exact Nat.ne_of_gt (blk_lt (g := gb130) (o := .cells #[.string ((rd_T59 l0 x11_1).f0), .string ((rd_T59 l0 x11_1).f1)] 59 (0, 0)) (by (with_reducible repeat (first | refine blk_drewN ?_ _ | refine blk_drew ?_ | refine blk_alloc ?_ _)); exact BK130.out)) : gb132 ≠ gb130)); clear HO_3; clear BK130; clear HB; have HO_3 := n0_; have BK130 := n1_; have HB := n2_; have BK132 := n3_; have GW132 := n4_; have GE132 := n5_; have NB130_132 := n6_; have NB132_130 := n7_; clear n0_ n1_ n2_ n3_ n4_ n5_ n6_ n7_; clear hb hbox hg; have hnb15 := NB132_130.out; have hnc15 := NB130_132.out; have hcz16_0 : w14.cell? ⟨gb132, 0, none⟩ = some (.string (⟨#[]⟩ : ByteArray)) := (blk_cell BK132.out 0).trans rfl; have hcz16_1 : w14.cell? ⟨gb132, 1, none⟩ = some (.string (⟨#[]⟩ : ByteArray)) := (blk_cell BK132.out 1).trans rfl; have hfz16_0 := blk_frozen BK132.out 0; have hfz16_1 := blk_frozen BK132.out 1; have hcz17_0 : w14.cell? ⟨gb130, 0, none⟩ = some (.string ((rd_T59 l0 x11_1).f0)) := (blk_cell BK130.out 0).trans rfl; have hcz17_1 : w14.cell? ⟨gb130, 1, none⟩ = some (.string ((rd_T59 l0 x11_1).f1)) := (blk_cell BK130.out 1).trans rfl; have hfz17_0 := blk_frozen BK130.out 0; have hfz17_1 := blk_frozen BK130.out 1) | ((with_reducible refine gate_callee (f := 60) rfl ?_); refine goesL_ (some 29) rfl rfl Try.func60 (by kernel_rfl) rfl #[.agg #[.string ((rd_T59 l0 x11_1).f0), .string ((rd_T59 l0 x11_1).f1)], .agg #[.string ((rd_T59 l0 x18_2).f0), .string ((rd_T59 l0 x18_2).f1)], .bool (x11_1 == x18_2)] rfl (by (try simp only [List.map_toArray, List.map_cons, List.map_nil]); first | done | rfl | (simp only [List.length_drop, List.length_take]; rfl)) ?_; (with_reducible refine (impl_overlaps.calls k2 ((rd_T59 l0 x11_1).f0) ((rd_T59 l0 x11_1).f1) ((rd_T59 l0 x18_2).f0) ((rd_T59 l0 x18_2).f1) (x11_1 == x18_2) t133 _ A12.out).mono ?_); rintro e w18 ⟨v134, rfl, ho0, hb⟩; refine ⟨_, rfl, ?_⟩; obtain ⟨NN, s1_, s2_⟩ := S_two (P1 := fun k_ => k_ ≠ gb130) (P2 := fun k_ => k_ ≠ gb132) (base := w.heap.size) (by (with_reducible repeat (first | apply Kd.S_alloc | apply Kd.S_drewN | apply Kd.S_drew)); exact (Kd.S_mono (Kd.S_far (p := ⟨gb132, 1, none⟩) (Kd.S_far (p := ⟨gb132, 0, none⟩) (Kd.S_mono HO_3.out (fun k_ hk => (⟨hk, hk.2⟩ : _ ∧ k_ ≠ gb132))) (fun _ hk => hk.2) (.string ((rd_T59 l0 x18_2).f0))) (fun _ hk => hk.2) (.string ((rd_T59 l0 x18_2).f1))) (fun _ h_ => h_.1))) ho0 hb (Kd.freshB (g := gb130) (o := .cells #[.string ((rd_T59 l0 x11_1).f0), .string ((rd_T59 l0 x11_1).f1)] 59 (0, 0)) (by (with_reducible repeat (first | refine blk_drewN ?_ _ | refine blk_drew ?_ | refine blk_alloc ?_ _)); refine blk_far ?_ NB130_132.out _; (with_reducible repeat (first | refine blk_drewN ?_ _ | refine blk_drew ?_ | refine blk_alloc ?_ _)); refine blk_far ?_ NB130_132.out _; (with_reducible repeat (first | refine blk_drewN ?_ _ | refine blk_drew ?_ | refine blk_alloc ?_ _)); exact BK130.out)) (Kd.freshB (g := gb132) (o := .cells #[.string ((rd_T59 l0 x18_2).f0), .string ((rd_T59 l0 x18_2).f1)] 59 (0, 0)) (by (with_reducible repeat (first | refine blk_drewN ?_ _ | refine blk_drew ?_ | refine blk_alloc ?_ _)); refine blk_put (cs := #[.string ((rd_T59 l0 x18_2).f0), .string (⟨#[]⟩ : ByteArray)]) ?_ 1 _ rfl; (with_reducible repeat (first | refine blk_drewN ?_ _ | refine blk_drew ?_ | refine blk_alloc ?_ _)); refine blk_put (cs := #[.string (⟨#[]⟩ : ByteArray), .string (⟨#[]⟩ : ByteArray)]) ?_ 0 _ rfl; (with_reducible repeat (first | refine blk_drewN ?_ _ | refine blk_drew ?_ | refine blk_alloc ?_ _)); exact BK132.out)) (below_size (by repeat (first | (with_reducible first | exact HB.out | apply below_alloc | apply pw_below_drewN | apply below_drew1 | refine below_set ?_ GE130.out | refine below_set ?_ GE132.out) | exact HB.out))); have n0_ := Aside0.mk s1_; have n1_ := Aside0.mk s2_; clear s1_ s2_; have n2_ := Aside0.mk (blk_below (g := gb130) (o := .cells #[.string ((rd_T59 l0 x11_1).f0), .string ((rd_T59 l0 x11_1).f1)] 59 (0, 0)) (by (with_reducible repeat (first | refine blk_drewN ?_ _ | refine blk_drew ?_ | refine blk_alloc ?_ _)); refine blk_far ?_ NB130_132.out _; (with_reducible repeat (first | refine blk_drewN ?_ _ | refine blk_drew ?_ | refine blk_alloc ?_ _)); refine blk_far ?_ NB130_132.out _; (with_reducible repeat (first | refine blk_drewN ?_ _ | refine blk_drew ?_ | refine blk_alloc ?_ _)); exact BK130.out) hb); have n3_ := Aside0.mk (blk_below (g := gb132) (o := .cells #[.string ((rd_T59 l0 x18_2).f0), .string ((rd_T59 l0 x18_2).f1)] 59 (0, 0)) (by (with_reducible repeat (first | refine blk_drewN ?_ _ | refine blk_drew ?_ | refine blk_alloc ?_ _)); refine blk_put (cs := #[.string ((rd_T59 l0 x18_2).f0), .string (⟨#[]⟩ : ByteArray)]) ?_ 1 _ rfl; (with_reducible repeat (first | refine blk_drewN ?_ _ | refine blk_drew ?_ | refine blk_alloc ?_ _)); refine blk_put (cs := #[.string (⟨#[]⟩ : ByteArray), .string (⟨#[]⟩ : ByteArray)]) ?_ 0 _ rfl; (with_reducible repeat (first | refine blk_drewN ?_ _ | refine blk_drew ?_ | refine blk_alloc ?_ _)); exact BK132.out) hb); have n4_ := Aside0.mk (below_step (by repeat (first | (with_reducible first | exact HB.out | apply below_alloc | apply pw_below_drewN | apply below_drew1 | refine below_set ?_ GE130.out | refine below_set ?_ GE132.out) | exact HB.out)) hb); clear HO_3; clear BK130; clear BK132; clear HB; have HO_3 := n0_; have HO135 := n1_; have BK130 := n2_; have BK132 := n3_; have HB := n4_; clear n0_ n1_ n2_ n3_ n4_; (try clear hb); (try clear hb2); (try clear hk); (try clear hi); (try clear ho0); obtain ⟨Ao20, co20, eo20⟩ := Kd.S_slice HO135.out; subst eo20) | ((with_reducible refine gate_builtin (b := .append) (xs := #[.tmp 23, .tmp 29]) rfl ?_); at_builtin; refine S_append_rows (Kd.slice 9 Kd.string) (w0 := w) w.heap.size rfl (.tmp 23) (.tmp 29) 25 29 (.slice none 0 0) 24 rfl Try.underlying25 info29 rfl (by decide) (by omega) u3 x3_2 t133 _ _ _ (fun k_ => (w.heap.size ≤ k_) ∧ k_ ≠ gb130 ∧ k_ ≠ gb132) (fun k_ => w.heap.size ≤ k_ ∧ NN ≤ k_ ∧ k_ ≠ gb130 ∧ k_ ≠ gb132) rfl rfl ?aO ?aR (fun _ hk => ⟨hk.1, hk.2.2⟩) ?aF ?aB ?aS ?aL ?_; (case aR => exact HO135.out); (case aB => exact (by repeat (first | (with_reducible first | exact HB.out | apply below_alloc | apply pw_below_drewN | apply below_drew1 | refine below_set ?_ GE130.out | refine below_set ?_ GE132.out) | exact HB.out))); (case aF => exact (fun k_ hk => ⟨(Nat.le_trans (below_size (by repeat (first | (with_reducible first | exact HB.out | apply below_alloc | apply pw_below_drewN | apply below_drew1 | refine below_set ?_ GE130.out | refine below_set ?_ GE132.out) | exact HB.out))) hk), Kd.freshB (g := gb130) (o := .cells #[.string ((rd_T59 l0 x11_1).f0), .string ((rd_T59 l0 x11_1).f1)] 59 (0, 0)) (by (with_reducible repeat (first | refine blk_drewN ?_ _ | refine blk_drew ?_ | refine blk_alloc ?_ _)); exact BK130.out) k_ hk, Kd.freshB (g := gb132) (o := .cells #[.string ((rd_T59 l0 x18_2).f0), .string ((rd_T59 l0 x18_2).f1)] 59 (0, 0)) (by (with_reducible repeat (first | refine blk_drewN ?_ _ | refine blk_drew ?_ | refine blk_alloc ?_ _)); exact BK132.out) k_ hk⟩)); (case aO => exact Kd.S_mono HO_3.out (fun _ hk => ⟨⟨hk.1.1.1, hk.1.1.2, hk.1.2⟩, fun h_ => Nat.lt_irrefl _ (Nat.lt_of_lt_of_le hk.2 h_.2.1)⟩)); (case aS => exact (below_size (by repeat (first | (with_reducible first | exact HB.out | apply below_alloc | apply pw_below_drewN | apply below_drew1 | refine below_set ?_ GE130.out | refine below_set ?_ GE132.out) | exact HB.out)))); (case aL => have := LMc13.out; omega); intro v137 w19 ho hb hg hat; rw [← Ny136.out] at ho; have n0_ := Aside0.mk (blk_grown (g := gb130) (o := .cells #[.string ((rd_T59 l0 x11_1).f0), .string ((rd_T59 l0 x11_1).f1)] 59 (0, 0)) (by (with_reducible repeat (first | refine blk_drewN ?_ _ | refine blk_drew ?_ | refine blk_alloc ?_ _)); exact BK130.out) hg (Kd.S_ne HO_3.out BK130.out (by decide))); have n1_ := Aside0.mk (blk_grown (g := gb132) (o := .cells #[.string ((rd_T59 l0 x18_2).f0), .string ((rd_T59 l0 x18_2).f1)] 59 (0, 0)) (by (with_reducible repeat (first | refine blk_drewN ?_ _ | refine blk_drew ?_ | refine blk_alloc ?_ _)); exact BK132.out) hg (Kd.S_ne HO_3.out BK132.out (by decide))); have n3_ := Aside0.mk (hb); have n4_ := Aside0.mk (ho); clear BK130; clear BK132; clear HO135; clear HB; clear HO_3; have BK130 := n0_; have BK132 := n1_; have HB := n3_; have HO138 := n4_; clear n0_ n1_ n3_ n4_; clear ho hb hg hat))
                        go_roundg k2
                        case measure => have := HK1.out; have := HK2.out; omega
                        case rel => exact ⟨(y136), (wrap64 (x18_2 + 1)), (by first | rfl | (simp; done) | (simp [*]; done)), H', ⟨by have := HK1.out; have := HK2.out; omega⟩, ⟨by (with_reducible repeat (first | apply Kd.S_alloc | apply Kd.S_drewN | apply Kd.S_drew)); exact Kd.S_mono HO138.out (fun _ hk => ⟨hk.1, hk.2.1⟩)⟩, ⟨by (with_reducible repeat (first | refine blk_drewN ?_ _ | refine blk_drew ?_ | refine blk_alloc ?_ _)); exact BK130.out⟩, ⟨by repeat (first | (with_reducible first | exact HB.out | apply below_alloc | apply pw_below_drewN | apply below_drew1 | refine below_set ?_ GE130.out | refine below_set ?_ GE132.out) | exact HB.out)⟩⟩
                      · rw [if_neg c13] at H
                        exact absurd H (by simp)
                    · rw [if_neg c11] at H
                      exact absurd H (by simp)
                  · rw [if_neg c10] at H
                    exact absurd H (by simp)
                · rw [if_neg c9] at H
                  have c9b0 : decide (x18_2 < (l0.length : Int)) = false := decide_eq_false c9
                  clear c9
                  have H' := Aside0.mk H
                  clear H
                  go_wp2
                  go_roundg k2
                  case measure => have := HK1.out; have := HK2.out; omega
                  case rel => exact ⟨(x3_2), (wrap64 (x11_1 + 1)), (by first | rfl | (simp; done) | (simp [*]; done)), H', ⟨by have := HK1.out; have := HK2.out; omega⟩, ⟨by (with_reducible repeat (first | apply Kd.S_alloc | apply Kd.S_drewN | apply Kd.S_drew)); exact Kd.S_mono HO_3.out (fun _ hk => hk.1)⟩, ⟨by repeat (first | (with_reducible first | exact HB.out | apply below_alloc | apply pw_below_drewN | apply below_drew1 | refine below_set ?_ GE130.out) | exact HB.out)⟩⟩
          · rw [if_neg c6] at H
            exact absurd H (by simp)
        · rw [if_neg c5] at H
          exact absurd H (by simp)
      · rw [if_neg c4] at H
        have c4b0 : decide (x11_1 < (l0.length : Int)) = false := decide_eq_false c4
        clear c4
        obtain rfl := Option.some.inj H
        go_wp2
        go_ret
        exact ⟨_, by first | rfl | (simp [errW_none, errW_some] <;> rfl) | (simp [*, errW_none, errW_some] <;> rfl), by (with_reducible repeat (first | apply Kd.S_alloc | apply Kd.S_drewN | apply Kd.S_drew)); exact HO_3.out, by repeat (first | (with_reducible first | exact HB.out | apply below_alloc | apply pw_below_drewN | apply below_drew1) | exact HB.out)⟩
set_option maxHeartbeats 8000000 in
set_option maxRecDepth 100000 in
theorem impl_CriticalPairs.callsS (k : Nat) (A0 : Option Addr) (c0 : Nat) (l0 : List (S59)) (r1 : List (List ByteArray)) (r2 : Bool) (w : World) (hr0 : Kd.C k59 w A0 l0.length l0) (hc0 : l0.length ≤ c0) (h : impl_CriticalPairs.f k l0 = some (r1, r2)) :
    Calls Try.prog 8 #[.slice A0 l0.length c0] w fun e w' => ∃ v0_ : Value, e = .returned (.tuple #[v0_, .bool r2]) ∧ Kd.S (Kd.slice 9 Kd.string) 29 w' w.heap.size (fun k_ => (w.heap.size ≤ k_)) v0_ r1 ∧ Below w.heap.size w w' := by
  have HR0 := Aside0.mk hr0
  have HC0 := Aside0.mk hc0
  clear hr0 hc0
  have HB := Aside0.mk (Below.refl w.heap.size w)
  have H : ((impl_GoodRules.f k l0).bind fun t139 => (if t139 = true then ((impl_pairs.f k l0).bind fun t140 => (some (t140, true))) else (some (([] : List (List ByteArray)), false)))) = some (r1, r2) := h
  clear h
  replace H := Option.bind_eq_some_iff.mp H
  obtain ⟨t139, A20, H⟩ := H
  replace H : (if t139 = true then ((impl_pairs.f k l0).bind fun t140 => (some (t140, true))) else (some (([] : List (List ByteArray)), false))) = some (r1, r2) := H
  have A2 := Aside0.mk A20
  clear A20
  by_cases c3 : t139 = true
  · subst c3
    have H1 : ((impl_pairs.f k l0).bind fun t140 => (some (t140, true))) = some (r1, r2) := by rw [if_pos rfl] at H; exact H
    clear H
    have H := H1
    clear H1
    replace H := Option.bind_eq_some_iff.mp H
    obtain ⟨t140, A40, H⟩ := H
    replace H : (some (t140, true)) = some (r1, r2) := H
    have A4 := Aside0.mk A40
    clear A40
    simp only [Option.some.injEq, Prod.mk.injEq] at H
    obtain ⟨rfl, rfl⟩ := H
    go_enter Try.func8, Try.ntmps8
    go_wp2_with (first | ((with_reducible refine gate_callee (f := 10) rfl ?_); refine goesL_ (some 5) rfl rfl Try.func10 (by kernel_rfl) rfl #[.slice A0 l0.length c0] rfl (by (try simp only [List.map_toArray, List.map_cons, List.map_nil]); first | done | rfl | (simp only [List.length_drop, List.length_take]; rfl)) ?_; (with_reducible refine (impl_GoodRules.calls k _ _ l0 true _ ?side1 ?side2 A2.out).mono ?_); (case side1 => repeat (first | exact HR0.out | (with_reducible refine Kd.C_alloc ?_ _) | (with_reducible refine Kd.C_drewN ?_ _) | (with_reducible refine Kd.C_drew ?_))); (case side2 => exact HC0.out); rintro e w5 ⟨rfl, hb⟩; refine ⟨_, rfl, ?_⟩; have n0_ := Aside0.mk (below_step (by repeat (first | (with_reducible first | exact HB.out | apply below_alloc | apply pw_below_drewN | apply below_drew1) | exact HB.out)) hb); clear HB; have HB := n0_; clear n0_; (try clear hb); (try clear hb2); (try clear hk); (try clear hi)) | ((with_reducible refine gate_callee (f := 36) rfl ?_); refine goesL_ (some 8) rfl rfl Try.func36 (by kernel_rfl) rfl #[.slice A0 l0.length c0] rfl (by (try simp only [List.map_toArray, List.map_cons, List.map_nil]); first | done | rfl | (simp only [List.length_drop, List.length_take]; rfl)) ?_; (with_reducible refine (impl_pairs.callsS k _ _ l0 t140 _ ?side1 ?side2 A4.out).mono ?_); (case side1 => repeat (first | exact (Kd.C_below HR0.out HB.out) | (with_reducible refine Kd.C_alloc ?_ _) | (with_reducible refine Kd.C_drewN ?_ _) | (with_reducible refine Kd.C_drew ?_))); (case side2 => exact HC0.out); rintro e w6 ⟨v141, rfl, ho0, hb⟩; refine ⟨_, rfl, ?_⟩; have n0_ := Aside0.mk (Kd.S_lower (Kd.S_mono (ok' := fun k_ => (w.heap.size ≤ k_)) ho0 (fun k_ hk_ => (Nat.le_trans (below_size (by repeat (first | (with_reducible first | exact HB.out | apply below_alloc | apply pw_below_drewN | apply below_drew1) | exact HB.out))) hk_))) (below_size (by repeat (first | (with_reducible first | exact HB.out | apply below_alloc | apply pw_below_drewN | apply below_drew1) | exact HB.out)))); have n1_ := Aside0.mk (below_step (by repeat (first | (with_reducible first | exact HB.out | apply below_alloc | apply pw_below_drewN | apply below_drew1) | exact HB.out)) hb); clear HB; have HO142 := n0_; have HB := n1_; clear n0_ n1_; (try clear hb); (try clear hb2); (try clear hk); (try clear hi); (try clear ho0)))
    go_ret2
    exact ⟨_, by first | rfl | (simp [errW_none, errW_some] <;> rfl) | (simp [*, errW_none, errW_some] <;> rfl), by (with_reducible repeat (first | apply Kd.S_alloc | apply Kd.S_drewN | apply Kd.S_drew)); exact HO142.out, by repeat (first | (with_reducible first | exact HB.out | apply below_alloc | apply pw_below_drewN | apply below_drew1) | exact HB.out)⟩
  · replace c3 := Bool.eq_false_iff.mpr c3
    subst c3
    have H1 : (some (([] : List (List ByteArray)), false)) = some (r1, r2) := by rw [if_neg (show ¬ (false = true) by decide)] at H; exact H
    clear H
    have H := H1
    clear H1
    simp only [Option.some.injEq, Prod.mk.injEq] at H
    obtain ⟨rfl, rfl⟩ := H
    go_enter Try.func8, Try.ntmps8
    go_wp2_with (first | ((with_reducible refine gate_callee (f := 10) rfl ?_); refine goesL_ (some 5) rfl rfl Try.func10 (by kernel_rfl) rfl #[.slice A0 l0.length c0] rfl (by (try simp only [List.map_toArray, List.map_cons, List.map_nil]); first | done | rfl | (simp only [List.length_drop, List.length_take]; rfl)) ?_; (with_reducible refine (impl_GoodRules.calls k _ _ l0 false _ ?side1 ?side2 A2.out).mono ?_); (case side1 => repeat (first | exact HR0.out | (with_reducible refine Kd.C_alloc ?_ _) | (with_reducible refine Kd.C_drewN ?_ _) | (with_reducible refine Kd.C_drew ?_))); (case side2 => exact HC0.out); rintro e w7 ⟨rfl, hb⟩; refine ⟨_, rfl, ?_⟩; have n0_ := Aside0.mk (below_step (by repeat (first | (with_reducible first | exact HB.out | apply below_alloc | apply pw_below_drewN | apply below_drew1) | exact HB.out)) hb); clear HB; have HB := n0_; clear n0_; (try clear hb); (try clear hb2); (try clear hk); (try clear hi)))
    go_ret2
    exact ⟨_, by first | rfl | (simp [errW_none, errW_some] <;> rfl) | (simp [*, errW_none, errW_some] <;> rfl), by first | exact Kd.S_nil _ _ _ _ _ | exact Kd.S_nil _ _ _ _ _ | exact Kd.V_nil _ _ _ _ _ | exact Kd.Q_nil _ _ _ _ _ | exact Kd.R_nil _ _ _ _ _, by repeat (first | (with_reducible first | exact HB.out | apply below_alloc | apply pw_below_drewN | apply below_drew1) | exact HB.out)⟩
/-! ### The rows of a row, written one by one -/
def markSS (k : Nat) : List (List ByteArray) → Int → Option (Int × List (List ByteArray))
  | [], a => some (a, [])
  | x :: l, a => (laws_markStringS.f k x a).bind fun t => (markSS k l t.1).bind fun u => some (u.1, t.2 :: u.2)
theorem set_mid {α : Type} (l : List α) (x y : α) (r : List α) : (l ++ x :: r).set l.length y = l ++ y :: r := by
  induction l with
  | nil => rfl
  | cons a l ih => simp
theorem mark_back {w w0 w2 w3 : World} {g N0 c : Nat} {done rest : List (List ByteArray)} {x t2 : List ByteArray} {P0_ oki : Nat → Prop} {v : Value}
    (hH : Kd.H (Kd.slice 9 Kd.string) 29 w2 w0.heap.size (fun k_ => (P0_ k_ ∨ w.heap.size ≤ k_)) (.slice (some ⟨g, 0, none⟩) N0 c) (done ++ x :: rest) (done.length : Int) oki [v]) (hR : Kd.R Kd.string 9 w2 w0.heap.size oki v x)
    (hr3 : Kd.R Kd.string 9 w3 w0.heap.size (fun k_ => (oki k_ ∨ w2.heap.size ≤ k_)) v t2) (hk : Kept w2 w3 oki) (hw : w.heap.size ≤ w2.heap.size) :
    Kd.S (Kd.slice 9 Kd.string) 29 w3 w0.heap.size (fun k_ => (P0_ k_ ∨ w.heap.size ≤ k_)) (.slice (some ⟨g, 0, none⟩) N0 c) (done ++ t2 :: rest) := by
  have h1 := Kd.H_step (w1 := w3) (Kd.H_widen hH) (fun k _ hn hlt => hk.2 k hlt (fun h_ => hn (.inl h_)))
  have h2 := Kd.H_back h1 (x' := t2) (okp := fun k_ => (oki k_ ∨ w2.heap.size ≤ k_)) ⟨v, rfl, hr3⟩ (fun k hk => hk.elim .inl (fun h_ => .inr ⟨.inr (Nat.le_trans hw h_), h_⟩))
  rw [Int.toNat_natCast, set_mid] at h2
  exact h2
set_option maxHeartbeats 4000000 in
set_option maxRecDepth 100000 in
theorem laws_markStringSS.callsS (k : Nat) (P0_ : Nat → Prop) (u : Value) (l0 : List (List ByteArray)) (a1 : Int) (r1 : Int) (r2 : List (List ByteArray)) (w0 w : World) (hB : Below w0.heap.size w0 w) (ho0 : Kd.S (Kd.slice 9 Kd.string) 29 w w0.heap.size P0_ u l0) (h : markSS k l0 a1 = some (r1, r2)) :
    Calls Try.prog 22 #[u, .int .i64 a1] w fun e w' => e = .returned (.int .i64 r1) ∧ Kd.S (Kd.slice 9 Kd.string) 29 w' w0.heap.size (fun k_ => (P0_ k_ ∨ w.heap.size ≤ k_)) u r2 ∧ Below w0.heap.size w0 w' ∧ Kept w w' (fun k_ => P0_ k_) := by
  obtain ⟨A, c, rfl⟩ := Kd.S_slice ho0
  have hmax : l0.length ≤ 9223372036854775807 := (Kd.S_reads' ho0).2.2.2.1
  have HM := Aside0.mk hmax
  have HO0 := Aside0.mk (show Kd.S (Kd.slice 9 Kd.string) 29 w w0.heap.size (fun k_ => (P0_ k_ ∨ w.heap.size ≤ k_)) (.slice A l0.length c) ([] ++ l0) from Kd.S_mono ho0 (fun k_ hk => (.inl hk)))
  have HK := Aside0.mk (Kept.refl w (fun k_ => P0_ k_))
  have HW0 := Aside0.mk hB.size
  have HB := Aside0.mk hB
  have H' := Aside0.mk h
  clear hB h ho0 hmax
  obtain ⟨N0, hN0⟩ : ∃ N0, N0 = l0.length := ⟨_, rfl⟩
  rw [← hN0] at HO0 HM ⊢
  go_enter Try.func22, Try.ntmps22
  go_wp2
  go_loopg [1, 5] N0 (fun kq v1 v5 w' => ∃ (done rest out : List (List ByteArray)) (a : Int), v1 = .int .i64 a ∧ v5 = .int .i64 done.length ∧ Aside0 (markSS k rest a = some (r1, out)) ∧ Aside0 (r2 = done ++ out) ∧ Aside0 (done.length + rest.length = N0) ∧ Aside0 (rest.length ≤ kq) ∧ Aside0 (Kd.S (Kd.slice 9 Kd.string) 29 w' w0.heap.size (fun k_ => (P0_ k_ ∨ w.heap.size ≤ k_)) (.slice A N0 c) (done ++ rest)) ∧ Aside0 (Kept w w' (fun k_ => P0_ k_)) ∧ Aside0 (Below w0.heap.size w0 w'))
  case atStart => exact ⟨[], l0, r2, a1, rfl, rfl, H', ⟨rfl⟩, ⟨by rw [hN0]; simp⟩, ⟨by omega⟩, HO0, HK, HB⟩
  case round =>
    clear H' HO0 HK HB hN0
    obtain ⟨done, rest, out, a, rfl, rfl, HA, HR, HL, HG, HO, HK, HB⟩ := hrel
    cases rest with
    | nil =>
      have hl := HL.out
      have h1 := HA.out
      simp only [markSS, Option.some.injEq, Prod.mk.injEq] at h1
      obtain ⟨rfl, rfl⟩ := h1
      have c3b0 : decide ((done.length : Int) < (N0 : Int)) = false := decide_eq_false (by simp at hl; omega)
      have c3b1 : decide (done.length < N0) = false := decide_eq_false (by simp at hl; omega)
      clear hl
      have HR2 := Aside0.mk HR.out.symm
      go_wp2
      go_ret
      exact ⟨rfl, by have h_ := HO.out; rw [HR2.out] at h_; exact h_, HB.out, HK.out⟩
    | cons x rest =>
      have hl := HL.out
      rw [List.length_cons] at hl
      have h1 := HA.out
      simp only [markSS] at h1
      replace h1 := Option.bind_eq_some_iff.mp h1
      obtain ⟨⟨t1, t2⟩, ht, h1⟩ := h1
      replace h1 := Option.bind_eq_some_iff.mp h1
      obtain ⟨⟨o1, o2⟩, ho, h1⟩ := h1
      simp only [Option.some.injEq, Prod.mk.injEq] at h1
      obtain ⟨rfl, rfl⟩ := h1
      have HT := Aside0.mk ht
      have HA2 := Aside0.mk ho
      clear ht ho HA
      have hlt : done.length < N0 := by omega
      have hll : (done ++ x :: rest).length = N0 := by rw [List.length_append, List.length_cons]; omega
      obtain ⟨g, cap, eA, hg1, hg2, _⟩ := Kd.S_form HO.out (by omega)
      rw [hll] at eA
      injection eA with eA _ ec
      subst eA
      subst ec
      obtain ⟨oki, cs, hcl, hM, hcc, hoki, hH⟩ := Kd.S_lend HO.out [] (done.length : Int) (by omega) (by omega)
      rw [Int.toNat_natCast, show (done ++ x :: rest).getD done.length [] = x from by simp] at hM
      rw [Int.toNat_natCast] at hcc
      obtain ⟨v, rfl, hR⟩ := hM
      obtain ⟨Av, cv, rfl⟩ := Kd.R_slice hR
      have hx := hcc 0 _ rfl
      rw [show done.length * (Kd.slice 9 Kd.string).sz + 0 = done.length from by show done.length * 1 + 0 = _; omega] at hx
      have c3b0 : decide ((done.length : Int) < (N0 : Int)) = true := decide_eq_true (by omega)
      have c3b1 : decide (done.length < N0) = true := decide_eq_true (by omega)
      have q2 := eq_true (show done.length < N0 from by omega)
      have p1 := eq_true (show (0 : Int) ≤ (done.length : Int) from by omega)
      have q1 := eq_true (show (done.length : Int) < (N0 : Int) from by omega)
      have HH := Aside0.mk hH
      have HRx := Aside0.mk hR
      have HI := Aside0.mk hoki
      have HWN := Aside0.mk (show wrap64 ((done.length : Int) + 1) = ((done ++ [t2]).length : Int) from by
        have h1 := HM.out
        rw [List.length_append]
        unfold wrap64
        simp
        omega)
      have HL2 := Aside0.mk (show (done ++ [t2]).length + rest.length = N0 from by rw [List.length_append]; simp; omega)
      have HR2 := Aside0.mk (show r2 = (done ++ [t2]) ++ o2 from by rw [HR.out]; simp)
      have HG2 := Aside0.mk (show rest.length + 1 ≤ gk from by have h2 := HG.out; rw [List.length_cons] at h2; exact h2)
      have HN1 := Aside0.mk (show rest.length + 1 ≤ N0 from by omega)
      clear hl hlt hll hH hR hoki HL HR HG hcc hcl hg1 hg2 HO
      go_wp2_with (go_at_call 54; refine (laws_markStringS.calls k oki (.slice Av x.length cv) x a t1 t2 w0 _ HB.out HRx.out HT.out).mono ?_; rintro e w3 ⟨rfl, hr3, hb3, hk3⟩; have n0_ := Aside0.mk (mark_back HH.out HRx.out hr3 hk3 HK.out.1); have n1_ := Aside0.mk (HK.out.then_ hk3 (fun k_ hk_ => (HI.out k_ hk_).1)); have n2_ := Aside0.mk hb3; clear HH HRx HI HK HB hr3 hk3 hb3 hx)
      go_roundg rest.length
      case measure => have := HG2.out; omega
      case rel => exact ⟨done ++ [t2], rest, o2, t1, rfl, by rw [HWN.out], HA2, HR2, HL2, ⟨Nat.le_refl _⟩, ⟨by rw [List.append_assoc]; exact n0_.out⟩, n1_, n2_⟩
theorem drawn_below {w w' : World} (h : Drawn0 w w') : Below w.heap.size w w' := by
  obtain ⟨nd, rfl⟩ := h
  exact pw_below_drewN (Below.refl w.heap.size w) nd
set_option maxHeartbeats 8000000 in
set_option maxRecDepth 100000 in
theorem laws_FnExactCriticalPairs.callsn (A0 : Option Addr) (c0 : Nat) (l0 : List S72) (w : World) (k : Nat) (hr0 : Kd.C k72 w A0 l0.length l0) (hc0 : l0.length ≤ c0) (r : Int) (a1 : laws_szRuleS.f k l0 1048576 = some r) (a1' : r < 0) :
    Calls Try.prog 4 #[.slice A0 l0.length c0] w fun e w' => e = .returned (.bool true) ∧ Below w.heap.size w w' := by
  have HR0 := Aside0.mk hr0
  have HC0 := Aside0.mk hc0
  have H1 := Aside0.mk a1
  have n1 : decide (r < 0) = true := decide_eq_true a1'
  clear hr0 hc0 a1 a1'
  go_enter Try.func4, Try.ntmps4
  go_wp2_with fail
  refine (laws_szRuleS.calls _ _ _ l0 1048576 r _ HR0.out HC0.out H1.out).mono ?_
  rintro e w1 ⟨rfl, hb⟩
  go_wp2
  go_ret
  exact ⟨rfl, hb⟩
set_option maxHeartbeats 8000000 in
set_option maxRecDepth 100000 in
theorem laws_FnExactCriticalPairs.calls0 (k : Nat) (A0 : Option Addr) (c0 : Nat) (l0 : List S72) (w : World) (hr0 : Kd.C k72 w A0 l0.length l0) (hc0 : l0.length ≤ c0)
    (r : Int) (x x' : List S59) (ws gs gs' : List (List ByteArray)) (t : Bool) (km m : Int)
    (a1 : laws_szRuleS.f k l0 1048576 = some r) (a1' : ¬ r < 0) (a2 : laws_toRuleS.f k l0 = some x) (a3 : spec_CriticalPairs.f k x = some (ws, t))
    (a4 : impl_CriticalPairs.f k x = some (gs, t)) (a5 : laws_eqStringSS.f k gs ws = some true) (a6 : laws_eqRuleS.f k x x = some true) (a7 : laws_markRuleS.f k x 1 = some (km, x')) (a7' : ¬ km < 0)
    (a8 : markSS k gs 1 = some (m, gs')) (a9 : laws_heldStringSS.f k gs' 1 = some m) (a9' : ¬ m < 0) :
    Calls Try.prog 4 #[.slice A0 l0.length c0] w fun e w' => e = .returned (.bool true) ∧ Below w.heap.size w w' := by
  have HR0 := Aside0.mk hr0
  have HC0 := Aside0.mk hc0
  have H1 := Aside0.mk a1
  have H2 := Aside0.mk a2
  have H3 := Aside0.mk a3
  have H4 := Aside0.mk a4
  have H5 := Aside0.mk a5
  have H6 := Aside0.mk a6
  have H7 := Aside0.mk a7
  have H8 := Aside0.mk a8
  have H9 := Aside0.mk a9
  have n1 : decide (r < 0) = false := decide_eq_false a1'
  have n7 : decide (km < 0) = false := decide_eq_false a7'
  have n9 : decide (m < 0) = false := decide_eq_false a9'
  have HB := Aside0.mk (Below.refl w.heap.size w)
  clear hr0 hc0 a1 a1' a2 a3 a4 a5 a6 a7 a7' a8 a9 a9'
  go_enter Try.func4, Try.ntmps4
  go_wp2_with fail
  refine (laws_szRuleS.calls k _ _ l0 1048576 r _ (Kd.C_below HR0.out HB.out) HC0.out H1.out).mono ?_
  rintro e w0 ⟨rfl, hb⟩
  have n_HB := Aside0.mk (below_step HB.out hb)
  clear HB hb
  have HB := n_HB
  clear n_HB
  go_wp2_with fail
  refine (laws_toRuleS.calls k _ _ l0 x _ (Kd.C_below HR0.out HB.out) HC0.out H2.out).mono ?_
  rintro e w1 ⟨v1, rfl, ho, hb⟩
  have HT := Aside0.mk ho
  have n_HB := Aside0.mk (below_step HB.out hb)
  clear HB ho hb
  have HB := n_HB
  clear n_HB
  obtain ⟨A1, c1, e1⟩ := Kd.R_slice HT.out
  subst e1
  go_wp2_with fail
  refine (spec_CriticalPairs.calls k _ _ x ws t _ (Kd.R_reads' HT.out).2.2 (Kd.R_reads' HT.out).2.1 H3.out).mono ?_
  rintro e w2 ⟨vw, rfl, ho, hb⟩
  have HW := Aside0.mk (Kd.N_mono (ok' := fun k_ => k_ < w2.heap.size) (Kd.N_bound (Kd.N_lower ho (below_size HB.out))) (fun _ h_ => h_.2))
  have n_HB := Aside0.mk (below_step HB.out hb)
  clear HB ho hb HT
  have HB := n_HB
  clear n_HB
  obtain ⟨Aw, cw, ew⟩ := Kd.N_slice HW.out
  subst ew
  go_wp2_with fail
  refine (laws_toRuleS.calls k _ _ l0 x _ (Kd.C_below HR0.out HB.out) HC0.out H2.out).mono ?_
  rintro e w3 ⟨vx, rfl, ho, hb⟩
  have HX := Aside0.mk (Kd.R_lower (Kd.R_mono (ok' := fun k_ => w2.heap.size ≤ k_ ∧ k_ < w3.heap.size) (Kd.R_bound ho) (fun _ h_ => ⟨h_.2.1, h_.2.2.1⟩)) (below_size HB.out))
  have S23 := Aside0.mk hb.size
  have n_HB := Aside0.mk (below_step HB.out hb)
  have n_HW := Aside0.mk (Kd.N_below HW.out hb)
  clear HB HW ho hb
  have HB := n_HB
  have HW := n_HW
  clear n_HB n_HW
  obtain ⟨Ax, cx, ex⟩ := Kd.R_slice HX.out
  subst ex
  go_wp2_with fail
  refine (impl_CriticalPairs.callsS k _ _ x gs t _ (Kd.R_reads' HX.out).2.2 (Kd.R_reads' HX.out).2.1 H4.out).mono ?_
  rintro e w4 ⟨vg, rfl, ho, hb⟩
  have HG := Aside0.mk (Kd.S_lower (Kd.S_mono (ok' := fun k_ => w3.heap.size ≤ k_) (Kd.S_bound ho) (fun _ h_ => h_.2.1)) (below_size HB.out))
  have n_HB := Aside0.mk (below_step HB.out hb)
  have n_HW := Aside0.mk (Kd.N_below HW.out hb)
  have n_HX := Aside0.mk (Kd.R_below HX.out hb)
  clear HB HW HX ho hb
  have HB := n_HB
  have HW := n_HW
  have HX := n_HX
  clear n_HB n_HW n_HX
  obtain ⟨Ag, cg, eg⟩ := Kd.S_slice HG.out
  subst eg
  go_wp2_with fail
  refine (laws_eqStringSS.calls k _ _ gs _ _ ws true _ (Kd.S_reads' HG.out).2.2 (Kd.S_reads' HG.out).2.1 (Kd.N_reads' HW.out).2.2 (Kd.N_reads' HW.out).2.1 H5.out).mono ?_
  rintro e w5 ⟨rfl, hd⟩
  have hb := drawn_below hd
  have n_HB := Aside0.mk (below_step HB.out hb)
  have n_HW := Aside0.mk (Kd.N_below HW.out hb)
  have n_HX := Aside0.mk (Kd.R_below HX.out hb)
  have n_HG := Aside0.mk (Kd.S_below HG.out hb)
  clear HB HW HX HG hb hd 
  have HB := n_HB
  have HW := n_HW
  have HX := n_HX
  have HG := n_HG
  clear n_HB n_HW n_HX n_HG
  go_wp2_with fail
  refine (laws_toRuleS.calls k _ _ l0 x _ (Kd.C_below HR0.out HB.out) HC0.out H2.out).mono ?_
  rintro e w6 ⟨vt, rfl, ho, hb⟩
  have HT := Aside0.mk ho
  have n_HB := Aside0.mk (below_step HB.out hb)
  have n_HW := Aside0.mk (Kd.N_below HW.out hb)
  have n_HX := Aside0.mk (Kd.R_below HX.out hb)
  have n_HG := Aside0.mk (Kd.S_below HG.out hb)
  clear HB HW HX HG ho hb
  have HB := n_HB
  have HW := n_HW
  have HX := n_HX
  have HG := n_HG
  clear n_HB n_HW n_HX n_HG
  obtain ⟨At, ct, et⟩ := Kd.R_slice HT.out
  subst et
  go_wp2_with fail
  refine (laws_eqRuleS.calls k _ _ x _ _ x true _ (Kd.R_reads' HX.out).2.2 (Kd.R_reads' HX.out).2.1 (Kd.R_reads' HT.out).2.2 (Kd.R_reads' HT.out).2.1 H6.out).mono ?_
  rintro e w7 ⟨rfl, hb⟩
  have n_HB := Aside0.mk (below_step HB.out hb)
  have n_HW := Aside0.mk (Kd.N_below HW.out hb)
  have n_HX := Aside0.mk (Kd.R_below HX.out hb)
  have n_HG := Aside0.mk (Kd.S_below HG.out hb)
  clear HB HW HX HG hb HT
  have HB := n_HB
  have HW := n_HW
  have HX := n_HX
  have HG := n_HG
  clear n_HB n_HW n_HX n_HG
  go_wp2_with fail
  refine (laws_markRuleS.calls k (fun k_ => w2.heap.size ≤ k_ ∧ k_ < w3.heap.size) _ x 1 km x' w _ HB.out HX.out H7.out).mono ?_
  rintro e w8 ⟨rfl, hx8, hb, hk⟩
  have n_HW := Aside0.mk (Kd.N_mono (ok' := fun k_ => k_ < w2.heap.size) (Kd.N_keptB HW.out hk (fun k_ h_ h2_ => by omega)) (fun _ h_ => h_.1))
  have n_HG := Aside0.mk (Kd.S_step HG.out (fun k_ h_ hlt_ => hk.2 k_ hlt_ (fun h2_ => by omega)))
  have n_HB := Aside0.mk hb
  clear HB HW HG HX hx8 hb hk
  have HB := n_HB
  have HW := n_HW
  have HG := n_HG
  clear n_HB n_HW n_HG
  go_wp2_with fail
  refine (laws_eqStringSS.calls k _ _ gs _ _ ws true _ (Kd.S_reads' HG.out).2.2 (Kd.S_reads' HG.out).2.1 (Kd.N_reads' HW.out).2.2 (Kd.N_reads' HW.out).2.1 H5.out).mono ?_
  rintro e w9 ⟨rfl, hd⟩
  have hb := drawn_below hd
  have n_HB := Aside0.mk (below_step HB.out hb)
  have n_HW := Aside0.mk (Kd.N_below HW.out hb)
  have n_HG := Aside0.mk (Kd.S_below HG.out hb)
  clear HB HW HG hb hd 
  have HB := n_HB
  have HW := n_HW
  have HG := n_HG
  clear n_HB n_HW n_HG
  go_wp2_with fail
  refine (laws_markStringSS.callsS k (fun k_ => w3.heap.size ≤ k_) _ gs 1 m gs' w _ HB.out HG.out H8.out).mono ?_
  rintro e w10 ⟨rfl, hg10, hb, hk⟩
  have n_HW := Aside0.mk (Kd.N_mono (ok' := fun k_ => k_ < w2.heap.size) (Kd.N_keptB HW.out hk (fun k_ h_ h2_ => by have := S23.out; omega)) (fun _ h_ => h_.1))
  have n_HG := Aside0.mk (Kd.S_mono (ok' := fun _ => True) hg10 (fun _ _ => trivial))
  have n_HB := Aside0.mk hb
  clear HB HW HG hg10 hb hk
  have HB := n_HB
  have HW := n_HW
  have HG := n_HG
  clear n_HB n_HW n_HG
  have e10 := Aside0.mk (Kd.S_reads' HG.out).1
  go_wp2_with fail
  have hcall := laws_heldStringSS.calls k Ag cg gs' 1 m w10 (Kd.S_reads' HG.out).2.2 (by rw [← e10.out]; exact (Kd.S_reads' HG.out).2.1) H9.out
  rw [← e10.out] at hcall
  refine hcall.mono ?_
  clear hcall
  rintro e w11 ⟨rfl, hb⟩
  have n_HB := Aside0.mk (below_step HB.out hb)
  have n_HW := Aside0.mk (Kd.N_below HW.out hb)
  have n_HG := Aside0.mk (Kd.S_below HG.out hb)
  clear HB HW HG hb
  have HB := n_HB
  have HW := n_HW
  have HG := n_HG
  clear n_HB n_HW n_HG
  go_wp2_with fail
  refine (laws_toRuleS.calls k _ _ l0 x _ (Kd.C_below HR0.out HB.out) HC0.out H2.out).mono ?_
  rintro e w12 ⟨vh, rfl, ho, hb⟩
  have HT := Aside0.mk ho
  have n_HB := Aside0.mk (below_step HB.out hb)
  have n_HW := Aside0.mk (Kd.N_below HW.out hb)
  have n_HG := Aside0.mk (Kd.S_below HG.out hb)
  clear HB HW HG ho hb
  have HB := n_HB
  have HW := n_HW
  have HG := n_HG
  clear n_HB n_HW n_HG
  obtain ⟨Ah, ch, eh⟩ := Kd.R_slice HT.out
  subst eh
  go_wp2_with fail
  refine (impl_CriticalPairs.callsS k _ _ x gs t _ (Kd.R_reads' HT.out).2.2 (Kd.R_reads' HT.out).2.1 H4.out).mono ?_
  rintro e w13 ⟨vs, rfl, ho, hb⟩
  have HS := Aside0.mk ho
  have n_HB := Aside0.mk (below_step HB.out hb)
  have n_HW := Aside0.mk (Kd.N_below HW.out hb)
  have n_HG := Aside0.mk (Kd.S_below HG.out hb)
  clear HB HW HG ho hb HT
  have HB := n_HB
  have HW := n_HW
  have HG := n_HG
  clear n_HB n_HW n_HG
  obtain ⟨As, cs, es⟩ := Kd.S_slice HS.out
  subst es
  go_wp2_with fail
  refine (laws_eqStringSS.calls k _ _ gs _ _ ws true _ (Kd.S_reads' HS.out).2.2 (Kd.S_reads' HS.out).2.1 (Kd.N_reads' HW.out).2.2 (Kd.N_reads' HW.out).2.1 H5.out).mono ?_
  rintro e w14 ⟨rfl, hd⟩
  have hb := drawn_below hd
  have n_HB := Aside0.mk (below_step HB.out hb)
  have n_HW := Aside0.mk (Kd.N_below HW.out hb)
  have n_HG := Aside0.mk (Kd.S_below HG.out hb)
  clear HB HW HG hb hd HS
  have HB := n_HB
  have HW := n_HW
  have HG := n_HG
  clear n_HB n_HW n_HG
  go_wp2_with fail
  have hcall := laws_heldStringSS.calls k Ag cg gs' 1 m w14 (Kd.S_reads' HG.out).2.2 (by rw [← e10.out]; exact (Kd.S_reads' HG.out).2.1) H9.out
  rw [← e10.out] at hcall
  refine hcall.mono ?_
  clear hcall
  rintro e w15 ⟨rfl, hb⟩
  have n_HB := Aside0.mk (below_step HB.out hb)
  have n_HW := Aside0.mk (Kd.N_below HW.out hb)
  have n_HG := Aside0.mk (Kd.S_below HG.out hb)
  clear HB HW HG hb
  have HB := n_HB
  have HW := n_HW
  have HG := n_HG
  clear n_HB n_HW n_HG
  go_wp2
  go_ret
  exact ⟨rfl, HB.out⟩

section
open Go.ChangeShapes Go.WideShapes Go.Deep
def G72 (x : S72) : Prop := x.f0.size ≤ 9223372036854775807 ∧ x.f1.size ≤ 9223372036854775807
end
end Go.Proofs.Ytmigpfkjhdaijab.CP
