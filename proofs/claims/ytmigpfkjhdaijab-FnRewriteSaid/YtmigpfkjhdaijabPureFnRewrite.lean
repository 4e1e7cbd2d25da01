/- Where what two rules make of one text comes to one end, whatever is rewritten first does (Newman; Knuth and Bendix), for drawn rules and texts. Conditions: none beyond the statement's own. -/
import Derived.Test.YtmigpfkjhdaijabNw2
import Derived.Test.YtmigpfkjhdaijabRwD
namespace Go.Proofs.Ytmigpfkjhdaijab.Pure
set_option linter.unusedVariables false
set_option linter.unusedSimpArgs false
open Go.RowKit Go.Proofs.Ytmigpfkjhdaijab.Nw Go.Proofs.Ytmigpfkjhdaijab.Rw Go.Proofs.Ytmigpfkjhdaijab.RF Go.Proofs.YtmigpfkjhdaijabW.PrintWords Go.Proofs.YtmigpfkjhdaijabW.PrintLast

theorem byte_of {l : List Int} (hn : l.length ≤ 1048576) (h : ∀ x ∈ l, (Lit.int .u8 x).wf = true) : Bytes l := ⟨hn, fun y hy => by
  exact bounds_u8 (h y hy)⟩
/-! ### a number of some bytes -/
theorem number_l0 (l : List Int) (hl : Bytes l) (d : Nat) : ∀ (i : Nat) (x : Int), l.length - i = d → i ≤ l.length → 0 ≤ x → x < 1000003 → ∃ v, Ev (fun k => laws_numberOf.l0 k x l (l.length : Int) i) v ∧ 0 ≤ v := by
  have hn := hl.1
  induction d with
  | zero =>
    intro i x hd hi h0 h1
    refine ⟨x, ev_succ ?_, h0⟩
    simp only [laws_numberOf.l0]
    exact ev_neg (by omega) (Ev.now _)
  | succ d ih =>
    intro i x hd hi h0 h1
    have hb := rd_byte hl (i : Int)
    have e1 : wrap64 (31 * x) = 31 * x := wrap_id (by omega) (by omega)
    have e2 : wrap64 (rd l (i : Int)) = rd l (i : Int) := wrap_id (by omega) (by omega)
    have e3 : wrap64 (31 * x + rd l (i : Int)) = 31 * x + rd l (i : Int) := wrap_id (by omega) (by omega)
    obtain ⟨v, hv, h⟩ := ih (i + 1) (Int.tmod (31 * x + rd l (i : Int)) 1000003) (by omega) (by omega) (Int.tmod_nonneg _ (by omega)) (Int.tmod_lt_of_pos _ (by omega))
    refine ⟨v, ev_succ ?_, h⟩
    simp only [laws_numberOf.l0]
    rw [e1, e2, e3, inc (by omega) (by omega)]
    exact ev_pos (by omega) (ev_pos (by omega) (ev_pos (by omega) hv))
theorem number_ (l : List Int) (hl : Bytes l) : ∃ v, Ev (fun k => laws_numberOf.f k l) v ∧ 0 ≤ v := number_l0 l hl l.length 0 0 (by omega) (by omega) (by omega) (by omega)
/-! ### two texts that are drawn -/
theorem pickW_ (l : List Int) (hl : Bytes l) (p q n : Int) (h0 : 0 ≤ p) (h1 : p ≤ 100000000) (hn : n ≤ 1000000) : ∃ v p' q', spec_l1Cur_pick.f l p q n = some (v, p', q') ∧ 0 ≤ v ∧ (1 ≤ n → v < n) := by
  by_cases c : n ≤ 200
  · obtain ⟨v, p', q', e, h2, h3, _, _⟩ := pick_ l hl p q n h0 (by omega) c
    exact ⟨v, p', q', e, h2, h3⟩
  · obtain ⟨v, q1, e1, a1, a2⟩ := next_ l hl p q h0 (by omega)
    obtain ⟨u, q2, e2, b1, b2⟩ := next_ l hl (p + 1) q1 (by omega) (by omega)
    have w1 : wrap64 (v * 256) = v * 256 := wrap_id (by omega) (by omega)
    have w2 : wrap64 (v * 256 + u) = v * 256 + u := wrap_id (by omega) (by omega)
    unfold spec_l1Cur_pick.f
    rw [if_neg (by omega), e1]
    simp only [Option.bind_some]
    rw [if_pos (by omega), e2]
    simp only [Option.bind_some]
    rw [if_neg (by omega), w1, w2]
    exact ⟨_, _, _, rfl, Int.tmod_nonneg _ (by omega), fun _ => Int.tmod_lt_of_pos _ (by omega)⟩
theorem onceOf_size (l : List (S59)) (s t : ByteArray) (h : t ∈ (onceOfV l s).1) : t.size ≤ s.size := by
  unfold onceOfV at h
  split at h
  · rename_i c
    exact onceL_size (goodL_fine (Bool.and_eq_true_iff.1 c).1) h
  · simp at h
theorem joined_draw (l : List Int) (hl : Bytes l) : ∃ r a b, Ev (fun k => spec_DrawJoinedBy.f k l) (r, a, b) ∧ Small r ∧ a.size ≤ 9223372036854775807 ∧ b.size ≤ 9223372036854775807 := by
  obtain ⟨r, p1, q1, er, ho, hn, h1, h2⟩ := rules_ l hl
  obtain ⟨s, p2, q2, es, hz, h3, h4⟩ := word_ l hl p1 q1 h1 (by omega)
  have hsm := small_of ho hn
  have hlen := onceOf_len r s
  have hsz := onceOf_size r s
  have eo := spec_onceOf r hsm s (by omega)
  generalize onceOfV r s = o at hlen hsz eo
  have hz' : ∀ p q : Int, 0 ≤ p → p ≤ 1000000 → ∃ b, Ev (fun k => spec_DrawJoinedBy.z k l r s p q) (r, s, b) ∧ b.size ≤ 9223372036854775807 := by
    intro p q h0 h1
    obtain ⟨z, p3, q3, ez, hz3, _, _⟩ := word_ l hl p q h0 h1
    exact ⟨z, Ev.bind ez (Ev.now _), by omega⟩
  by_cases c1 : o.2 = true
  · by_cases c2 : 0 < (o.1.length : Int)
    · obtain ⟨v, p3, q3, e3, h5, h6⟩ := one_ l hl p2 q2 2 (by omega) (by omega) (by omega)
      by_cases c3 : v = true
      · obtain ⟨n, p4, q4, e4, h7, h8⟩ := pickW_ l hl p3 q3 (o.1.length : Int) (by omega) (by omega) (by omega)
        have h8 := h8 (by omega)
        have hm : rdOf ByteArray.empty o.1 n ∈ o.1 := by
          unfold rdOf
          exact rd_mem o.1 _ _ (by omega)
        have := hsz _ hm
        exact ⟨r, s, rdOf ByteArray.empty o.1 n, Ev.bind er (Ev.bind es (Ev.bind eo (ev_pos c1 (ev_pos c2 (ev_bindc e3 (ev_pos c3 (ev_bindc e4 (ev_pos h7 (ev_pos h8 (Ev.now _)))))))))), hsm, by omega, by omega⟩
      · obtain ⟨b, eb, hb⟩ := hz' p3 q3 (by omega) (by omega)
        exact ⟨r, s, b, Ev.bind er (Ev.bind es (Ev.bind eo (ev_pos c1 (ev_pos c2 (ev_bindc e3 (ev_neg c3 eb)))))), hsm, by omega, hb⟩
    · obtain ⟨b, eb, hb⟩ := hz' p2 q2 (by omega) (by omega)
      exact ⟨r, s, b, Ev.bind er (Ev.bind es (Ev.bind eo (ev_pos c1 (ev_neg c2 eb)))), hsm, by omega, hb⟩
  · obtain ⟨b, eb, hb⟩ := hz' p2 q2 (by omega) (by omega)
    exact ⟨r, s, b, Ev.bind er (Ev.bind es (Ev.bind eo (ev_neg c1 eb))), hsm, by omega, hb⟩
theorem joined_end (l : List Int) (hl : Bytes l) : Ev (fun k => (spec_DrawJoinedBy.f k l).bind fun b => ((impl_JoinedBy.f k b.1 b.2.1 b.2.2).bind fun t => ((spec_JoinedBy.f k b.1 b.2.1 b.2.2).bind fun u => (if (t.2 == u.2) = true then (some (t.1 == u.1)) else (some false))))) true := by
  obtain ⟨r, a, b, e, hr, ha, hb⟩ := joined_draw l hl
  exact Ev.bind e (Ev.bind (impl_joined r hr a b ha hb) (Ev.bind (spec_joined r hr a b ha hb) (ev_pos (by simp) (ev_const (by simp)))))
/-! ### the law -/
theorem less_irr {a b : ByteArray} (h : less a b = true) (e : a.toList = b.toList) : False := by
  have := list_inj e
  subst this
  exact less_asym h h
/-- What NormalOf tells where it tells something. -/
theorem normal_of {l : List (S59)} {s : ByteArray} (h : (normalOfV l s).2.2 = true) : goodL l = true ∧ textOK s 40 = true ∧ Rs (RL l) s.toList (normalOfV l s).1.toList ∧ onceL l (normalOfV l s).1 = [] ∧ ((normalOfV l s).2.1 = 0 ∧ (normalOfV l s).1 = s ∨ 0 < (normalOfV l s).2.1 ∧ less (normalOfV l s).1 s = true) := by
  unfold normalOfV at h ⊢
  by_cases c : askV l s = true
  · rw [if_pos c] at h ⊢
    obtain ⟨c1, c2⟩ := Bool.and_eq_true_iff.1 c
    have hs := text_size c2
    exact ⟨c1, c2, norm_of c1 false 401 s 0 (by omega) h⟩
  · rw [if_neg c] at h
    exact absurd h Bool.false_ne_true
theorem last_of {l : List (S59)} {s : ByteArray} (h : (lastOfV l s).2 = true) : Rs (RL l) s.toList (lastOfV l s).1.toList ∧ onceL l (lastOfV l s).1 = [] := by
  unfold lastOfV at h ⊢
  by_cases c : askV l s = true
  · rw [if_pos c] at h ⊢
    obtain ⟨c1, c2⟩ := Bool.and_eq_true_iff.1 c
    have hs := text_size c2
    have := norm_of c1 true 401 s 0 (by omega) h
    exact ⟨this.1, this.2.1⟩
  · rw [if_neg c] at h
    exact absurd h Bool.false_ne_true
theorem j4_ (l : List Int) (hl : Bytes l) : Ev (fun k => laws_FnRewrite.j4 k l false) true := by
  refine ev_succ ?_
  simp only [laws_FnRewrite.j4]
  exact ev_neg Bool.false_ne_true (joined_end l hl)
theorem j3_ (l : List Int) (hl : Bytes l) (r : List (S59)) (hr : Small r) (s : ByteArray) (hs : s.size ≤ 9223372036854775807) (ok : (normalOfV r s).2.2 = true) (h1 : (isConfV r).1 = true) (h2 : (isConfV r).2 = true) :
    Ev (fun k => laws_FnRewrite.j3 k l r s (normalOfV r s).1 false) true := by
  obtain ⟨g1, g2, g3, g4, _⟩ := normal_of ok
  have ha : askV r s = true := Bool.and_eq_true_iff.2 ⟨g1, g2⟩
  have hz := text_size g2
  have ev : onceOfV r s = (onceL r s, true) := by unfold onceOfV; rw [if_pos ha]
  have eo := impl_onceOf r hr s hs
  rw [ev] at eo
  refine ev_succ ?_
  simp only [laws_FnRewrite.j3]
  refine ev_neg Bool.false_ne_true (Ev.bind eo (ev_pos rfl ?_))
  by_cases c : ((onceL r s).length : Int) > 0
  · obtain ⟨v, e, hv⟩ := number_ l hl
    have t0 : 0 ≤ Int.tmod v ((onceL r s).length : Int) := Int.tmod_nonneg _ hv
    have t1 : Int.tmod v ((onceL r s).length : Int) < ((onceL r s).length : Int) := Int.tmod_lt_of_pos _ (by omega)
    have hm : rdOf ByteArray.empty (onceL r s) (Int.tmod v ((onceL r s).length : Int)) ∈ onceL r s := by
      unfold rdOf
      exact rd_mem _ _ _ (by omega)
    have hst := once_of (goodL_fine g1) hm
    have hms := onceL_size (goodL_fine g1) hm
    refine ev_pos c (Ev.bind e (ev_neg (fun h => by have h' : ((onceL r s).length : Int) = 0 := h; omega) (ev_pos t0 (ev_pos t1 ?_))))
    generalize rdOf ByteArray.empty (onceL r s) (Int.tmod v ((onceL r s).length : Int)) = x at hst hms ⊢
    refine Ev.bind (impl_normalOf r hr x (by omega)) ?_
    by_cases c3 : (normalOfV r x).2.2 = true
    · obtain ⟨_, _, k3, k4, _⟩ := normal_of c3
      have := one_end g1 h1 h2 (.head hst k3) g3 k4 g4
      refine ev_pos c3 ?_
      rw [this, bne_self_eq_false]
      exact j4_ l hl
    · exact ev_neg c3 (j4_ l hl)
  · exact ev_neg c (joined_end l hl)
theorem j1_ (l : List Int) (hl : Bytes l) (r : List (S59)) (hr : Small r) (s : ByteArray) (hs : s.size ≤ 9223372036854775807) (ok : (normalOfV r s).2.2 = true) :
    Ev (fun k => laws_FnRewrite.j1 k l r s (normalOfV r s).1 (lastOfV r s).1 (lastOfV r s).2 (isConfV r).1 (isConfV r).2 false) true := by
  obtain ⟨g1, g2, g3, g4, _⟩ := normal_of ok
  refine ev_succ ?_
  simp only [laws_FnRewrite.j1]
  refine ev_neg Bool.false_ne_true ?_
  have j2f : Ev (fun k => laws_FnRewrite.j2 k l r s (normalOfV r s).1 (lastOfV r s).1 (lastOfV r s).2 false) true := by
    refine ev_succ ?_
    simp only [laws_FnRewrite.j2]
    exact ev_neg Bool.false_ne_true (joined_end l hl)
  by_cases c2 : (isConfV r).2 = true
  · refine ev_pos c2 ?_
    cases c1 : (isConfV r).1 with
    | false => exact j2f
    | true =>
      refine ev_succ ?_
      simp only [laws_FnRewrite.j2]
      refine ev_pos (by trivial) ?_
      by_cases c4 : (lastOfV r s).2 = true
      · obtain ⟨k1, k2⟩ := last_of c4
        have := one_end g1 c1 c2 k1 g3 k2 g4
        refine ev_pos c4 ?_
        rw [this, bne_self_eq_false]
        exact j3_ l hl r hr s hs ok c1 c2
      · exact ev_neg c4 (j3_ l hl r hr s hs ok c1 c2)
  · exact ev_neg c2 j2f
theorem j0_ (l : List Int) (hl : Bytes l) (r : List (S59)) (hr : Small r) (s : ByteArray) (hs : s.size ≤ 9223372036854775807) :
    Ev (fun k => laws_FnRewrite.j0 k l r s (normalOfV r s).1 (normalOfV r s).2.1 (normalOfV r s).2.2 (lastOfV r s).1 (lastOfV r s).2 (isConfV r).1 (isConfV r).2 false) true := by
  refine ev_succ ?_
  simp only [laws_FnRewrite.j0]
  refine ev_neg Bool.false_ne_true ?_
  by_cases ok : (normalOfV r s).2.2 = true
  · obtain ⟨g1, g2, g3, g4, g5⟩ := normal_of ok
    have h1 := j1_ l hl r hr s hs ok
    have ht := text_rs g1 g3 g2
    have ha : askV r (normalOfV r s).1 = true := Bool.and_eq_true_iff.2 ⟨g1, ht⟩
    have hz := text_size ht
    have ev : onceOfV r (normalOfV r s).1 = ([], true) := by unfold onceOfV; rw [if_pos ha, g4]
    have eo := impl_onceOf r hr (normalOfV r s).1 (by omega)
    rw [ev] at eo
    refine ev_pos ok (Ev.bind eo (ev_pos rfl (ev_neg (by simp) ?_)))
    rcases g5 with ⟨g5, g6⟩ | ⟨g5, g6⟩
    · refine ev_neg ?_ (ev_neg (by omega) h1)
      rw [g5, g6]
      simp
    · refine ev_neg ?_ (ev_pos (by omega) (ev_bindc (impl_less _ _) ?_))
      · have e1 : ((normalOfV r s).2.1 == 0) = false := by simp; omega
        have e2 : ((normalOfV r s).1.toList == s.toList) = false := by
          rw [beq_eq_false_iff_ne]
          exact fun e => less_irr g6 e
        rw [e1, e2]
        simp
      · rw [g6]
        exact h1
  · exact ev_neg ok (joined_end l hl)
theorem FnRewrite : laws_FnRewrite.Pure := by
  intro l0 l1 _ h0 g0 _ h1 g1
  suffices Ev (fun k => laws_FnRewrite.f k l0 l1) true by
    obtain ⟨K, hK⟩ := this
    exact ⟨K, hK K (Nat.le_refl K)⟩
  unfold laws_FnRewrite.f
  by_cases c : wrap64 ((l0.length : Int) + (l1.length : Int)) > 1048576
  · exact ev_pos c (Ev.now _)
  · have hw : wrap64 ((l0.length : Int) + (l1.length : Int)) = (l0.length : Int) + (l1.length : Int) := wrap_id (by omega) (by omega)
    have b0 := byte_of (l := l0) (by omega) g0
    have b1 := byte_of (l := l1) (by omega) g1
    obtain ⟨r, p1, q1, er, ho, hn, k1, k2⟩ := rules_ l0 b0
    obtain ⟨s, p2, q2, es, hz, _, _⟩ := word_ l0 b0 p1 q1 k1 (by omega)
    have ed : Ev (fun k => spec_DrawNormalOf.f k l0) (r, s) := Ev.bind (Ev.bind er (Ev.bind es (Ev.now _))) (Ev.now _)
    have hsm := small_of ho hn
    have hs : s.size ≤ 9223372036854775807 := by omega
    have h := j0_ l1 b1 r hsm s hs
    refine ev_neg c (Ev.bind ed (Ev.bind (impl_normalOf r hsm s hs) (Ev.bind (spec_normalOf r hsm s hs) (Ev.bind (impl_lastOf r hsm s hs) (Ev.bind (spec_lastOf r hsm s hs) (Ev.bind (impl_isConf r hsm) (Ev.bind (spec_isConf r hsm) (ev_neg (by simp) (ev_pos rfl (ev_pos rfl (ev_neg (by simp) (ev_pos rfl (ev_neg (by simp) ?_)))))))))))))
    rw [bne_self_eq_false]
    exact h
end Go.Proofs.Ytmigpfkjhdaijab.Pure
