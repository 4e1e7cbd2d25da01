/- What is rewritten once is less, and each critical pair comes from one text, for drawn rules: the two answer alike. Conditions: none beyond the statement's own. -/
import Derived.Test.YtmigpfkjhdaijabRwC
import Derived.Test.YtmigpfkjhdaijabRwAsk
import Derived.Test.YtmigpfkjhdaijabRwD
import Derived.Test.YtmigpfkjhdaijabRwL
namespace Go.Proofs.Ytmigpfkjhdaijab.Pure
set_option linter.unusedVariables false
set_option linter.unusedSimpArgs false
open Go.RowKit Go.Proofs.Ytmigpfkjhdaijab.Rw Go.Proofs.Ytmigpfkjhdaijab.PA Go.Proofs.YtmigpfkjhdaijabW.PrintWords Go.Proofs.YtmigpfkjhdaijabW.PrintLast

def critOfV (l : List (S59)) : List (List ByteArray) × Bool := if goodL l = true then (critV l, true) else ([], false)
theorem spec_critOf (l : List (S59)) (hl : Small l) : Ev (fun k => spec_CriticalPairs.f k l) (critOfV l) := by
  unfold spec_CriticalPairs.f critOfV
  refine Ev.bind (spec_good l hl) ?_
  cases h1 : goodL l with
  | false => exact ev_neg Bool.false_ne_true (Ev.now _)
  | true => exact ev_pos rfl (Ev.bind (spec_crit l (goodL_fine h1)) (Ev.now _))
theorem impl_critOf (l : List (S59)) (hl : Small l) : Ev (fun k => impl_CriticalPairs.f k l) (critOfV l) := by
  unfold impl_CriticalPairs.f critOfV
  refine Ev.bind (impl_good l hl) ?_
  cases h1 : goodL l with
  | false => exact ev_neg Bool.false_ne_true (Ev.now _)
  | true => exact ev_pos rfl (Ev.bind (impl_crit l (goodL_fine h1)) (Ev.now _))
theorem critOf_two (l : List (S59)) : (critOfV l).1.length ≤ 200000 ∧ ∀ p ∈ (critOfV l).1, Two p := by
  unfold critOfV
  split
  · rename_i h
    exact ⟨critV_length (goodL_fine h), fun p hp => critV_two (goodL_little h) hp⟩
  · exact ⟨by simp, fun p hp => by simp at hp⟩
theorem byte_of {l : List Int} (hn : l.length ≤ 1048576) (h : ∀ x ∈ l, (Lit.int .u8 x).wf = true) : Bytes l := ⟨hn, fun y hy => by
  exact bounds_u8 (h y hy)⟩
theorem pairs_end (l : List Int) (hl : Bytes l) : Ev (fun k => (spec_DrawShortLess.f k l).bind fun bt327 => ((impl_ShortLess.f bt327.1 bt327.2).bind fun t329 => ((impl_ShortLess.f bt327.2 bt327.1).bind fun t330 => ((spec_ShortLess.f bt327.1 bt327.2).bind fun t331 => (if (t329 == t331) = true then (if t329 = true then (if t330 = true then (some false) else (some true)) else (if t330 = true then (some true) else (some (bt327.1.toList == bt327.2.toList)))) else (some false)))))) true := by
  obtain ⟨a, p1, q1, ea, _, h1, h2⟩ := ab_ l hl 0 0 3 (by omega) (by omega) (by omega)
  obtain ⟨b, p2, q2, eb, _, h3, h4⟩ := ab_ l hl p1 q1 3 (by omega) (by omega) (by omega)
  have ed : Ev (fun k => spec_DrawShortLess.f k l) (a, b) := Ev.bind ea (Ev.bind eb (Ev.now _))
  refine Ev.bind ed (ev_bindc (impl_less _ _) (ev_bindc (impl_less _ _) (ev_bindc (spec_less _ _) (ev_pos (by simp) ?_))))
  cases h5 : less a b with
  | true =>
    refine ev_pos rfl (ev_neg ?_ (Ev.now _))
    intro h6
    exact less_asym h5 h6
  | false =>
    refine ev_neg Bool.false_ne_true ?_
    cases h6 : less b a with
    | true => exact ev_pos rfl (Ev.now _)
    | false =>
      refine ev_neg Bool.false_ne_true ?_
      have := less_total h5 h6
      exact ev_const (by simp [this])
theorem pairs_l1 (l : List Int) (hl : Bytes l) (s : ByteArray) (xs : List ByteArray) (hn : xs.length ≤ 1000000) (hx : ∀ t ∈ xs, less t s = true) (d : Nat) : ∀ (i : Nat), xs.length - i = d → i ≤ xs.length → Ev (fun k => laws_FnPairs.l1 k l s xs xs (xs.length : Int) i) true := by
  induction d with
  | zero =>
    intro i hd hi
    refine ev_succ ?_
    simp only [laws_FnPairs.l1]
    exact ev_neg (by omega) (pairs_end l hl)
  | succ d ih =>
    intro i hd hi
    refine ev_succ ?_
    simp only [laws_FnPairs.l1]
    have hm : rdOf ByteArray.empty xs (i : Int) ∈ xs := by
      unfold rdOf
      exact rd_mem xs _ _ (by omega)
    refine ev_pos (by omega) (ev_pos (by omega) (ev_pos (by omega) (ev_pos (by omega) (ev_pos trivial (ev_bindc (impl_less _ _) (ev_pos (hx _ hm) ?_))))))
    rw [inc (by omega) (by omega)]
    exact ih (i + 1) (by omega) (by omega)
theorem pairs_once (l : List Int) (hl : Bytes l) : Ev (fun k => (spec_DrawOnceBy.f k l).bind fun bt311 => ((impl_OnceBy.f k bt311.1 bt311.2).bind fun bt315 => ((spec_OnceBy.f k bt311.1 bt311.2).bind fun bt319 => (if (bt315.2 != bt319.2) = true then (laws_FnPairs.j2 k l bt311.2 bt315.1 bt319.1 true) else (laws_FnPairs.j2 k l bt311.2 bt315.1 bt319.1 ((bt315.1.length : Int) != (bt319.1.length : Int))))))) true := by
  obtain ⟨r, p1, q1, er, ho, hn, h1, h2⟩ := rules_ l hl
  obtain ⟨s, p2, q2, es, hz, h3, h4⟩ := word_ l hl p1 q1 h1 (by omega)
  have ed : Ev (fun k => spec_DrawOnceBy.f k l) (r, s) := Ev.bind er (Ev.bind es (Ev.now _))
  have hsm := small_of ho hn
  have hlen := onceOf_len r s
  have hless : ∀ t ∈ (onceOfV r s).1, less t s = true := by
    unfold onceOfV
    split
    · rename_i h
      exact fun t ht => onceL_less (Bool.and_eq_true_iff.1 h).1 ht
    · exact fun t ht => by simp at ht
  refine Ev.bind ed (Ev.bind (impl_onceOf r hsm s (by omega)) (Ev.bind (spec_onceOf r hsm s (by omega)) (ev_neg (by simp) ?_)))
  generalize onceOfV r s = v at hlen hless ⊢
  refine ev_succ ?_
  simp only [laws_FnPairs.j2]
  exact ev_neg (by simp) (pairs_l1 l hl s v.1 hlen hless v.1.length 0 (by omega) (by omega))
theorem pairs_l0 (l : List Int) (hl : Bytes l) (ps : List (List ByteArray)) (hn : ps.length ≤ 200000) (hp : ∀ p ∈ ps, Two p) (d : Nat) : ∀ (i : Nat), ps.length - i = d → i ≤ ps.length → Ev (fun k => laws_FnPairs.l0 k l ps ps (ps.length : Int) i) true := by
  induction d with
  | zero =>
    intro i hd hi
    refine ev_succ ?_
    simp only [laws_FnPairs.l0]
    exact ev_neg (by omega) (pairs_once l hl)
  | succ d ih =>
    intro i hd hi
    refine ev_succ ?_
    simp only [laws_FnPairs.l0]
    have hm : rd_L6 ps (i : Int) ∈ ps := by
      unfold rd_L6
      exact rd_mem ps _ _ (by omega)
    obtain ⟨x, y, e, _⟩ := hp _ hm
    have e2 : ((rd_L6 ps (i : Int)).length : Int) = 2 := by rw [e]; rfl
    refine ev_pos (by omega) (ev_pos (by omega) (ev_pos (by omega) (ev_pos e2 (ev_pos (by omega) (ev_pos e2 (ev_pos (by omega) (ev_pos (by omega) (ev_pos trivial (ev_pos (by omega) (ev_pos (by omega) (ev_pos trivial ?_)))))))))))
    rw [inc (by omega) (by omega)]
    exact ih (i + 1) (by omega) (by omega)
theorem FnPairs : laws_FnPairs.Pure := by
  intro l0 l1 _ h0 g0 _ h1 g1
  suffices Ev (fun k => laws_FnPairs.f k l0 l1) true by
    obtain ⟨K, hK⟩ := this
    exact ⟨K, hK K (Nat.le_refl K)⟩
  unfold laws_FnPairs.f
  by_cases c : wrap64 ((l0.length : Int) + (l1.length : Int)) > 1048576
  · exact ev_pos c (Ev.now _)
  · have hw : wrap64 ((l0.length : Int) + (l1.length : Int)) = (l0.length : Int) + (l1.length : Int) := wrap_id (by omega) (by omega)
    have b0 := byte_of (l := l0) (by omega) g0
    have b1 := byte_of (l := l1) (by omega) g1
    obtain ⟨r, p1, q1, er, ho, hn, _, _⟩ := rules_ l0 b0
    have ed : Ev (fun k => spec_DrawCriticalPairs.f k l0) r := Ev.bind (Ev.bind er (Ev.now _)) (Ev.now _)
    have hsm := small_of ho hn
    have ht := critOf_two r
    have hg : (critOfV r).2 = goodL r := by
      unfold critOfV
      split
      · rename_i h; exact h.symm
      · rename_i h; rw [Bool.not_eq_true] at h; exact h.symm
    refine ev_neg c (Ev.bind ed (Ev.bind (impl_critOf r hsm) (Ev.bind (spec_critOf r hsm) (ev_neg (by simp) (ev_pos rfl (Ev.bind (impl_good r hsm) ?_))))))
    rw [hg, bne_self_eq_false]
    generalize (critOfV r).1 = ps at ht ⊢
    refine ev_succ ?_
    simp only [laws_FnPairs.j0]
    exact ev_neg (by simp) (pairs_l0 l1 b1 ps ht.1 ht.2 ps.length 0 (by omega) (by omega))
end Go.Proofs.Ytmigpfkjhdaijab.Pure
