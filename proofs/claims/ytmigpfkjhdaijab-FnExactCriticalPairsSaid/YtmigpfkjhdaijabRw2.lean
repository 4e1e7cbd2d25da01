/- The law's own helpers over rules: sizes, copies, comparison. Plain Lean. -/
import Derived.Test.YtmigpfkjhdaijabRw1
import Derived.Test.YtmigpfkjhdaijabCritHand
namespace Go.Proofs.Ytmigpfkjhdaijab.Rw
set_option linter.unusedVariables false
set_option linter.unusedSimpArgs false
open Go.RowKit Go.Proofs.Ytmigpfkjhdaijab.CP Go.Proofs.YtmigpfkjhdaijabW.PrintWords Go.Proofs.YtmigpfkjhdaijabW.PrintLast

def cv (x : S72) : S59 := ⟨x.f0, x.f1⟩
theorem szRule_ev (x : S72) (hx : G72 x) (n : Int) (h0 : 0 ≤ n) (h1 : n ≤ 1048576) :
    ∃ r, laws_szRule.f x.f0 x.f1 n = some r ∧ r ≤ 1048576 ∧ (0 ≤ r → x.f0.size ≤ 1048576 ∧ x.f1.size ≤ 1048576) := by
  obtain ⟨g0, g1⟩ := hx
  unfold laws_szRule.f
  rw [wrap_id (by omega) (by omega)]
  by_cases c1 : n - (x.f0.size : Int) < 0
  · rw [if_pos c1]
    exact ⟨-1, rfl, by omega, by omega⟩
  · rw [if_neg c1, wrap_id (by omega) (by omega)]
    by_cases c2 : n - (x.f0.size : Int) - (x.f1.size : Int) < 0
    · rw [if_pos c2]
      exact ⟨-1, rfl, by omega, by omega⟩
    · rw [if_neg c2]
      exact ⟨_, rfl, by omega, fun _ => ⟨by omega, by omega⟩⟩
theorem sz_l0 (l : List (S72)) (hn : l.length ≤ 9223372036854775807) (hx : ∀ x ∈ l, G72 x) (d : Nat) : ∀ (i : Nat) (n : Int), l.length - i = d → i ≤ l.length → 0 ≤ n → n ≤ 1048576 →
    ∃ r, Ev (fun k => laws_szRuleS.l0 k l n i) r ∧ (0 ≤ r → ∀ x ∈ l.drop i, x.f0.size ≤ 1048576 ∧ x.f1.size ≤ 1048576) := by
  induction d with
  | zero =>
    intro i n hd hi h0 h1
    refine ⟨n, ev_succ (ev_neg (by omega) (Ev.now _)), fun _ x hm => ?_⟩
    rw [List.drop_eq_nil_of_le (by omega)] at hm
    cases hm
  | succ d ih =>
    intro i n hd hi h0 h1
    have hi2 : i < l.length := by omega
    obtain ⟨r, hr, hb, hs⟩ := szRule_ev (l.getD i z72) (hx _ (rd_mem l _ i hi2)) n h0 h1
    rw [rd_drop l z72 i hi2]
    by_cases c : r < 0
    · exact ⟨-1, ev_succ (ev_pos (by omega) (ev_pos (by omega) (ev_bindc hr (ev_pos c (Ev.now _))))), by omega⟩
    · obtain ⟨q, hq, hqs⟩ := ih (i + 1) r (by omega) (by omega) (by omega) hb
      refine ⟨q, ev_succ (ev_pos (by omega) (ev_pos (by omega) (ev_bindc hr (ev_neg c ?_)))), fun h x hm => ?_⟩
      · rw [inc (by omega) (by omega)]
        exact hq
      · rcases List.mem_cons.1 hm with rfl | hm
        · exact hs (by omega)
        · exact hqs h x hm
/-- The law looks at small rules alone. -/
theorem sz_ev (l : List (S72)) (hl : l.length ≤ 9223372036854775807 ∧ ∀ y ∈ l, G72 y) :
    ∃ r, Ev (fun k => laws_szRuleS.f k l 1048576) r ∧ (0 ≤ r → l.length ≤ 1048576 ∧ ∀ x ∈ l, x.f0.size ≤ 1048576 ∧ x.f1.size ≤ 1048576) := by
  obtain ⟨hn, hx⟩ := hl
  unfold laws_szRuleS.f
  rw [wrap_id (by omega) (by omega)]
  by_cases c : (1048576 : Int) - (l.length : Int) < 0
  · exact ⟨-1, ev_pos c (Ev.now _), by omega⟩
  · obtain ⟨r, hr, hs⟩ := sz_l0 l hn hx l.length 0 (1048576 - (l.length : Int)) (by omega) (by omega) (by omega) (by omega)
    exact ⟨r, ev_neg c hr, fun h => ⟨by omega, fun x hm => hs h x (by simpa using hm)⟩⟩

theorem to_l0 (l : List (S72)) (hn : l.length ≤ 1048576) (d : Nat) : ∀ (i : Nat), l.length - i = d → i ≤ l.length →
    Ev (fun k => laws_toRuleS.l0 k l ((l.take i).map cv ++ List.replicate (l.length - i) z59) i) (l.map cv) := by
  induction d with
  | zero =>
    intro i hd hi
    obtain rfl : i = l.length := by omega
    refine ev_succ (ev_neg (by omega) ?_)
    rw [List.take_length, Nat.sub_self, List.replicate_zero, List.append_nil]
    exact Ev.now _
  | succ d ih =>
    intro i hd hi
    have hi2 : i < l.length := by omega
    refine ev_succ (ev_pos (by omega) (ev_pos (by omega) (ev_bindc rfl (ev_pos ?_ ?_))))
    · simp
      omega
    · rw [inc (by omega) (by omega), Int.toNat_natCast]
      have e : ((l.take i).map cv ++ List.replicate (l.length - i) z59).set i (⟨(rd_T72 l i).f0, (rd_T72 l i).f1⟩ : S59) = (l.take (i + 1)).map cv ++ List.replicate (l.length - (i + 1)) z59 := by
        have e1 : l.take (i + 1) = l.take i ++ [l[i]] := List.take_succ_eq_append_getElem hi2
        have e2 : rd_T72 l i = l[i] := by simp [rd_T72, List.getD_eq_getElem?_getD, List.getElem?_eq_getElem hi2]
        have e3 : l.length - i = (l.length - (i + 1)) + 1 := by omega
        have e4 : ((l.take i).map cv).length = i := by rw [List.length_map, List.length_take, Nat.min_eq_left (Nat.le_of_lt hi2)]
        rw [e1, e2, e3, List.replicate_succ, List.map_append, List.append_assoc, List.set_append_right _ _ (by rw [e4]; exact Nat.le_refl _), e4, Nat.sub_self]
        rfl
      have h := ih (i + 1) (by omega) (by omega)
      rw [← e] at h
      exact h
theorem to_ev (l : List (S72)) (hn : l.length ≤ 1048576) : Ev (fun k => laws_toRuleS.f k l) (l.map cv) := by
  refine ev_pos (by omega) (ev_pos (by omega) ?_)
  have h := to_l0 l hn l.length 0 (by omega) (by omega)
  simpa using h
theorem eqR_self (x : S59) : laws_eqRule.f x.f0 x.f1 x.f0 x.f1 = some true := by
  unfold laws_eqRule.f
  rw [if_pos rfl, if_pos rfl]
theorem eq_l0 (l : List (S59)) (hn : l.length ≤ 9223372036854775807) (d : Nat) : ∀ (i : Nat), l.length - i = d → i ≤ l.length → Ev (fun k => laws_eqRuleS.l0 k l l i) true := by
  induction d with
  | zero => exact fun i hd hi => ev_succ (ev_neg (by omega) (Ev.now _))
  | succ d ih =>
    intro i hd hi
    refine ev_succ (ev_pos (by omega) (ev_pos (by omega) (ev_pos (by omega) (ev_bindc (eqR_self _) (ev_pos rfl ?_)))))
    rw [inc (by omega) (by omega)]
    exact ih (i + 1) (by omega) (by omega)
theorem eq_ev (l : List (S59)) (hn : l.length ≤ 9223372036854775807) : Ev (fun k => laws_eqRuleS.f k l l) true :=
  ev_pos rfl (eq_l0 l hn l.length 0 (by omega) (by omega))
theorem small_cv {l : List (S72)} (hn : l.length ≤ 1048576) (hs : ∀ x ∈ l, x.f0.size ≤ 1048576 ∧ x.f1.size ≤ 1048576) : Small (l.map cv) :=
  ⟨by simp; omega, fun x hx => by
    obtain ⟨y, hy, rfl⟩ := List.mem_map.1 hx
    have := hs y hy
    show y.f0.size ≤ _ ∧ y.f1.size ≤ _
    omega⟩
theorem map_len (l : List (S72)) (hn : l.length ≤ 1048576) : (l.map cv).length ≤ 9223372036854775807 := by simp; omega
end Go.Proofs.Ytmigpfkjhdaijab.Rw
