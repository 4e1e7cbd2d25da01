/- Critical pairs of the program. Plain Lean. (Written by mkRw6.py out of Rw5.) -/
import Derived.Test.YtmigpfkjhdaijabRw5
namespace Go.Proofs.Ytmigpfkjhdaijab.Rw
set_option linter.unusedVariables false
set_option linter.unusedSimpArgs false
open Go.RowKit Go.Proofs.Ytmigpfkjhdaijab.RF Go.Proofs.YtmigpfkjhdaijabW.PrintWords Go.Proofs.YtmigpfkjhdaijabW.PrintLast

set_option maxRecDepth 100000 in
theorem impl_crit_l1 (l : List (S59)) (hl : Fine l) (i : Nat) (hi : i < l.length) (r : List (List ByteArray)) (d : Nat) : ∀ (k : Nat) (acc : List (List ByteArray)), l.length - k = d → k ≤ l.length → acc.length + d * 2000 ≤ 200000 →
    Ev (fun n => impl_pairs.l0 n l (acc ++ ((List.range l.length).drop k).flatMap fun k => pairsV (l.getD i z59) (l.getD k z59) ((i : Int) == (k : Int))) l (l.length : Int) ((i + 1 : Nat) : Int)) r →
    Ev (fun n => impl_pairs.l1 n l acc i l (l.length : Int) i l (l.length : Int) k (l.getD i z59).f0 (l.getD i z59).f1) r := by
  have h8 := hl.1
  induction d with
  | zero =>
    intro k acc hd hk ha h
    rw [List.drop_eq_nil_of_le (by simp; omega), List.flatMap_nil, List.append_nil] at h
    refine ev_succ (ev_neg (by omega) ?_)
    rw [inc (by omega) (by omega)]
    exact h
  | succ d ih =>
    intro k acc hd hk ha h
    have hk2 : k < l.length := by omega
    rw [range_drop _ k hk2, List.flatMap_cons, ← List.append_assoc] at h
    have s1 := hl.short (rd_mem l z59 i hi)
    have s2 := hl.short (rd_mem l z59 k hk2)
    have hp := pairsV_length (l.getD i z59) (l.getD k z59) ((i : Int) == (k : Int))
    have hq := s1.1
    refine ev_succ (ev_pos (by omega) (ev_pos (by omega) (ev_pos (by omega) (Ev.bind (impl_pairs_ _ _ s1 s2 (hl.2 _ (rd_mem l z59 k hk2)).1 _) (ev_pos (by omega) ?_)))))
    rw [inc (by omega) (by omega)]
    exact ih (k + 1) _ (by omega) (by omega) (by rw [List.length_append]; omega) h
set_option maxRecDepth 100000 in
theorem impl_crit_l0 (l : List (S59)) (hl : Fine l) (d : Nat) : ∀ (i : Nat) (acc : List (List ByteArray)), l.length - i = d → i ≤ l.length → acc.length + d * 16000 ≤ 150000 →
    Ev (fun n => impl_pairs.l0 n l acc l (l.length : Int) i) (acc ++ ((List.range l.length).drop i).flatMap (rowV l)) := by
  have h8 := hl.1
  induction d with
  | zero =>
    intro i acc hd hi ha
    rw [List.drop_eq_nil_of_le (by simp; omega), List.flatMap_nil, List.append_nil]
    exact ev_succ (ev_neg (by omega) (Ev.now _))
  | succ d ih =>
    intro i acc hd hi ha
    have hi2 : i < l.length := by omega
    rw [range_drop _ i hi2, List.flatMap_cons]
    refine ev_succ (ev_pos (by omega) (ev_pos (by omega) (ev_pos (by omega) ?_)))
    have hb : acc.length + l.length * 2000 ≤ 200000 := by omega
    refine impl_crit_l1 l hl i hi2 _ l.length 0 acc (Nat.sub_zero _) (Nat.zero_le _) hb ?_
    have hr : (rowV l i).length ≤ 16000 := by
      unfold rowV
      refine Nat.le_trans (flatMap_length _ 2000 _ fun x hx => ?_) (by simp; omega)
      have := pairsV_length (l.getD i z59) (l.getD x z59) ((i : Int) == (x : Int))
      have := (hl.short (rd_mem l z59 i hi2)).1
      omega
    have h := ih (i + 1) (acc ++ rowV l i) (by omega) (by omega) (by rw [List.length_append]; omega)
    rw [List.append_assoc] at h
    exact h

theorem spec_crit (l : List (S59)) (hl : Fine l) : Ev (fun k => spec_l15Critical.f k l) (critV l) := by
  have h := spec_crit_l0 l hl l.length 0 [] (Nat.sub_zero _) (Nat.zero_le _) (by have := hl.1; simp; omega)
  exact h
theorem impl_crit (l : List (S59)) (hl : Fine l) : Ev (fun k => impl_pairs.f k l) (critV l) := by
  have h := impl_crit_l0 l hl l.length 0 [] (Nat.sub_zero _) (Nat.zero_le _) (by have := hl.1; simp; omega)
  exact h
/-- Two texts, neither longer than 1000. -/
def Two (p : List ByteArray) : Prop := ∃ x y, p = [x, y] ∧ x.size ≤ 1000 ∧ y.size ≤ 1000
def Little (l : List (S59)) : Prop := ∀ r ∈ l, r.f0.size ≤ 6 ∧ r.f1.size ≤ 6
theorem pairsV_two {a b : S59} {same : Bool} (ha : a.f0.size ≤ 6 ∧ a.f1.size ≤ 6) (hb : b.f0.size ≤ 6 ∧ b.f1.size ≤ 6) {p : List ByteArray} (hp : p ∈ pairsV a b same) : Two p := by
  unfold pairsV at hp
  rcases List.mem_append.1 hp with h | h
  · obtain ⟨n, _, h⟩ := List.mem_filterMap.1 h
    unfold ovAt at h
    split at h
    · obtain rfl := Option.some.inj h
      refine ⟨_, _, rfl, ?_, ?_⟩
      · rw [ByteArray.size_append, ext_size]; omega
      · rw [ByteArray.size_append, ext_size]; omega
    · cases h
  · split at h
    · cases h
    · obtain ⟨i, _, h⟩ := List.mem_filterMap.1 h
      unfold inAt at h
      split at h
      · obtain rfl := Option.some.inj h
        refine ⟨_, _, rfl, by omega, ?_⟩
        rw [ByteArray.size_append, ByteArray.size_append, ext_size, ext_size]; omega
      · cases h
theorem critV_two {l : List (S59)} (hl : Little l) {p : List ByteArray} (hp : p ∈ critV l) : Two p := by
  obtain ⟨i, hi, hp⟩ := List.mem_flatMap.1 hp
  obtain ⟨k, hk, hp⟩ := List.mem_flatMap.1 hp
  exact pairsV_two (hl _ (rd_mem l _ i (List.mem_range.1 hi))) (hl _ (rd_mem l _ k (List.mem_range.1 hk))) hp
theorem critV_length {l : List (S59)} (hl : Fine l) : (critV l).length ≤ 200000 := by
  have h8 := hl.1
  refine Nat.le_trans (flatMap_length _ 16000 _ fun x hx => ?_) (by rw [List.length_range]; omega)
  refine Nat.le_trans (flatMap_length _ 2000 _ fun y hy => ?_) (by rw [List.length_range]; omega)
  have h1 := pairsV_length (l.getD x z59) (l.getD y z59) ((x : Int) == (y : Int))
  have h2 := (hl.short (rd_mem l z59 x (List.mem_range.1 hx))).1
  omega
theorem goodL_little {l : List (S59)} (h : goodL l = true) : Little l := fun r hr => by
  have := goodR_fine (List.all_eq_true.1 (Bool.and_eq_true_iff.1 h).1 r hr)
  omega
end Go.Proofs.Ytmigpfkjhdaijab.Rw
