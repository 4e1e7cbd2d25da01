/- Critical pairs: what the reference's and the program's printed forms answer; and whether they all come to one end. Plain Lean. -/
import Derived.Test.YtmigpfkjhdaijabRw3
namespace Go.Proofs.Ytmigpfkjhdaijab.Rw
set_option linter.unusedVariables false
set_option linter.unusedSimpArgs false
open Go.RowKit Go.Proofs.Ytmigpfkjhdaijab.RF Go.Proofs.YtmigpfkjhdaijabW.PrintWords Go.Proofs.YtmigpfkjhdaijabW.PrintLast

/-- Both rules on a text that is put together, the second one's beginning being the first one's end, by n. -/
def ovAt (a b : S59) (n : Nat) : Option (List ByteArray) :=
  if (a.f0.extract (a.f0.size - n) a.f0.size).toList = (b.f0.extract 0 n).toList then some [a.f1 ++ b.f0.extract n b.f0.size, a.f0.extract 0 (a.f0.size - n) ++ b.f1] else none
/-- Both rules on the first one's From, the second one's being within it. -/
def inAt (a b : S59) (i : Nat) : Option (List ByteArray) :=
  if at_ a.f0 b.f0 i = true then some [a.f1, (a.f0.extract 0 i ++ b.f1) ++ a.f0.extract (i + b.f0.size) a.f0.size] else none
def ovs (a b : S59) : List (List ByteArray) := ((List.range (min a.f0.size b.f0.size)).drop 1).filterMap (ovAt a b)
def ins (a b : S59) : List (List ByteArray) := (List.range a.f0.size).filterMap (inAt a b)
def pairsV (a b : S59) (same : Bool) : List (List ByteArray) := ovs a b ++ if same = true then [] else ins a b
theorem range_drop (n i : Nat) (h : i < n) : (List.range n).drop i = i :: (List.range n).drop (i + 1) := by
  rw [rd_drop _ 0 i (by simpa using h)]
  simp [List.getD_eq_getElem?_getD, h]
def Short (q : S59) : Prop := q.f0.size ≤ 1000 ∧ q.f1.size ≤ 1000
theorem spec_in_l1 (a b : S59) (ha : Short a) (hb : Short b) (d : Nat) : ∀ (i : Nat) (acc : List (List ByteArray)), a.f0.size - i = d → i ≤ a.f0.size → acc.length + d ≤ 100000 →
    Ev (fun k => spec_l15Pairs.l1 k false acc i a.f0 a.f1 b.f0 b.f1) (acc ++ ((List.range a.f0.size).drop i).filterMap (inAt a b)) := by
  obtain ⟨a0, a1⟩ := ha
  obtain ⟨b0, b1⟩ := hb
  induction d with
  | zero =>
    intro i acc hd hi hl
    rw [List.drop_eq_nil_of_le (by simp; omega), List.filterMap_nil, List.append_nil]
    exact ev_succ (ev_neg (by omega) (Ev.now _))
  | succ d ih =>
    intro i acc hd hi hl
    have hi2 : i < a.f0.size := by omega
    rw [range_drop _ i hi2, List.filterMap_cons]
    refine ev_succ (ev_pos (by omega) (ev_bindc (spec_at a.f0 b.f0 i (by omega) (by omega) (by omega)) ?_))
    by_cases c : at_ a.f0 b.f0 i = true
    · have es : inAt a b i = some [a.f1, (a.f0.extract 0 i ++ b.f1) ++ a.f0.extract (i + b.f0.size) a.f0.size] := by unfold inAt; rw [if_pos c]
      rw [es]
      have hle : i + b.f0.size ≤ a.f0.size := by
        unfold at_ at c
        exact of_decide_eq_true (Bool.and_eq_true_iff.1 c).1
      have w1 : wrap64 ((i : Int) + (b.f0.size : Int)) = ((i + b.f0.size : Nat) : Int) := by rw [wrap_id (by omega) (by omega)]; omega
      refine ev_pos c (ev_neg Bool.false_ne_true (ev_pos (by omega) (ev_pos (by omega) (ev_pos ?_ ?_))))
      · rw [ext_size]; omega
      · rw [w1, Int.toNat_natCast, Int.toNat_natCast, inc (by omega) (by omega)]
        refine ev_pos (by omega) (ev_pos (by omega) (ev_pos ?_ (ev_pos (by omega) ?_)))
        · rw [ByteArray.size_append, ext_size, ext_size]; omega
        · have h3 := ih (i + 1) (acc ++ [[a.f1, (a.f0.extract 0 i ++ b.f1) ++ a.f0.extract (i + b.f0.size) a.f0.size]]) (by omega) (by omega) (by rw [List.length_append, List.length_singleton]; omega)
          rw [List.append_assoc] at h3
          exact h3
    · have es : inAt a b i = none := by unfold inAt; rw [if_neg c]
      rw [es]
      refine ev_neg c ?_
      rw [inc (by omega) (by omega)]
      exact ih (i + 1) acc (by omega) (by omega) (by omega)
theorem spec_same_l1 (a b : S59) (ha : Short a) (hb : Short b) (hab : ¬ b.f0.size < a.f0.size) (d : Nat) : ∀ (i : Nat) (acc : List (List ByteArray)), a.f0.size - i = d → i ≤ a.f0.size →
    Ev (fun k => spec_l15Pairs.l1 k true acc i a.f0 a.f1 b.f0 b.f1) acc := by
  obtain ⟨a0, a1⟩ := ha
  obtain ⟨b0, b1⟩ := hb
  induction d with
  | zero => exact fun i acc hd hi => ev_succ (ev_neg (by omega) (Ev.now _))
  | succ d ih =>
    intro i acc hd hi
    refine ev_succ (ev_pos (by omega) (ev_bindc (spec_at a.f0 b.f0 i (by omega) (by omega) (by omega)) ?_))
    have h3 := ih (i + 1) acc (by omega) (by omega)
    by_cases c : at_ a.f0 b.f0 i = true
    · refine ev_pos c (ev_pos rfl (ev_neg (by omega) ?_))
      rw [inc (by omega) (by omega)]
      exact h3
    · refine ev_neg c ?_
      rw [inc (by omega) (by omega)]
      exact h3
theorem spec_in (a b : S59) (ha : Short a) (hb : Short b) (same : Bool) (hab : same = true → ¬ b.f0.size < a.f0.size) (acc : List (List ByteArray)) (hl : acc.length ≤ 2000) :
    Ev (fun k => spec_l15Pairs.l1 k same acc 0 a.f0 a.f1 b.f0 b.f1) (acc ++ if same = true then [] else ins a b) := by
  cases same with
  | true =>
    rw [if_pos rfl, List.append_nil]
    exact spec_same_l1 a b ha hb (hab rfl) a.f0.size 0 acc (by omega) (by omega)
  | false =>
    have h := spec_in_l1 a b ha hb a.f0.size 0 acc (by omega) (by omega) (by have := ha.1; omega)
    exact h
theorem ovs_length (a b : S59) : (ovs a b).length ≤ a.f0.size := by
  have h := List.length_filterMap_le (ovAt a b) ((List.range (min a.f0.size b.f0.size)).drop 1)
  simp only [List.length_drop, List.length_range] at h
  unfold ovs
  omega
theorem ins_length (a b : S59) : (ins a b).length ≤ a.f0.size := by
  have h := List.length_filterMap_le (inAt a b) (List.range a.f0.size)
  simp only [List.length_range] at h
  exact h
theorem pairsV_length (a b : S59) (same : Bool) : (pairsV a b same).length ≤ 2 * a.f0.size := by
  have h1 := ovs_length a b
  have h2 := ins_length a b
  unfold pairsV
  rw [List.length_append]
  split
  · simp; omega
  · omega
theorem spec_ov_l0 (a b : S59) (ha : Short a) (hb : Short b) (same : Bool) (r : List (List ByteArray)) (d : Nat) : ∀ (i : Nat) (acc : List (List ByteArray)), min a.f0.size b.f0.size - i = d → 1 ≤ i → acc.length + d ≤ 2000 →
    Ev (fun k => spec_l15Pairs.l1 k same (acc ++ ((List.range (min a.f0.size b.f0.size)).drop i).filterMap (ovAt a b)) 0 a.f0 a.f1 b.f0 b.f1) r →
    Ev (fun k => spec_l15Pairs.l0 k same acc i a.f0 a.f1 b.f0 b.f1) r := by
  obtain ⟨a0, a1⟩ := ha
  obtain ⟨b0, b1⟩ := hb
  induction d with
  | zero =>
    intro i acc hd hi hl h
    rw [List.drop_eq_nil_of_le (by simp; omega), List.filterMap_nil, List.append_nil] at h
    refine ev_succ ?_
    by_cases c : (i : Int) < (a.f0.size : Int)
    · refine ev_pos c ?_
      rw [decide_eq_false (show ¬ (i : Int) < (b.f0.size : Int) by omega)]
      exact ev_succ h
    · exact ev_neg c (ev_succ h)
  | succ d ih =>
    intro i acc hd hi hl h
    have hi2 : i < min a.f0.size b.f0.size := by omega
    rw [range_drop _ i hi2, List.filterMap_cons] at h
    refine ev_succ (ev_pos (by omega) ?_)
    rw [decide_eq_true (show (i : Int) < (b.f0.size : Int) by omega)]
    have w1 : wrap64 ((a.f0.size : Int) - (i : Int)) = ((a.f0.size - i : Nat) : Int) := by rw [wrap_id (by omega) (by omega)]; omega
    refine ev_succ ?_
    simp only [spec_l15Pairs.j1, eq_self, if_true]
    rw [w1, Int.toNat_natCast, Int.toNat_natCast, inc (by omega) (by omega)]
    refine ev_pos (by omega) (ev_pos (by omega) (ev_pos (by omega) (ev_pos (by omega) ?_)))
    by_cases c : (a.f0.extract (a.f0.size - i) a.f0.size).toList = (b.f0.extract 0 i).toList
    · have es : ovAt a b i = some [a.f1 ++ b.f0.extract i b.f0.size, a.f0.extract 0 (a.f0.size - i) ++ b.f1] := by unfold ovAt; rw [if_pos c]
      rw [es] at h
      refine ev_pos c (ev_pos ?_ (ev_pos ?_ (ev_pos (by omega) ?_)))
      · rw [ext_size]; omega
      · rw [ext_size]; omega
      · exact ih (i + 1) (acc ++ [[a.f1 ++ b.f0.extract i b.f0.size, a.f0.extract 0 (a.f0.size - i) ++ b.f1]]) (by omega) (by omega) (by rw [List.length_append, List.length_singleton]; omega) (by rw [List.append_assoc]; exact h)
    · have es : ovAt a b i = none := by unfold ovAt; rw [if_neg c]
      rw [es] at h
      exact ev_neg c (ih (i + 1) acc (by omega) (by omega) (by omega) h)
theorem spec_pairs (a b : S59) (ha : Short a) (hb : Short b) (same : Bool) (hab : same = true → ¬ b.f0.size < a.f0.size) : Ev (fun k => spec_l15Pairs.f k a.f0 a.f1 b.f0 b.f1 same) (pairsV a b same) :=
  spec_ov_l0 a b ha hb same _ (min a.f0.size b.f0.size - 1) 1 [] (by omega) (by omega) (by have := ha.1; simp; omega) (spec_in a b ha hb same hab _ (by have h1 := ovs_length a b; have h2 := ha.1; unfold ovs at h1; simp only [List.nil_append]; omega))

/-! ### the program's -/
theorem suffix_ (s p : ByteArray) (hs : s.size ≤ 1000000) (h : p.size ≤ s.size) : strings_HasSuffix.f s p = some ((s.extract (s.size - p.size) s.size).toList == p.toList) := by
  unfold strings_HasSuffix.f stringslite_HasSuffix.f
  have w1 : wrap64 ((s.size : Int) - (p.size : Int)) = ((s.size - p.size : Nat) : Int) := by rw [wrap_id (by omega) (by omega)]; omega
  rw [w1, if_pos (by omega), if_pos (by omega), if_pos (by omega), Int.toNat_natCast]
  rfl
theorem prefix_ (s p : ByteArray) (h : p.size ≤ s.size) : strings_HasPrefix.f s p = some ((s.extract 0 p.size).toList == p.toList) := by
  unfold strings_HasPrefix.f stringslite_HasPrefix.f
  rw [if_pos (by omega), if_pos (by omega), if_pos (by omega), Int.toNat_natCast]
  rfl
theorem mn_nat (a b : Nat) : mn (a : Int) (b : Int) = ((min a b : Nat) : Int) := by
  unfold mn
  split <;> omega
theorem impl_in_l1 (a b : S59) (ha : Short a) (hb : Short b) (h1 : 1 ≤ b.f0.size) (d : Nat) : ∀ (i : Nat) (acc : List (List ByteArray)), a.f0.size + 1 - i = d → i ≤ a.f0.size + 1 → acc.length + d ≤ 100000 →
    Ev (fun k => impl_overlaps.l1 k acc i a.f0 a.f1 b.f0 b.f1) (acc ++ ((List.range a.f0.size).drop i).filterMap (inAt a b)) := by
  obtain ⟨a0, a1⟩ := ha
  obtain ⟨b0, b1⟩ := hb
  induction d with
  | zero =>
    intro i acc hd hi hl
    rw [List.drop_eq_nil_of_le (by simp; omega), List.filterMap_nil, List.append_nil]
    refine ev_succ (ev_neg ?_ (Ev.now _))
    unfold wrap64
    omega
  | succ d ih =>
    intro i acc hd hi hl
    have w1 : wrap64 ((i : Int) + (b.f0.size : Int)) = ((i + b.f0.size : Nat) : Int) := by rw [wrap_id (by omega) (by omega)]; omega
    by_cases hle : i + b.f0.size ≤ a.f0.size
    · have hi2 : i < a.f0.size := by omega
      rw [range_drop _ i hi2, List.filterMap_cons]
      refine ev_succ ?_
      simp only [impl_overlaps.l1]
      rw [w1, Int.toNat_natCast, Int.toNat_natCast, inc (by omega) (by omega)]
      have hpe : strings_HasPrefix.f (a.f0.extract i a.f0.size) b.f0 = some (at_ a.f0 b.f0 i) := by
        rw [prefix_ _ _ (by rw [ext_size]; omega), ext_ext _ _ _ hle]
        unfold at_
        rw [decide_eq_true hle, Bool.true_and]
      refine ev_pos (by omega) (ev_pos (by omega) (ev_pos (by omega) (ev_bindc hpe ?_)))
      by_cases c : at_ a.f0 b.f0 i = true
      · have es : inAt a b i = some [a.f1, (a.f0.extract 0 i ++ b.f1) ++ a.f0.extract (i + b.f0.size) a.f0.size] := by unfold inAt; rw [if_pos c]
        rw [es]
        refine ev_pos c (ev_pos ?_ (ev_pos (by omega) (ev_pos ?_ (ev_pos (by omega) ?_))))
        · rw [ext_size]; omega
        · rw [ByteArray.size_append, ext_size, ext_size]; omega
        · have h3 := ih (i + 1) (acc ++ [[a.f1, (a.f0.extract 0 i ++ b.f1) ++ a.f0.extract (i + b.f0.size) a.f0.size]]) (by omega) (by omega) (by rw [List.length_append, List.length_singleton]; omega)
          rw [List.append_assoc] at h3
          exact h3
      · have es : inAt a b i = none := by unfold inAt; rw [if_neg c]
        rw [es]
        exact ev_neg c (ih (i + 1) acc (by omega) (by omega) (by omega))
    · have e : ((List.range a.f0.size).drop i).filterMap (inAt a b) = [] := filterMap_none _ _ fun x hx => by
        obtain ⟨j, hj, rfl⟩ := List.mem_iff_getElem.1 hx
        unfold inAt at_
        rw [decide_eq_false (by simp; omega), Bool.false_and, if_neg Bool.false_ne_true]
      rw [e, List.append_nil]
      refine ev_succ (ev_neg ?_ (Ev.now _))
      rw [w1]
      omega
theorem impl_ov_l0 (a b : S59) (ha : Short a) (hb : Short b) (h1 : 1 ≤ b.f0.size) (same : Bool) (d : Nat) : ∀ (i : Nat) (acc : List (List ByteArray)), min a.f0.size b.f0.size - i = d → 1 ≤ i → acc.length + d ≤ 2000 →
    Ev (fun k => impl_overlaps.l0 k same acc i a.f0 a.f1 b.f0 b.f1) ((acc ++ ((List.range (min a.f0.size b.f0.size)).drop i).filterMap (ovAt a b)) ++ if same = true then [] else ins a b) := by
  have ha' := ha
  have hb' := hb
  obtain ⟨a0, a1⟩ := ha
  obtain ⟨b0, b1⟩ := hb
  induction d with
  | zero =>
    intro i acc hd hi hl
    rw [List.drop_eq_nil_of_le (by simp; omega), List.filterMap_nil, List.append_nil]
    refine ev_succ (ev_neg (by rw [mn_nat]; omega) ?_)
    cases same with
    | true =>
      rw [if_pos rfl, List.append_nil]
      exact ev_pos rfl (Ev.now _)
    | false => exact ev_neg Bool.false_ne_true (impl_in_l1 a b ha' hb' h1 (a.f0.size + 1) 0 acc (by omega) (by omega) (by omega))
  | succ d ih =>
    intro i acc hd hi hl
    have hi2 : i < min a.f0.size b.f0.size := by omega
    rw [range_drop _ i hi2, List.filterMap_cons]
    have w1 : wrap64 ((a.f0.size : Int) - (i : Int)) = ((a.f0.size - i : Nat) : Int) := by rw [wrap_id (by omega) (by omega)]; omega
    have hz : (b.f0.extract 0 i).size = i := by rw [ext_size]; omega
    refine ev_succ (ev_pos (by rw [mn_nat]; omega) ?_)
    rw [w1, Int.toNat_natCast, Int.toNat_natCast, inc (by omega) (by omega)]
    refine ev_pos (by omega) (ev_pos (by omega) (ev_bindc (suffix_ _ _ (by omega) (by omega)) ?_))
    rw [hz]
    by_cases c : (a.f0.extract (a.f0.size - i) a.f0.size).toList = (b.f0.extract 0 i).toList
    · have es : ovAt a b i = some [a.f1 ++ b.f0.extract i b.f0.size, a.f0.extract 0 (a.f0.size - i) ++ b.f1] := by unfold ovAt; rw [if_pos c]
      rw [es]
      refine ev_pos (beq_iff_eq.2 c) (ev_pos ?_ (ev_pos (by omega) (ev_pos (by omega) (ev_pos ?_ (ev_pos (by omega) ?_)))))
      · rw [ext_size]; omega
      · rw [ext_size]; omega
      · have h3 := ih (i + 1) (acc ++ [[a.f1 ++ b.f0.extract i b.f0.size, a.f0.extract 0 (a.f0.size - i) ++ b.f1]]) (by omega) (by omega) (by rw [List.length_append, List.length_singleton]; omega)
        rw [List.append_assoc acc] at h3
        exact h3
    · have es : ovAt a b i = none := by unfold ovAt; rw [if_neg c]
      rw [es]
      exact ev_neg (fun h => c (beq_iff_eq.1 h)) (ih (i + 1) acc (by omega) (by omega) (by omega))
theorem impl_pairs_ (a b : S59) (ha : Short a) (hb : Short b) (h1 : 1 ≤ b.f0.size) (same : Bool) : Ev (fun k => impl_overlaps.f k a.f0 a.f1 b.f0 b.f1 same) (pairsV a b same) :=
  impl_ov_l0 a b ha hb h1 same (min a.f0.size b.f0.size - 1) 1 [] (by omega) (by omega) (by have := ha.1; simp; omega)
theorem Fine.short {l : List (S59)} (h : Fine l) {r : S59} (hr : r ∈ l) : Short r := by
  have := h.2 r hr
  exact ⟨by omega, by omega⟩

/-! ### all pairs -/
theorem flatMap_length {α β : Type} (f : α → List β) (m : Nat) : ∀ (l : List α), (∀ x ∈ l, (f x).length ≤ m) → (l.flatMap f).length ≤ l.length * m
  | [], _ => by simp
  | x :: l, h => by
    have h1 := h x (by simp)
    have h2 := flatMap_length f m l (fun y hy => h y (by simp [hy]))
    rw [List.flatMap_cons, List.length_append, List.length_cons, Nat.succ_mul]
    omega
def rowV (l : List (S59)) (i : Nat) : List (List ByteArray) := (List.range l.length).flatMap fun k => pairsV (l.getD i z59) (l.getD k z59) ((i : Int) == (k : Int))
def critV (l : List (S59)) : List (List ByteArray) := (List.range l.length).flatMap (rowV l)
def Six (l : List (S59)) : Prop := ∀ r ∈ l, r.f0.size ≤ 6
theorem same_size {l : List (S59)} (i k : Nat) : (((i : Int) == (k : Int)) = true) → ¬ (l.getD k z59).f0.size < (l.getD i z59).f0.size := fun h => by
  have : i = k := by have := beq_iff_eq.1 h; omega
  rw [this]
  omega
theorem spec_crit_l1 (l : List (S59)) (hl : Fine l) (i : Nat) (hi : i < l.length) (r : List (List ByteArray)) (d : Nat) : ∀ (k : Nat) (acc : List (List ByteArray)), l.length - k = d → k ≤ l.length → acc.length + d * 2000 ≤ 200000 →
    Ev (fun n => spec_l15Critical.l0 n l (acc ++ ((List.range l.length).drop k).flatMap fun k => pairsV (l.getD i z59) (l.getD k z59) ((i : Int) == (k : Int))) l (l.length : Int) ((i + 1 : Nat) : Int)) r →
    Ev (fun n => spec_l15Critical.l1 n l acc i l (l.length : Int) i l (l.length : Int) k (l.getD i z59).f0 (l.getD i z59).f1) r := by
  have h8 := hl.1
  induction d with
  | zero =>
    intro k acc hd hk ha h
    rw [List.drop_eq_nil_of_le (by simp; omega), List.flatMap_nil, List.append_nil] at h
    refine ev_succ (ev_neg (by omega) ?_)
    rw [inc (by omega) (by omega)]
    exact h
  | succ d ih =>
    intro k acc hd hk ha h
    have hk2 : k < l.length := by omega
    rw [range_drop _ k hk2, List.flatMap_cons, ← List.append_assoc] at h
    have s1 := hl.short (rd_mem l z59 i hi)
    have s2 := hl.short (rd_mem l z59 k hk2)
    have hp := pairsV_length (l.getD i z59) (l.getD k z59) ((i : Int) == (k : Int))
    have hq := s1.1
    refine ev_succ (ev_pos (by omega) (ev_pos (by omega) (ev_pos (by omega) (Ev.bind (spec_pairs _ _ s1 s2 _ (same_size i k)) (ev_pos (by omega) ?_)))))
    rw [inc (by omega) (by omega)]
    exact ih (k + 1) _ (by omega) (by omega) (by rw [List.length_append]; omega) h
set_option maxRecDepth 100000 in
theorem spec_crit_l0 (l : List (S59)) (hl : Fine l) (d : Nat) : ∀ (i : Nat) (acc : List (List ByteArray)), l.length - i = d → i ≤ l.length → acc.length + d * 16000 ≤ 150000 →
    Ev (fun n => spec_l15Critical.l0 n l acc l (l.length : Int) i) (acc ++ ((List.range l.length).drop i).flatMap (rowV l)) := by
  have h8 := hl.1
  induction d with
  | zero =>
    intro i acc hd hi ha
    rw [List.drop_eq_nil_of_le (by simp; omega), List.flatMap_nil, List.append_nil]
    exact ev_succ (ev_neg (by omega) (Ev.now _))
  | succ d ih =>
    intro i acc hd hi ha
    have hi2 : i < l.length := by omega
    rw [range_drop _ i hi2, List.flatMap_cons]
    refine ev_succ (ev_pos (by omega) (ev_pos (by omega) (ev_pos (by omega) ?_)))
    have hb : acc.length + l.length * 2000 ≤ 200000 := by omega
    refine spec_crit_l1 l hl i hi2 _ l.length 0 acc (Nat.sub_zero _) (Nat.zero_le _) hb ?_
    have hr : (rowV l i).length ≤ 16000 := by
      unfold rowV
      refine Nat.le_trans (flatMap_length _ 2000 _ fun x hx => ?_) (by simp; omega)
      have := pairsV_length (l.getD i z59) (l.getD x z59) ((i : Int) == (x : Int))
      have := (hl.short (rd_mem l z59 i hi2)).1
      omega
    have h := ih (i + 1) (acc ++ rowV l i) (by omega) (by omega) (by rw [List.length_append]; omega)
    rw [List.append_assoc] at h
    exact h
end Go.Proofs.Ytmigpfkjhdaijab.Rw
