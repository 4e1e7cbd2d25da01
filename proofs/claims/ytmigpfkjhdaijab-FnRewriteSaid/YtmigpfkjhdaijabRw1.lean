/- What the rewriting functions' printed forms answer: texts, rules, the order of texts. Plain Lean: no program, no memory. -/
import Derived.Test.YtmigpfkjhdaijabRFx
namespace Go.Proofs.Ytmigpfkjhdaijab.Rw
set_option linter.unusedVariables false
set_option linter.unusedSimpArgs false
open Go.RowKit Go.Proofs.Ytmigpfkjhdaijab.RF Go.Proofs.YtmigpfkjhdaijabW.PrintWords Go.Proofs.YtmigpfkjhdaijabW.PrintLast

theorem wrap_id {x : Int} (h0 : -9223372036854775808 ≤ x) (h1 : x ≤ 9223372036854775807) : wrap64 x = x := by
  unfold wrap64
  omega
/-- A copy of a rule. -/
theorem inc {i : Int} (h0 : 0 ≤ i) (h : i < 9223372036854775807) : wrap64 (i + 1) = i + 1 := by
  unfold wrap64
  omega
/-- More rounds, one at a time. -/
theorem ev_succ {α : Type} {g : Nat → Option α} {r : α} (h : Ev (fun k => g (k + 1)) r) : Ev g r := by
  obtain ⟨K, hK⟩ := h
  refine ⟨K + 1, fun k hk => ?_⟩
  obtain ⟨m, rfl⟩ : ∃ m, k = m + 1 := ⟨k - 1, by omega⟩
  exact hK m (by omega)
theorem ev_const {α : Type} {o : Option α} {r : α} (h : o = some r) : Ev (fun _ => o) r := ⟨0, fun _ _ => h⟩
theorem ev_bindc {α β : Type} {o : Option α} {f : Nat → α → Option β} {a : α} {r : β} (h : o = some a) (k : Ev (fun n => f n a) r) : Ev (fun n => o.bind (f n)) r := by
  subst h
  exact k
theorem ev_pos {α : Type} {c : Prop} [Decidable c] {f g : Nat → Option α} {r : α} (h : c) (k : Ev f r) : Ev (fun n => if c then f n else g n) r := by
  simp only [if_pos h]
  exact k
theorem ev_neg {α : Type} {c : Prop} [Decidable c] {f g : Nat → Option α} {r : α} (h : ¬ c) (k : Ev g r) : Ev (fun n => if c then f n else g n) r := by
  simp only [if_neg h]
  exact k

/-! ### texts -/
def textOK (s : ByteArray) (m : Int) : Bool := decide (∀ i, i < s.size → 97 ≤ bt s i ∧ bt s i ≤ 100) && decide ((s.size : Int) ≤ m)
theorem text_l0 (s : ByteArray) (m : Int) (hs : s.size ≤ 9223372036854775807) (d : Nat) : ∀ (i : Nat), s.size - i = d → i ≤ s.size →
    Ev (fun k => spec_l15Text.l0 k s m i) (decide (∀ j, j < s.size → i ≤ j → 97 ≤ bt s j ∧ bt s j ≤ 100) && decide ((s.size : Int) ≤ m)) := by
  induction d with
  | zero =>
    intro i hd hi
    refine ev_succ (ev_neg (by omega) ?_)
    have : decide (∀ j, j < s.size → i ≤ j → 97 ≤ bt s j ∧ bt s j ≤ 100) = true := decide_eq_true fun j h1 h2 => by omega
    rw [this, Bool.true_and]
    exact Ev.now _
  | succ d ih =>
    intro i hd hi
    refine ev_succ (ev_pos (by omega) (ev_pos (by omega) ?_))
    by_cases c1 : bt s i < 97
    · refine ev_pos c1 ?_
      have : decide (∀ j, j < s.size → i ≤ j → 97 ≤ bt s j ∧ bt s j ≤ 100) = false := decide_eq_false fun h => by have := h i (by omega) (Nat.le_refl _); omega
      rw [this]
      exact Ev.now _
    · refine ev_neg c1 ?_
      by_cases c2 : bt s i > 100
      · refine ev_pos c2 ?_
        have : decide (∀ j, j < s.size → i ≤ j → 97 ≤ bt s j ∧ bt s j ≤ 100) = false := decide_eq_false fun h => by have := h i (by omega) (Nat.le_refl _); omega
        rw [this]
        exact Ev.now _
      · refine ev_neg c2 ?_
        rw [inc (by omega) (by omega)]
        have e : decide (∀ j, j < s.size → i ≤ j → 97 ≤ bt s j ∧ bt s j ≤ 100) = decide (∀ j, j < s.size → i + 1 ≤ j → 97 ≤ bt s j ∧ bt s j ≤ 100) := by
          apply decide_eq_decide.mpr
          refine ⟨fun h j h1 h2 => h j h1 (by omega), fun h j h1 h2 => ?_⟩
          by_cases ej : j = i
          · subst ej; omega
          · exact h j h1 (by omega)
        rw [e]
        exact ih (i + 1) (by omega) (by omega)
theorem text_ev (s : ByteArray) (m : Int) (hs : s.size ≤ 9223372036854775807) : Ev (fun k => spec_l15Text.f k s m) (textOK s m) := by
  have h := text_l0 s m hs s.size 0 (by omega) (by omega)
  simpa [textOK, spec_l15Text.f] using h
theorem letters_l0 (s : ByteArray) (m : Int) : ∀ (k : Nat) (i : Int), impl_lettersOK.l0 k s m (s.size : Int) i = spec_l15Text.l0 k s m i
  | 0, _ => rfl
  | k + 1, i => by
    simp only [impl_lettersOK.l0, spec_l15Text.l0]
    by_cases h : i < (s.size : Int)
    · rw [if_pos h, if_pos h, if_pos h]
      split
      · rw [letters_l0 s m k]
      · rfl
    · rw [if_neg h, if_neg h]
theorem letters_ev (s : ByteArray) (m : Int) (hs : s.size ≤ 9223372036854775807) : Ev (fun k => impl_lettersOK.f k s m) (textOK s m) := by
  have h := text_ev s m hs
  simp only [impl_lettersOK.f, letters_l0]
  exact h

/-! ### the order of texts -/
def less (a b : ByteArray) : Bool := decide ((a.size : Int) < (b.size : Int)) || (decide ((a.size : Int) = (b.size : Int)) && Op.bytesLess a.toList b.toList)
theorem spec_less (a b : ByteArray) : spec_ShortLess.f a b = some (less a b) := by
  unfold spec_ShortLess.f less
  by_cases h : (a.size : Int) < (b.size : Int)
  · rw [if_pos h, decide_eq_true h, Bool.true_or]
  · rw [if_neg h, decide_eq_false h, Bool.false_or]
    by_cases g : (a.size : Int) = (b.size : Int)
    · rw [if_pos g, decide_eq_true g, Bool.true_and]
    · rw [if_neg g, decide_eq_false g, Bool.false_and]
theorem impl_less (a b : ByteArray) : impl_ShortLess.f a b = some (less a b) := by
  unfold impl_ShortLess.f less
  by_cases g : (a.size : Int) = (b.size : Int)
  · rw [if_pos g, decide_eq_true g, decide_eq_false (by omega), Bool.true_and, Bool.false_or]
  · rw [if_neg g, decide_eq_false g, Bool.false_and, Bool.or_false]

/-! ### rules -/
def goodR (x : S59) : Bool := !(decide (x.f0.toList = ([] : List UInt8))) && (textOK x.f0 6 && (textOK x.f1 6 && less x.f1 x.f0))
def goodL (l : List (S59)) : Bool := l.all goodR && decide ((l.length : Int) ≤ 8)
def Small (l : List (S59)) : Prop := l.length ≤ 9223372036854775807 ∧ ∀ x ∈ l, x.f0.size ≤ 9223372036854775807 ∧ x.f1.size ≤ 9223372036854775807
theorem rd_mem {α : Type} (l : List α) (z : α) (i : Nat) (h : i < l.length) : l.getD i z ∈ l := by
  rw [List.getD_eq_getElem?_getD, List.getElem?_eq_getElem h, Option.getD_some]
  exact List.getElem_mem h
theorem rd_drop {α : Type} (l : List α) (z : α) (i : Nat) (h : i < l.length) : l.drop i = l.getD i z :: l.drop (i + 1) := by
  rw [List.drop_eq_getElem_cons h, List.getD_eq_getElem?_getD, List.getElem?_eq_getElem h, Option.getD_some]
theorem good_l0 (l : List (S59)) (hl : Small l) (d : Nat) : ∀ (i : Nat), l.length - i = d → i ≤ l.length →
    Ev (fun k => spec_GoodRules.l0 k l l (l.length : Int) i) ((l.drop i).all goodR && decide ((l.length : Int) ≤ 8)) := by
  obtain ⟨hn, hx⟩ := hl
  induction d with
  | zero =>
    intro i hd hi
    rw [List.drop_eq_nil_of_le (by omega), List.all_nil, Bool.true_and]
    exact ev_succ (ev_neg (by omega) (Ev.now _))
  | succ d ih =>
    intro i hd hi
    have hi2 : i < l.length := by omega
    rw [rd_drop l z59 i hi2, List.all_cons]
    have hm := hx _ (rd_mem l z59 i hi2)
    have er : rd_T59 l (i : Int) = l.getD i z59 := rfl
    refine ev_succ (ev_pos (by omega) (ev_pos (by omega) (ev_pos (by omega) ?_)))
    rw [er]
    generalize l.getD i z59 = x at hm ⊢
    by_cases c1 : x.f0.toList = ([] : List UInt8)
    · refine ev_pos c1 ?_
      simp only [goodR, c1, decide_true, Bool.not_true, Bool.false_and]
      exact Ev.now _
    · refine ev_neg c1 (Ev.bind (text_ev x.f0 6 hm.1) ?_)
      have g1 : goodR x = (textOK x.f0 6 && (textOK x.f1 6 && less x.f1 x.f0)) := by simp only [goodR, c1, decide_false, Bool.not_false, Bool.true_and]
      rw [g1]
      cases h1 : textOK x.f0 6 with
      | false => exact ev_neg Bool.false_ne_true (Ev.now _)
      | true =>
        refine ev_pos rfl (Ev.bind (text_ev x.f1 6 hm.2) ?_)
        rw [Bool.true_and]
        cases h2 : textOK x.f1 6 with
        | false => exact ev_neg Bool.false_ne_true (Ev.now _)
        | true =>
          refine ev_pos rfl (ev_bindc (spec_less _ _) ?_)
          rw [Bool.true_and]
          cases h3 : less x.f1 x.f0 with
          | false => exact ev_neg Bool.false_ne_true (Ev.now _)
          | true =>
            rw [Bool.true_and]
            refine ev_pos rfl ?_
            rw [inc (by omega) (by omega)]
            exact ih (i + 1) (by omega) (by omega)
theorem spec_good (l : List (S59)) (hl : Small l) : Ev (fun k => spec_GoodRules.f k l) (goodL l) := by
  have h := good_l0 l hl l.length 0 (by omega) (by omega)
  simpa [goodL, spec_GoodRules.f] using h
theorem bad_ev (x : S59) (h1 : x.f0.size ≤ 9223372036854775807) (h2 : x.f1.size ≤ 9223372036854775807) : Ev (fun k => impl_GoodRules.bad k x) (!goodR x) := by
  unfold impl_GoodRules.bad impl_GoodRules_1.f
  by_cases c1 : x.f0.toList = ([] : List UInt8)
  · refine ev_pos c1 ?_
    simp only [goodR, c1, decide_true, Bool.not_true, Bool.false_and, Bool.not_false]
    exact Ev.now _
  · refine ev_neg c1 (Ev.bind (letters_ev x.f0 6 h1) ?_)
    have g1 : goodR x = (textOK x.f0 6 && (textOK x.f1 6 && less x.f1 x.f0)) := by simp only [goodR, c1, decide_false, Bool.not_false, Bool.true_and]
    rw [g1]
    cases textOK x.f0 6 with
    | false => exact ev_neg Bool.false_ne_true (Ev.now _)
    | true =>
      refine ev_pos rfl (Ev.bind (letters_ev x.f1 6 h2) ?_)
      rw [Bool.true_and]
      cases textOK x.f1 6 with
      | false => exact ev_neg Bool.false_ne_true (Ev.now _)
      | true =>
        rw [Bool.true_and]
        exact ev_pos rfl (ev_bindc (impl_less _ _) (Ev.now _))
/-- The first of which p says yes, all having an answer in the end. -/
theorem idx_ev {α : Type} {p : Nat → α → Option Bool} {b : α → Bool} : ∀ (l : List α) (i : Int), 0 ≤ i → (∀ x ∈ l, Ev (fun k => p k x) (b x)) → ∃ r, Ev (fun k => idxM (p k) l i) r ∧ decide (0 ≤ r) = l.any b
  | [], i, _, _ => ⟨-1, Ev.now _, rfl⟩
  | x :: l, i, h0, h => by
    have hx := h x (by simp)
    cases hb : b x with
    | true =>
      exact ⟨i, Ev.bind hx (ev_pos hb (Ev.now _)), by simp [hb, h0]⟩
    | false =>
      obtain ⟨r, hr, hd⟩ := idx_ev l (i + 1) (by omega) (fun y hy => h y (by simp [hy]))
      exact ⟨r, Ev.bind hx (ev_neg (by rw [hb]; exact Bool.false_ne_true) hr), by simp [hb, hd]⟩
theorem any_ev {α : Type} {p : Nat → α → Option Bool} {b : α → Bool} (l : List α) (h : ∀ x ∈ l, Ev (fun k => p k x) (b x)) : Ev (fun k => anyM (p k) l) (l.any b) := by
  obtain ⟨r, hr, hd⟩ := idx_ev l 0 (Int.le_refl 0) h
  rw [← hd]
  exact Ev.bind hr (Ev.now _)
theorem impl_good (l : List (S59)) (hl : Small l) : Ev (fun k => impl_GoodRules.f k l) (goodL l) := by
  unfold impl_GoodRules.f goodL
  by_cases c : (l.length : Int) ≤ 8
  · rw [decide_eq_true c, Bool.and_true]
    refine ev_pos c ?_
    have h := any_ev (b := fun x => !goodR x) l (fun x hx => bad_ev x (hl.2 x hx).1 (hl.2 x hx).2)
    have e : l.all goodR = !(l.any fun x => !goodR x) := by
      rw [List.not_any_eq_all_not]
      simp
    rw [e]
    exact Ev.bind h (Ev.now _)
  · rw [decide_eq_false c, Bool.and_false]
    exact ev_neg c (Ev.now _)
end Go.Proofs.Ytmigpfkjhdaijab.Rw
