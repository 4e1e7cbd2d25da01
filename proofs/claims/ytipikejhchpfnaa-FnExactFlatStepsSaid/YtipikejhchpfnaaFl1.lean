/- What the printed forms about flat lines answer: fields, flat lines, codes. Plain Lean. -/
import Derived.Test.YtipikejhchpfnaaFl0
namespace Go.Proofs.Ytipikejhchpfnaa.Fl
set_option linter.unusedVariables false
set_option linter.unusedSimpArgs false
open Go.RowKit Go.Proofs.Ytipikejhchpfnaa.FS Go.Proofs.YtipikejhchpfnaaW.PrintWords Go.Proofs.YtipikejhchpfnaaW.PrintLast

/-! ### fields -/
def fldV (a : Int) : Bool × Bool × Bool × Bool × Bool × Bool :=
  if a = 1 then (true, false, false, true, false, true) else if a = 2 ∨ a = 4 then (true, true, false, false, false, true)
  else if a = 3 then (true, true, true, false, true, true) else if a = 5 then (false, true, true, false, false, true)
  else if a = 6 then (false, true, false, false, false, true) else (false, false, false, false, false, false)
theorem fields_ev (a : Int) : Ev (fun k => impl_fieldsOf.f k a) (fldV a) := by
  refine ev_succ (ev_const' fun k => ?_)
  simp only [impl_fieldsOf.f, impl_fieldsOf.j0, fldV]
  by_cases h1 : a = 1
  · simp [h1]
  · by_cases h2 : a = 2
    · simp [h2]
    · by_cases h4 : a = 4
      · simp [h4]
      · simp [h1, h2, h4]
        split <;> (try split) <;> (try split) <;> rfl
theorem in_ (a b c : Int) : spec_l1In.f a b c = some (decide (b ≤ a) && decide (a ≤ c)) := by
  simp only [spec_l1In.f]
  by_cases h : a ≥ b
  · rw [if_pos h, decide_eq_true (show b ≤ a from h), Bool.true_and]
  · rw [if_neg h, decide_eq_false (show ¬ b ≤ a from h), Bool.false_and]
theorem name_ (a : Int) : spec_l6Name.f a = some (decide (0 ≤ a) && decide (a ≤ 11)) := by
  simp [spec_l6Name.f, in_]
theorem flat_ev (x : S77) : Ev (fun k => spec_l6Flat.f k x.f0 x.f1 x.f2 x.f3 x.f4 x.f5) (flatV (fldV x.f0) x 12) := by
  refine ev_succ (ev_succ (ev_const' fun k => ?_))
  obtain ⟨a, b, c, d, e, f⟩ := x
  have w : wrap64 (12 - 1) = 11 := by rw [wrap_id (by omega) (by omega)]; rfl
  simp only [spec_l6Flat.f, spec_l6Flat.j0, spec_l6Flat.j1, in_, name_, flatV, fldV, nameOK, w]
  by_cases h1 : a = 1
  · subst h1; simp; (repeat' split) <;> simp_all <;> (first | omega | rfl)
  · by_cases h2 : a = 2
    · subst h2; simp; (repeat' split) <;> simp_all <;> (first | omega | rfl)
    · by_cases h4 : a = 4
      · subst h4; simp; (repeat' split) <;> simp_all <;> (first | omega | rfl)
      · by_cases h3 : a = 3
        · subst h3; simp; (repeat' split) <;> simp_all <;> (first | omega | rfl)
        · by_cases h5 : a = 5
          · subst h5; simp; (repeat' split) <;> simp_all <;> (first | omega | rfl)
          · by_cases h6 : a = 6
            · subst h6; simp; (repeat' split) <;> simp_all <;> (first | omega | rfl)
            · simp [h1, h2, h3, h4, h5, h6]
/-! ### lists of lines -/
def lowV (x : S77) : Bool := flatV (fldV x.f0) x 8
theorem low_ (x : S77) : lowV x = (flatV (fldV x.f0) x 12 && (decide (x.f2 < 8) && decide (x.f3 < 8) && decide (x.f4 < 8))) := by
  obtain ⟨a, b, c, d, e, f⟩ := x
  have w : wrap64 (12 - 1) = 11 := by rw [wrap_id (by omega) (by omega)]; rfl
  have w8 : wrap64 (8 - 1) = 7 := by rw [wrap_id (by omega) (by omega)]; rfl
  simp only [lowV, flatV, fldV, nameOK, w, w8]
  rw [Bool.eq_iff_iff]
  by_cases h1 : a = 1
  · subst h1; simp; omega
  · by_cases h2 : a = 2
    · subst h2; simp; omega
    · by_cases h4 : a = 4
      · subst h4; simp; omega
      · by_cases h3 : a = 3
        · subst h3; simp; omega
        · by_cases h5 : a = 5
          · subst h5; simp; omega
          · by_cases h6 : a = 6
            · subst h6; simp; omega
            · simp [h1, h2, h3, h4, h5, h6]
theorem rdT {l : List S77} {i : Nat} {x : S77} (h : l[i]? = some x) : rd_T77 l (i : Int) = x := by
  simp [rd_T77, h]
theorem low_l0 (l : List S77) (hl : l.length ≤ 9223372036854775807) (d : Nat) : ∀ (i : Nat), l.length - i = d → i ≤ l.length →
    Ev (fun k => spec_l14Low.l0 k l l (l.length : Int) i) ((l.drop i).all lowV && decide ((l.length : Int) ≤ 60)) := by
  induction d with
  | zero =>
    intro i hd hi
    refine ev_succ (ev_neg (by omega) ?_)
    rw [show i = l.length by omega, List.drop_length]
    exact Ev.now _
  | succ d ih =>
    intro i hd hi
    obtain ⟨x, hx, hdrop, _⟩ := drop_step (show i < l.length by omega)
    refine ev_succ (ev_pos (by omega) (ev_pos (by omega) (ev_pos (by omega) ?_)))
    simp only [rdT hx]
    rw [hdrop, List.all_cons, low_]
    refine Ev.bind (flat_ev x) ?_
    by_cases c0 : flatV (fldV x.f0) x 12 = true
    · refine ev_pos c0 ?_
      by_cases c1 : x.f2 ≥ 8
      · refine ev_pos c1 ?_
        rw [decide_eq_false (show ¬ x.f2 < 8 by omega), Bool.false_and, Bool.false_and, Bool.and_false, Bool.false_and, Bool.false_and]; exact Ev.now _
      · refine ev_neg c1 ?_
        by_cases c2 : x.f3 ≥ 8
        · refine ev_pos c2 ?_
          rw [decide_eq_false (show ¬ x.f3 < 8 by omega), Bool.and_false, Bool.false_and, Bool.and_false, Bool.false_and, Bool.false_and]; exact Ev.now _
        · refine ev_neg c2 ?_
          by_cases c3 : x.f4 ≥ 8
          · refine ev_pos c3 ?_
            rw [decide_eq_false (show ¬ x.f4 < 8 by omega), Bool.and_false, Bool.and_false, Bool.false_and, Bool.false_and]; exact Ev.now _
          · refine ev_neg c3 ?_
            rw [inc (by omega) (by omega), c0, decide_eq_true (show x.f2 < 8 by omega), decide_eq_true (show x.f3 < 8 by omega), decide_eq_true (show x.f4 < 8 by omega)]
            simpa using ih (i + 1) (by omega) (by omega)
    · refine ev_neg c0 ?_
      rw [Bool.not_eq_true] at c0
      rw [c0, Bool.false_and, Bool.false_and, Bool.false_and]; exact Ev.now _
def codeV (l : List S77) : Bool := l.all lowV && decide ((l.length : Int) ≤ 60)
theorem low_ev (l : List S77) (hl : l.length ≤ 9223372036854775807) : Ev (fun k => spec_l14Low.f k l) (codeV l) :=
  low_l0 l hl l.length 0 (by omega) (by omega)
theorem flatOK_ev (x : S77) (m : Int) : Ev (fun k => impl_flatOK.f k x.f0 x.f1 x.f2 x.f3 x.f4 x.f5 m) (flatV (fldV x.f0) x m) :=
  Ev.bind (fields_ev x.f0) (Ev.now _)
theorem any_ev {α : Type} {p : Nat → α → Option Bool} {v : α → Bool} (h : ∀ x, Ev (fun k => p k x) (v x)) : ∀ (l : List α) (i : Int), 0 ≤ i → ∃ r : Int, Ev (fun k => idxM (p k) l i) r ∧ (0 ≤ r ↔ l.any v = true)
  | [], i, _ => ⟨-1, Ev.now _, by simp⟩
  | x :: xs, i, hi => by
    by_cases c : v x = true
    · exact ⟨i, Ev.bind (h x) (ev_pos c (Ev.now _)), by simp [c, hi]⟩
    · obtain ⟨r, hr, e⟩ := any_ev h xs (i + 1) (by omega)
      exact ⟨r, Ev.bind (h x) (ev_neg c hr), by simpa [c] using e⟩
theorem anyM_ev {α : Type} {p : Nat → α → Option Bool} {v : α → Bool} (h : ∀ x, Ev (fun k => p k x) (v x)) (l : List α) : Ev (fun k => anyM (p k) l) (l.any v) := by
  obtain ⟨r, hr, e⟩ := any_ev h l 0 (by omega)
  have : decide (0 ≤ r) = l.any v := by rw [Bool.eq_iff_iff]; simpa using e
  rw [← this]
  exact Ev.bind hr (Ev.now _)
theorem codeOK_ev (l : List S77) (m : Int) : Ev (fun k => impl_codeOK.f k l m) (l.all (fun x => flatV (fldV x.f0) x m) && decide ((l.length : Int) ≤ 60)) := by
  by_cases c : (l.length : Int) ≤ 60
  · refine ev_pos c ?_
    have h := anyM_ev (p := fun k x => impl_codeOK.bad k m x) (v := fun x => !(flatV (fldV x.f0) x m)) (fun x => Ev.bind (flatOK_ev x m) (Ev.now _)) l
    have e : l.all (fun x => flatV (fldV x.f0) x m) = !(l.any fun x => !(flatV (fldV x.f0) x m)) := by simp [List.all_eq_not_any_not]
    rw [decide_eq_true c, Bool.and_true, e]
    exact Ev.bind h (Ev.now _)
  · refine ev_neg c ?_
    rw [decide_eq_false c, Bool.and_false]
    exact Ev.now _
theorem localFlat_ev (l : List S77) : Ev (fun k => impl_localFlat.f k l) (codeV l) := by
  by_cases c : (l.length : Int) ≤ 60
  · exact ev_pos c (Ev.bind (codeOK_ev l 8) (Ev.now _))
  · refine ev_neg c ?_
    rw [codeV, decide_eq_false c, Bool.and_false]
    exact Ev.now _
end Go.Proofs.Ytipikejhchpfnaa.Fl
