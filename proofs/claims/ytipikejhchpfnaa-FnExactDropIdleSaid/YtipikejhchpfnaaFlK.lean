/- Names that rise, and a stack's guards. Plain Lean. -/
import Derived.Test.YtipikejhchpfnaaFl1
namespace Go.Proofs.Ytipikejhchpfnaa.Fl
set_option linter.unusedVariables false
set_option linter.unusedSimpArgs false
open Go.RowKit Go.Proofs.Ytipikejhchpfnaa.DI Go.Proofs.YtipikejhchpfnaaW.PrintWords Go.Proofs.YtipikejhchpfnaaW.PrintLast

/-! ### names that rise -/
def keepFrom : List Int → Int → Bool
  | [], _ => true
  | x :: xs, p => (decide (0 ≤ x) && decide (x ≤ 7)) && (decide (p < x) && keepFrom xs x)
def keepV (l : List Int) : Bool := keepFrom l (-1)
theorem keep_l0 (l : List Int) (hl : l.length ≤ 9223372036854775807) (d : Nat) : ∀ (i : Nat) (p : Int), l.length - i = d → i ≤ l.length → (i = 0 → p = -1) → (0 < i → l[i - 1]? = some p) →
    Ev (fun k => spec_l16Keep.l0 k l l (l.length : Int) i) (keepFrom (l.drop i) p) := by
  induction d with
  | zero =>
    intro i p hd hi h0 hp
    refine ev_succ (ev_neg (by omega) ?_)
    rw [show i = l.length by omega, List.drop_length]
    exact Ev.now _
  | succ d ih =>
    intro i p hd hi h0 hp
    obtain ⟨x, hx, hdrop, _⟩ := drop_step (show i < l.length by omega)
    refine ev_succ (ev_pos (by omega) (ev_pos (by omega) (ev_pos (by omega) ?_)))
    simp only [rdI hx]
    rw [hdrop, keepFrom]
    refine ev_bindc (in_ _ _ _) ?_
    by_cases c0 : (decide (0 ≤ x) && decide (x ≤ 7)) = true
    · refine ev_pos c0 ?_
      rw [c0, Bool.true_and]
      have hx0 : 0 ≤ x := by simp at c0; exact c0.1
      by_cases ci : i = 0
      · subst ci
        refine ev_neg (by omega) ?_
        rw [h0 rfl, decide_eq_true (show -1 < x by omega), Bool.true_and, inc (by omega) (by omega)]
        exact ih 1 x (by omega) (by omega) (by omega) (fun _ => hx)
      · refine ev_pos (by omega) ?_
        have hw : wrap64 ((i : Int) - 1) = ((i - 1 : Nat) : Int) := by rw [wrap_id (by omega) (by omega)]; omega
        rw [hw]
        refine ev_pos (by omega) (ev_pos (by omega) ?_)
        simp only [rdI (hp (by omega))]
        by_cases c1 : p ≥ x
        · refine ev_pos c1 ?_
          rw [decide_eq_false (show ¬ p < x by omega), Bool.false_and]
          exact Ev.now _
        · refine ev_neg c1 ?_
          rw [decide_eq_true (show p < x by omega), Bool.true_and, inc (by omega) (by omega)]
          exact ih (i + 1) x (by omega) (by omega) (by omega) (fun _ => hx)
    · refine ev_neg c0 ?_
      rw [Bool.not_eq_true] at c0
      rw [c0, Bool.false_and]
      exact Ev.now _
theorem keep_ev (l : List Int) (hl : l.length ≤ 9223372036854775807) : Ev (fun k => spec_l16Keep.f k l) (keepV l) :=
  keep_l0 l hl l.length 0 (-1) (by omega) (by omega) (fun _ => rfl) (by omega)
theorem rises_l0 (l : List Int) (n : Int) : ∀ (k : Nat) (i : Int), impl_risesIn.l0 k l 8 l n i = spec_l16Keep.l0 k l l n i
  | 0, _ => rfl
  | k + 1, i => by
    have w8 : wrap64 (8 - 1) = 7 := by rw [wrap_id (by omega) (by omega)]; rfl
    simp only [impl_risesIn.l0, spec_l16Keep.l0, in_, within_, w8, rises_l0 l n k]
theorem rises_ev (l : List Int) (hl : l.length ≤ 9223372036854775807) : Ev (fun k => impl_risesIn.f k l 8) (keepV l) := by
  have h := keep_ev l hl
  simp only [impl_risesIn.f, rises_l0]
  exact h
def stackV (l : List S77) (ks : List Int) : Bool := codeV l && keepV ks
theorem stackOK_ev (l : List S77) (ks : List Int) (hk : ks.length ≤ 9223372036854775807) : Ev (fun k => impl_stackOK.f k l ks) (stackV l ks) := by
  refine Ev.bind (localFlat_ev l) ?_
  by_cases c : codeV l = true
  · refine ev_pos c ?_
    rw [stackV, c, Bool.true_and]
    exact Ev.bind (rises_ev ks hk) (Ev.now _)
  · refine ev_neg c ?_
    rw [Bool.not_eq_true] at c
    rw [stackV, c, Bool.false_and]
    exact Ev.now _
end Go.Proofs.Ytipikejhchpfnaa.Fl
