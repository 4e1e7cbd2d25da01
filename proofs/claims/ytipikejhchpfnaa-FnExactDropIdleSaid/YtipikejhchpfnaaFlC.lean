/- slices.Contains at ints. Plain Lean. -/
import Derived.Test.YtipikejhchpfnaaFl0
namespace Go.Proofs.Ytipikejhchpfnaa.Fl
set_option linter.unusedVariables false
set_option linter.unusedSimpArgs false
open Go.RowKit Go.Proofs.Ytipikejhchpfnaa.DI Go.Proofs.YtipikejhchpfnaaW.PrintWords Go.Proofs.YtipikejhchpfnaaW.PrintLast

theorem index_l0 (nm : Int) (l : List Int) (hl : l.length ≤ 9223372036854775807) (d : Nat) : ∀ (i : Nat), l.length - i = d → i ≤ l.length → ∃ r, Ev (fun k => slices_Index_int_int.l0 k l nm (l.length : Int) i) r ∧ decide (r ≥ 0) = decide (nm ∈ l.drop i) := by
  induction d with
  | zero =>
    intro i hd hi
    refine ⟨-1, ev_succ (ev_neg (by omega) (Ev.now _)), ?_⟩
    rw [show i = l.length by omega, List.drop_length]
    simp
  | succ d ih =>
    intro i hd hi
    obtain ⟨x, hx, hdrop, hm⟩ := drop_step (show i < l.length by omega)
    rw [hdrop]
    by_cases e : nm = x
    · subst e
      refine ⟨i, ev_succ (ev_pos (by omega) (ev_pos (by omega) (ev_pos (by omega) ?_))), by simp⟩
      simp only [rdI hx]
      exact ev_pos trivial (Ev.now _)
    · obtain ⟨r, hr, er⟩ := ih (i + 1) (by omega) (by omega)
      refine ⟨r, ev_succ (ev_pos (by omega) (ev_pos (by omega) (ev_pos (by omega) ?_))), ?_⟩
      · simp only [rdI hx]
        rw [inc (by omega) (by omega)]
        exact ev_neg e hr
      · rw [er]
        apply decide_eq_decide.mpr
        simp [e]
theorem contains_ev (nm : Int) (l : List Int) (hl : l.length ≤ 9223372036854775807) : Ev (fun k => slices_Contains_int_int.f k l nm) (decide (nm ∈ l)) := by
  obtain ⟨r, hr, e⟩ := index_l0 nm l hl l.length 0 (by omega) (by omega)
  rw [List.drop_zero] at e
  rw [← e]
  exact Ev.bind hr (Ev.now _)
end Go.Proofs.Ytipikejhchpfnaa.Fl
