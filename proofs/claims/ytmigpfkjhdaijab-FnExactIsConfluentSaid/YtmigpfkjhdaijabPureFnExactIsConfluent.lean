/- The program's IsConfluent answers as the reference's, for every rules. Conditions: none beyond the statement's own. -/
import Derived.Test.YtmigpfkjhdaijabRw6
namespace Go.Proofs.Ytmigpfkjhdaijab.Pure
set_option linter.unusedVariables false
set_option linter.unusedSimpArgs false
open Go.RowKit Go.Proofs.Ytmigpfkjhdaijab.Rw Go.Proofs.Ytmigpfkjhdaijab.L15 Go.Proofs.YtmigpfkjhdaijabW.PrintWords Go.Proofs.YtmigpfkjhdaijabW.PrintLast

theorem j0_IsConfluent (l : List (S72)) (hn : l.length ≤ 1048576) : Ev (fun k => laws_FnExactIsConfluent.j0 k l (l.map cv) false) true :=
  ev_succ (ev_neg (f := fun _ => some false) Bool.false_ne_true (Ev.bind (to_ev l hn) (Ev.bind (eq_ev _ (map_len l hn)) (ev_pos rfl (Ev.now _)))))
theorem FnExactIsConfluent : laws_FnExactIsConfluent.Pure := by
  intro l _ hl
  refine Ev.rounds ?_
  unfold laws_FnExactIsConfluent.f
  obtain ⟨r, hr, hs⟩ := sz_ev l hl
  refine Ev.bind hr ?_
  by_cases c : r < 0
  · exact ev_pos c (Ev.now _)
  · obtain ⟨hn, hx⟩ := hs (by omega)
    have hsm := small_cv hn hx
    refine ev_neg c (Ev.bind (to_ev l hn) (Ev.bind (spec_isConf _ hsm) (Ev.bind (to_ev l hn) (Ev.bind (impl_isConf _ hsm) (ev_neg (by simp) ?_)))))
    rw [bne_self_eq_false]
    exact j0_IsConfluent l hn

end Go.Proofs.Ytmigpfkjhdaijab.Pure
