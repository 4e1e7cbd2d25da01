/- The program's JoinedBy answers as the reference's, for every rules and texts. Conditions: none beyond the statement's own. -/
import Derived.Test.YtmigpfkjhdaijaaRw3
namespace Go.Proofs.Ytmigpfkjhdaijaa.Pure
set_option linter.unusedVariables false
set_option linter.unusedSimpArgs false
open Go.RowKit Go.Proofs.Ytmigpfkjhdaijaa.Rw Go.Proofs.Ytmigpfkjhdaijaa.L15 Go.Proofs.YtmigpfkjhdaijaaW.PrintWords Go.Proofs.YtmigpfkjhdaijaaW.PrintLast

theorem j0_JoinedBy (l : List (S46)) (hn : l.length ≤ 1048576) : Ev (fun k => laws_FnExactJoinedBy.j0 k l (l.map cv) false) true :=
  ev_succ (ev_neg (f := fun _ => some false) Bool.false_ne_true (Ev.bind (to_ev l hn) (Ev.bind (eq_ev _ (map_len l hn)) (ev_pos rfl (Ev.now _)))))
theorem FnExactJoinedBy : laws_FnExactJoinedBy.Pure := by
  intro l a b _ hl _ _
  refine Ev.rounds ?_
  unfold laws_FnExactJoinedBy.f
  by_cases c0 : (a.size : Int) > 1048576
  · exact ev_pos c0 (Ev.now _)
  · refine ev_neg c0 ?_
    by_cases c1 : (b.size : Int) > 1048576
    · exact ev_pos c1 (Ev.now _)
    · refine ev_neg c1 ?_
      obtain ⟨r, hr, hs⟩ := sz_ev l hl
      refine Ev.bind hr ?_
      by_cases c : r < 0
      · exact ev_pos c (Ev.now _)
      · obtain ⟨hn, hx⟩ := hs (by omega)
        have hsm := small_cv hn hx
        refine ev_neg c (Ev.bind (to_ev l hn) (Ev.bind (spec_joined _ hsm a b (by omega) (by omega)) (Ev.bind (to_ev l hn) (Ev.bind (impl_joined _ hsm a b (by omega) (by omega)) (ev_neg (by simp) ?_)))))
        rw [bne_self_eq_false]
        exact j0_JoinedBy l hn

end Go.Proofs.Ytmigpfkjhdaijaa.Pure
