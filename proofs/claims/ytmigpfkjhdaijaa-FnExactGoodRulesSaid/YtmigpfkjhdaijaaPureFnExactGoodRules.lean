/- The program's GoodRules answers as the reference's, for every rules. Conditions: none beyond the statement's own. -/
import Derived.Test.YtmigpfkjhdaijaaRw2
namespace Go.Proofs.Ytmigpfkjhdaijaa.Pure
open Go.RowKit Go.Proofs.Ytmigpfkjhdaijaa.Rw Go.Proofs.Ytmigpfkjhdaijaa.L15 Go.Proofs.YtmigpfkjhdaijaaW.PrintWords Go.Proofs.YtmigpfkjhdaijaaW.PrintLast

theorem FnExactGoodRules : laws_FnExactGoodRules.Pure := by
  intro l _ hl
  refine Ev.rounds ?_
  obtain ⟨r, hr, hs⟩ := sz_ev l hl
  refine Ev.bind hr ?_
  by_cases c : r < 0
  · exact ev_pos c (Ev.now _)
  · obtain ⟨hn, hx⟩ := hs (by omega)
    have hsm := small_cv hn hx
    refine ev_neg c (Ev.bind (to_ev l hn) (Ev.bind (spec_good _ hsm) (Ev.bind (to_ev l hn) (Ev.bind (impl_good _ hsm) (ev_neg (by simp) (Ev.bind (to_ev l hn) (Ev.bind (eq_ev _ (map_len l hn)) (ev_pos rfl (Ev.now _)))))))))

end Go.Proofs.Ytmigpfkjhdaijaa.Pure
