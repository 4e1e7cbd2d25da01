/- The program's OnceBy answers as the reference's, for every rules and texts; its answer owns its memory. Conditions: none beyond the statement's own. -/
import Derived.Test.YtmigpfkjhdaijaaRw4
namespace Go.Proofs.Ytmigpfkjhdaijaa.Pure
set_option linter.unusedVariables false
set_option linter.unusedSimpArgs false
open Go.RowKit Go.Proofs.Ytmigpfkjhdaijaa.Rw Go.Proofs.Ytmigpfkjhdaijaa.L15 Go.Proofs.YtmigpfkjhdaijaaW.PrintWords Go.Proofs.YtmigpfkjhdaijaaW.PrintLast

theorem FnExactOnceBy : laws_FnExactOnceBy.Pure := by
  intro l s _ hl hs
  refine Ev.rounds ?_
  unfold laws_FnExactOnceBy.f
  by_cases c0 : (s.size : Int) > 1048576
  · exact ev_pos c0 (Ev.now _)
  · refine ev_neg c0 ?_
    obtain ⟨r, hr, hs⟩ := sz_ev l hl
    refine Ev.bind hr ?_
    by_cases c : r < 0
    · exact ev_pos c (Ev.now _)
    · obtain ⟨hn, hx⟩ := hs (by omega)
      have hsm := small_cv hn hx
      have hlen := onceOf_len (l.map cv) s
      have hso := spec_onceOf _ hsm s (by omega)
      have hio := impl_onceOf _ hsm s (by omega)
      refine ev_neg c (Ev.bind (to_ev l hn) (Ev.bind hso (Ev.bind (to_ev l hn) (Ev.bind hio (Ev.bind (eqS_ev _ hlen) (ev_pos rfl ?_))))))
      generalize onceOfV (l.map cv) s = v at hlen hso hio ⊢
      rw [bne_self_eq_false]
      obtain ⟨q, hq⟩ := markR_ev (l.map cv) (by simp; omega)
      refine ev_succ (ev_neg (f := fun _ => some false) Bool.false_ne_true (Ev.bind (to_ev l hn) (Ev.bind (eq_ev _ (map_len l hn)) (ev_pos rfl (Ev.bind hq (ev_neg (by omega) (Ev.bind (eqS_ev _ hlen) (ev_pos rfl ?_))))))))
      rw [bne_self_eq_false]
      refine ev_succ (ev_neg (f := fun _ => some false) Bool.false_ne_true (Ev.bind (markS_ev _ hlen) (Ev.bind (heldS_ev _ hlen) (ev_neg (by omega) (ev_pos rfl (Ev.bind (to_ev l hn) (Ev.bind hio (Ev.bind (eqS_ev _ hlen) (ev_pos rfl ?_)))))))))
      rw [bne_self_eq_false]
      exact ev_succ (ev_neg (f := fun _ => some false) Bool.false_ne_true (Ev.bind (heldS_ev _ hlen) (ev_neg (by omega) (ev_pos rfl (Ev.now _)))))

end Go.Proofs.Ytmigpfkjhdaijaa.Pure
