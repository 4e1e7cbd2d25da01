/- What OnceBy answers, the reference's and the program's. Plain Lean. -/
import Derived.Test.YtmigpfkjhdaijabRw3
namespace Go.Proofs.Ytmigpfkjhdaijab.Rw
set_option linter.unusedVariables false
set_option linter.unusedSimpArgs false
open Go.RowKit Go.Proofs.Ytmigpfkjhdaijab.RF Go.Proofs.YtmigpfkjhdaijabW.PrintWords Go.Proofs.YtmigpfkjhdaijabW.PrintLast

def askV (l : List (S59)) (s : ByteArray) : Bool := goodL l && textOK s 40
theorem asked_ev (l : List (S59)) (hl : Small l) (s : ByteArray) (hs : s.size ≤ 9223372036854775807) : Ev (fun k => impl_askedText.f k l s) (askV l s) := by
  unfold impl_askedText.f askV
  refine Ev.bind (impl_good l hl) ?_
  cases goodL l with
  | false => exact ev_neg Bool.false_ne_true (Ev.now _)
  | true =>
    rw [Bool.true_and]
    exact ev_pos rfl (Ev.bind (letters_ev s 40 hs) (Ev.now _))
def onceOfV (l : List (S59)) (s : ByteArray) : List ByteArray × Bool := if askV l s = true then (onceL l s, true) else ([], false)
theorem spec_onceOf (l : List (S59)) (hl : Small l) (s : ByteArray) (hs : s.size ≤ 9223372036854775807) : Ev (fun k => spec_OnceBy.f k l s) (onceOfV l s) := by
  unfold spec_OnceBy.f onceOfV askV
  refine Ev.bind (spec_good l hl) ?_
  cases h1 : goodL l with
  | false => exact ev_neg Bool.false_ne_true (Ev.now _)
  | true =>
    rw [Bool.true_and]
    refine ev_pos rfl (Ev.bind (text_ev s 40 hs) ?_)
    cases h2 : textOK s 40 with
    | false => exact ev_neg Bool.false_ne_true (Ev.now _)
    | true =>
      have := text_size h2
      exact ev_pos rfl (Ev.bind (spec_once l s (by omega) (goodL_fine h1)) (Ev.now _))
theorem impl_onceOf (l : List (S59)) (hl : Small l) (s : ByteArray) (hs : s.size ≤ 9223372036854775807) : Ev (fun k => impl_OnceBy.f k l s) (onceOfV l s) := by
  unfold impl_OnceBy.f onceOfV
  refine Ev.bind (asked_ev l hl s hs) ?_
  cases h1 : askV l s with
  | false => exact ev_neg Bool.false_ne_true (Ev.now _)
  | true =>
    obtain ⟨h2, h3⟩ := Bool.and_eq_true_iff.1 h1
    have := text_size h3
    exact ev_pos rfl (ev_bindc (impl_once_ l s (by omega) (goodL_fine h2)) (Ev.now _))
theorem onceOf_len (l : List (S59)) (s : ByteArray) : (onceOfV l s).1.length ≤ 1000000 := by
  unfold onceOfV
  split
  · rename_i h
    obtain ⟨h2, h3⟩ := Bool.and_eq_true_iff.1 h
    have := text_size h3
    exact once_len (goodL_fine h2) (by omega)
  · simp
end Go.Proofs.Ytmigpfkjhdaijab.Rw
