/- The program's ShortLess answers as the reference's, for every two texts. Conditions: none beyond the statement's own. -/
import Derived.Test.YtmigpfkjhdaijaaPFnExactShortLessx1
namespace Go.Proofs.Ytmigpfkjhdaijaa.Pure
open Go.RowKit Go.Proofs.Ytmigpfkjhdaijaa.PFnExactShortLess Go.Proofs.YtmigpfkjhdaijaaW.PrintWords Go.Proofs.YtmigpfkjhdaijaaW.PrintLast

theorem less_same (a b : ByteArray) : impl_ShortLess.f a b = spec_ShortLess.f a b := by
  unfold impl_ShortLess.f spec_ShortLess.f
  by_cases h : (a.size : Int) = (b.size : Int)
  · rw [if_pos h, if_neg (by omega), if_pos h]
  · rw [if_neg h]
    by_cases g : (a.size : Int) < (b.size : Int)
    · rw [if_pos g, decide_eq_true g]
    · rw [if_neg g, if_neg h, decide_eq_false g]

theorem less_some (a b : ByteArray) : ∃ r, spec_ShortLess.f a b = some r := by
  unfold spec_ShortLess.f
  repeat' split
  all_goals exact ⟨_, rfl⟩

theorem FnExactShortLess : laws_FnExactShortLess.Pure := by
  intro a b _ _
  unfold laws_FnExactShortLess.f
  split
  · rfl
  split
  · rfl
  obtain ⟨r, hr⟩ := less_some a b
  rw [less_same, hr]
  simp

end Go.Proofs.Ytmigpfkjhdaijaa.Pure
