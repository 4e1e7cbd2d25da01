/- What NormalOf, LastOf and JoinedBy answer, the reference's and the program's. Plain Lean. -/
import Derived.Test.YtmigpfkjhdaijabRwAsk
import Derived.Test.YtmigpfkjhdaijabRwN
namespace Go.Proofs.Ytmigpfkjhdaijab.Rw
set_option linter.unusedVariables false
set_option linter.unusedSimpArgs false
open Go.RowKit Go.Proofs.Ytmigpfkjhdaijab.RF Go.Proofs.YtmigpfkjhdaijabW.PrintWords Go.Proofs.YtmigpfkjhdaijabW.PrintLast

def normalOfV (l : List (S59)) (s : ByteArray) : ByteArray × Int × Bool := if askV l s = true then normV l false 401 s 0 else ((⟨#[]⟩ : ByteArray), 0, false)
theorem spec_normalOf (l : List (S59)) (hl : Small l) (s : ByteArray) (hs : s.size ≤ 9223372036854775807) : Ev (fun k => spec_NormalOf.f k l s) (normalOfV l s) := by
  unfold spec_NormalOf.f normalOfV askV
  refine Ev.bind (spec_good l hl) ?_
  cases h1 : goodL l with
  | false => exact ev_neg Bool.false_ne_true (Ev.now _)
  | true =>
    rw [Bool.true_and]
    refine ev_pos rfl (Ev.bind (text_ev s 40 hs) ?_)
    cases h2 : textOK s 40 with
    | false => exact ev_neg Bool.false_ne_true (Ev.now _)
    | true =>
      have := text_size h2
      exact ev_pos rfl (Ev.bind (spec_norm l (goodL_fine h1) false s (by omega)) (Ev.now _))
theorem impl_normalOf (l : List (S59)) (hl : Small l) (s : ByteArray) (hs : s.size ≤ 9223372036854775807) : Ev (fun k => impl_NormalOf.f k l s) (normalOfV l s) := by
  unfold impl_NormalOf.f normalOfV
  refine Ev.bind (asked_ev l hl s hs) ?_
  cases h1 : askV l s with
  | false => exact ev_neg Bool.false_ne_true (Ev.now _)
  | true =>
    obtain ⟨h2, h3⟩ := Bool.and_eq_true_iff.1 h1
    have := text_size h3
    exact ev_pos rfl (Ev.bind (impl_norm l (goodL_fine h2) false s (by omega)) (Ev.now _))
def lastOfV (l : List (S59)) (s : ByteArray) : ByteArray × Bool := if askV l s = true then ((normV l true 401 s 0).1, (normV l true 401 s 0).2.2) else ((⟨#[]⟩ : ByteArray), false)
theorem spec_lastOf (l : List (S59)) (hl : Small l) (s : ByteArray) (hs : s.size ≤ 9223372036854775807) : Ev (fun k => spec_LastOf.f k l s) (lastOfV l s) := by
  unfold spec_LastOf.f lastOfV askV
  refine Ev.bind (spec_good l hl) ?_
  cases h1 : goodL l with
  | false => exact ev_neg Bool.false_ne_true (Ev.now _)
  | true =>
    rw [Bool.true_and]
    refine ev_pos rfl (Ev.bind (text_ev s 40 hs) ?_)
    cases h2 : textOK s 40 with
    | false => exact ev_neg Bool.false_ne_true (Ev.now _)
    | true =>
      have := text_size h2
      exact ev_pos rfl (Ev.bind (spec_norm l (goodL_fine h1) true s (by omega)) (Ev.now _))
theorem impl_lastOf (l : List (S59)) (hl : Small l) (s : ByteArray) (hs : s.size ≤ 9223372036854775807) : Ev (fun k => impl_LastOf.f k l s) (lastOfV l s) := by
  unfold impl_LastOf.f lastOfV
  refine Ev.bind (asked_ev l hl s hs) ?_
  cases h1 : askV l s with
  | false => exact ev_neg Bool.false_ne_true (Ev.now _)
  | true =>
    obtain ⟨h2, h3⟩ := Bool.and_eq_true_iff.1 h1
    have := text_size h3
    exact ev_pos rfl (Ev.bind (impl_norm l (goodL_fine h2) true s (by omega)) (Ev.now _))
def joinedV (l : List (S59)) (a b : ByteArray) : Bool × Bool := if (normalOfV l a).2.2 = true then (if (normalOfV l b).2.2 = true then ((normalOfV l a).1.toList == (normalOfV l b).1.toList, true) else (false, false)) else (false, false)
theorem spec_joined (l : List (S59)) (hl : Small l) (a b : ByteArray) (ha : a.size ≤ 9223372036854775807) (hb : b.size ≤ 9223372036854775807) : Ev (fun k => spec_JoinedBy.f k l a b) (joinedV l a b) := by
  unfold spec_JoinedBy.f joinedV
  refine Ev.bind (spec_normalOf l hl a ha) (Ev.bind (spec_normalOf l hl b hb) ?_)
  cases h1 : (normalOfV l a).2.2 with
  | false => exact ev_neg Bool.false_ne_true (Ev.now _)
  | true =>
    refine ev_pos rfl ?_
    cases h2 : (normalOfV l b).2.2 with
    | false => exact ev_neg Bool.false_ne_true (Ev.now _)
    | true => exact ev_pos rfl (Ev.now _)
theorem impl_joined (l : List (S59)) (hl : Small l) (a b : ByteArray) (ha : a.size ≤ 9223372036854775807) (hb : b.size ≤ 9223372036854775807) : Ev (fun k => impl_JoinedBy.f k l a b) (joinedV l a b) := by
  unfold impl_JoinedBy.f joinedV
  refine Ev.bind (impl_normalOf l hl a ha) (Ev.bind (impl_normalOf l hl b hb) ?_)
  cases h1 : (normalOfV l a).2.2 with
  | false => exact ev_neg Bool.false_ne_true (Ev.now _)
  | true =>
    refine ev_pos rfl ?_
    cases h2 : (normalOfV l b).2.2 with
    | false => exact ev_neg Bool.false_ne_true (Ev.now _)
    | true => exact ev_pos rfl (Ev.now _)
end Go.Proofs.Ytmigpfkjhdaijab.Rw
