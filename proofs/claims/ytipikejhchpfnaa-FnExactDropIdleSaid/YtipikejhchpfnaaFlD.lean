/- Idle lines: what the search and the dropping answer. Plain Lean. -/
import Derived.Test.YtipikejhchpfnaaFlL
namespace Go.Proofs.Ytipikejhchpfnaa.Fl
set_option linter.unusedVariables false
set_option linter.unusedSimpArgs false
open Go.RowKit Go.Proofs.Ytipikejhchpfnaa.DI Go.Proofs.YtipikejhchpfnaaW.PrintWords Go.Proofs.YtipikejhchpfnaaW.PrintLast

def pureV (x : S77) : Bool := decide (x.f0 = 1) || decide (x.f0 = 2) || (decide (x.f0 = 3) && decide (x.f1 ≠ 7))
/-- May line n be dropped? -/
def idleC (l : List S77) (keep : List Int) (n : Nat) : Bool := match l[n]? with
  | some x => pureV x && (decide ((walkV x.f2 (l.drop (n + 1)) 0).1 = 0) && ((walkV x.f2 (l.drop (n + 1)) 0).2 || !decide (x.f2 ∈ keep)))
  | none => false
/-- The last of the first n lines that may be dropped; -1 without one. -/
def idleN (l : List S77) (keep : List Int) : Nat → Int
  | 0 => -1
  | n + 1 => if idleC l keep n = true then n else idleN l keep n
theorem idleN_lt (l : List S77) (keep : List Int) : ∀ n, idleN l keep n < (n : Int) ∧ -1 ≤ idleN l keep n
  | 0 => by simp [idleN]
  | n + 1 => by
    have := idleN_lt l keep n
    simp only [idleN]
    split <;> omega
theorem spure_ (x : S77) : spec_l12Pure.f x.f0 x.f1 x.f2 x.f3 x.f4 x.f5 = some (pureV x) := by
  simp only [spec_l12Pure.f, pureV]
  by_cases h1 : x.f0 = 1
  · simp [h1]
  · by_cases h2 : x.f0 = 2
    · simp [h2]
    · by_cases h3 : x.f0 = 3
      · simp [h3, bne, BEq.beq]
      · simp [h1, h2, h3]
theorem ipure_ (x : S77) : impl_Flat_pure.f x.f0 x.f1 x.f2 x.f3 x.f4 x.f5 = some (pureV x) := by
  rw [← spure_]
  rfl
theorem dec1 {n : Nat} (h : n ≤ 1000) : wrap64 (((n + 1 : Nat) : Int) - 1) = (n : Int) := by
  rw [wrap_id (by omega) (by omega)]
  omega
theorem idle_l0 (l : List S77) (hl : l.length ≤ 1000) (hg : ∀ x ∈ l, goodOp x) (keep : List Int) (hk : keep.length ≤ 9223372036854775807) : ∀ (n : Nat), n ≤ l.length →
    Ev (fun k => impl_idle.l0 k l keep ((n : Int) - 1)) (idleN l keep n)
  | 0, _ => ev_succ (ev_neg (by omega) (Ev.now _))
  | n + 1, hn => by
    obtain ⟨x, hx, _, _⟩ := drop_step (show n < l.length by omega)
    have ih := idle_l0 l hl hg keep hk n (by omega)
    rw [show ((n + 1 : Nat) : Int) - 1 = (n : Int) by omega]
    refine ev_succ (ev_pos (by omega) (ev_pos (by omega) (ev_pos (by omega) ?_)))
    simp only [rdT hx, ipure_, Option.bind_some, idleN, idleC, hx]
    have hw : wrap64 ((n : Int) - 1) = (n : Int) - 1 := wrap_id (by omega) (by omega)
    rw [hw]
    by_cases c : pureV x = true
    · refine ev_pos c (Ev.bind (later_ev l n x hx hl hg) ?_)
      rw [c, Bool.true_and]
      by_cases c1 : (walkV x.f2 (l.drop (n + 1)) 0).1 = 0
      · refine ev_pos c1 ?_
        rw [decide_eq_true c1, Bool.true_and]
        by_cases c2 : (walkV x.f2 (l.drop (n + 1)) 0).2 = true
        · refine ev_pos c2 ?_
          rw [c2, Bool.true_or, if_pos rfl]
          exact Ev.now _
        · refine ev_neg c2 (Ev.bind (contains_ev _ keep hk) ?_)
          rw [Bool.not_eq_true] at c2
          rw [c2, Bool.false_or]
          by_cases c3 : x.f2 ∈ keep
          · refine ev_pos (by simpa using c3) ?_
            rw [decide_eq_true c3]
            exact ih
          · refine ev_neg (by simpa using c3) ?_
            rw [decide_eq_false c3]
            exact Ev.now _
      · refine ev_neg c1 ?_
        rw [decide_eq_false c1, Bool.false_and]
        exact ih
    · refine ev_neg c ?_
      rw [Bool.not_eq_true] at c
      rw [c, Bool.false_and]
      exact ih
theorem idle_ev (l : List S77) (hl : l.length ≤ 1000) (hg : ∀ x ∈ l, goodOp x) (keep : List Int) (hk : keep.length ≤ 9223372036854775807) : Ev (fun k => impl_idle.f k l keep) (idleN l keep l.length) := by
  simp only [impl_idle.f]
  rw [wrap_id (by omega) (by omega)]
  exact idle_l0 l hl hg keep hk l.length (Nat.le_refl _)
/-- Drop what is idle, at most f times. -/
def dropV (keep : List Int) : Nat → List S77 → Int → List S77 × Int × Bool
  | 0, l, m => (l, m, true)
  | f + 1, l, m => if idleN l keep l.length ≥ 0 then dropV keep f (l.eraseIdx (idleN l keep l.length).toNat) (m + 1) else (l, m, true)
theorem dropV_len (keep : List Int) : ∀ (f : Nat) (l : List S77) (m : Int), (dropV keep f l m).1.length ≤ l.length
  | 0, l, m => Nat.le_refl _
  | f + 1, l, m => by
    simp only [dropV]
    split
    · refine Nat.le_trans (dropV_len keep f _ _) ?_
      rw [List.length_eraseIdx]
      split <;> omega
    · exact Nat.le_refl _
theorem good_erase {l : List S77} (hg : ∀ x ∈ l, goodOp x) (n : Nat) : ∀ x ∈ l.eraseIdx n, goodOp x := fun x hx => hg x (List.mem_of_mem_eraseIdx hx)
theorem erase_len {l : List S77} {n : Nat} (h : n < l.length) : (l.eraseIdx n).length = l.length - 1 := by rw [List.length_eraseIdx, if_pos h]
theorem drop_l0 (keep : List Int) (hk : keep.length ≤ 9223372036854775807) : ∀ (f : Nat) (l : List S77) (m : Int), l.length ≤ f → l.length ≤ 1000 → (∀ x ∈ l, goodOp x) → 0 ≤ m → m + (l.length : Int) ≤ 2000 →
    Ev (fun k => impl_DropIdle.l0 k keep l m (idleN l keep l.length)) (dropV keep f l m)
  | 0, l, m, hf, hl, hg, h0, h1 => by
    have he : l = [] := List.eq_nil_of_length_eq_zero (by omega)
    subst he
    exact ev_succ (ev_neg (by simp [idleN]) (Ev.now _))
  | f + 1, l, m, hf, hl, hg, h0, h1 => by
    have hi := idleN_lt l keep l.length
    refine ev_succ ?_
    simp only [impl_DropIdle.l0, dropV]
    by_cases c : idleN l keep l.length ≥ 0
    · rw [if_pos c]
      have hn : (idleN l keep l.length).toNat < l.length := by omega
      have hle := erase_len hn
      refine ev_pos c (ev_pos (by omega) (Ev.bind (idle_ev _ (by omega) (good_erase hg _) keep hk) ?_))
      rw [inc h0 (by omega)]
      exact drop_l0 keep hk f _ _ (by omega) (by omega) (good_erase hg _) (by omega) (by omega)
    · rw [if_neg c]
      exact ev_neg c (Ev.now _)
/-- The spec's search: either it drops, and begins anew, or it ends. -/
theorem sdrop_l1 (l : List S77) (hl : l.length ≤ 1000) (keep : List Int) (hk : keep.length ≤ 9223372036854775807) (m : Int) (r : List S77 × Int × Bool) : ∀ (n : Nat), n ≤ l.length →
    (idleN l keep n ≥ 0 → Ev (fun k => spec_DropIdle.l0 k keep (l.eraseIdx (idleN l keep n).toNat) (wrap64 (m + 1)) true) r) → (¬ idleN l keep n ≥ 0 → Ev (fun k => spec_DropIdle.l0 k keep l m false) r) →
    Ev (fun k => spec_DropIdle.l1 k keep l m false ((n : Int) - 1)) r
  | 0, _, _, h2 => ev_succ (ev_neg (by omega) (h2 (by simp [idleN])))
  | n + 1, hn, h1, h2 => by
    obtain ⟨x, hx, _, _⟩ := drop_step (show n < l.length by omega)
    rw [show ((n + 1 : Nat) : Int) - 1 = (n : Int) by omega]
    refine ev_succ ?_
    simp only [spec_DropIdle.l1]
    refine ev_pos (by omega) (ev_pos (by omega) (ev_pos (by omega) ?_))
    simp only [rdT hx]
    refine ev_bindc (spure_ x) ?_
    have hw : wrap64 ((n : Int) - 1) = (n : Int) - 1 := wrap_id (by omega) (by omega)
    rw [hw]
    have go : idleC l keep n = false → Ev (fun k => spec_DropIdle.l1 k keep l m false ((n : Int) - 1)) r := fun hc => by
      have e : idleN l keep (n + 1) = idleN l keep n := by simp [idleN, hc]
      rw [e] at h1 h2
      exact sdrop_l1 l hl keep hk m r n (by omega) h1 h2
    simp only [idleC, hx] at go
    by_cases c : pureV x = true
    · refine ev_pos c (Ev.bind (suse_ev l n x hx hl keep hk) ?_)
      rw [c, Bool.true_and] at go
      by_cases c1 : (walkV x.f2 (l.drop (n + 1)) 0).1 = 0
      · refine ev_pos c1 ?_
        rw [decide_eq_true c1, Bool.true_and] at go
        by_cases c2 : ((walkV x.f2 (l.drop (n + 1)) 0).2 || !decide (x.f2 ∈ keep)) = true
        · have e : idleN l keep (n + 1) = n := by simp only [idleN, idleC, hx, c, c1, c2]; simp
          rw [e, Int.toNat_natCast] at h1
          refine ev_neg ?_ ?_
          · cases hh : (walkV x.f2 (l.drop (n + 1)) 0).2 with
            | true => simp
            | false => rw [hh] at c2; simpa using c2
          · have ht : (l.take ((n : Int)).toNat) = l.take n := by simp
            have hn1 : wrap64 ((n : Int) + 1) = (n : Int) + 1 := inc (by omega) (by omega)
            refine ev_bindc rfl ?_
            refine ev_pos (by omega) ?_
            refine ev_bindc rfl ?_
            refine ev_pos (by simp; omega) ?_
            refine ev_bindc rfl ?_
            rw [hn1]
            refine ev_pos (by omega) ?_
            refine ev_pos (by omega) ?_
            refine ev_bindc rfl ?_
            refine ev_pos (by simp; omega) ?_
            rw [show ((n : Int)).toNat = n by omega, show ((n : Int) + 1).toNat = n + 1 by omega, List.nil_append, ← List.eraseIdx_eq_take_drop_succ]
            exact h1 (by omega)
        · refine ev_pos ?_ (go (by simpa using c2))
          cases hh : (walkV x.f2 (l.drop (n + 1)) 0).2 with
          | true => rw [hh] at c2; simp at c2
          | false => rw [hh] at c2; simpa using c2
      · refine ev_neg c1 (go ?_)
        rw [decide_eq_false c1, Bool.false_and]
    · refine ev_neg c (go ?_)
      rw [Bool.not_eq_true] at c
      rw [c, Bool.false_and]
theorem sdrop_end (keep : List Int) (l : List S77) (m : Int) : Ev (fun k => spec_DropIdle.l0 k keep l m false) (l, m, true) := by
  refine ev_succ ?_
  simp only [spec_DropIdle.l0]
  exact ev_neg (by simp) (Ev.now _)
theorem sdrop_l0 (keep : List Int) (hk : keep.length ≤ 9223372036854775807) : ∀ (f : Nat) (l : List S77) (m : Int), l.length ≤ f → l.length ≤ 1000 → (∀ x ∈ l, goodOp x) → 0 ≤ m → m + (l.length : Int) ≤ 2000 →
    Ev (fun k => spec_DropIdle.l0 k keep l m true) (dropV keep f l m)
  | 0, l, m, hf, hl, hg, h0, h1 => by
    have he : l = [] := List.eq_nil_of_length_eq_zero (by omega)
    subst he
    refine ev_succ ?_
    simp only [spec_DropIdle.l0]
    refine ev_pos trivial ?_
    rw [show wrap64 ((([] : List S77).length : Int) - 1) = ((0 : Nat) : Int) - 1 from wrap_id (by simp) (by simp)]
    exact sdrop_l1 [] (by simp) keep hk m _ 0 (by simp) (fun h => by simp [idleN] at h) (fun _ => sdrop_end _ _ _)
  | f + 1, l, m, hf, hl, hg, h0, h1 => by
    have hi := idleN_lt l keep l.length
    refine ev_succ ?_
    simp only [spec_DropIdle.l0]
    refine ev_pos trivial ?_
    rw [wrap_id (by omega) (by omega)]
    refine sdrop_l1 l hl keep hk m _ l.length (Nat.le_refl _) (fun c => ?_) (fun c => ?_)
    · simp only [dropV]
      have hn : (idleN l keep l.length).toNat < l.length := by omega
      have hle := erase_len hn
      rw [if_pos c, inc h0 (by omega)]
      exact sdrop_l0 keep hk f _ _ (by omega) (by omega) (good_erase hg _) (by omega) (by omega)
    · simp only [dropV]
      rw [if_neg c]
      exact sdrop_end _ _ _
end Go.Proofs.Ytipikejhchpfnaa.Fl
