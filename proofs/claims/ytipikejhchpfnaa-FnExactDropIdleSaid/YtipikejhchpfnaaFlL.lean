/- The uses of a name ahead: what the two counts answer. Plain Lean: no program, no memory. -/
import Derived.Test.YtipikejhchpfnaaFl2
import Derived.Test.YtipikejhchpfnaaFlC
namespace Go.Proofs.Ytipikejhchpfnaa.Fl
set_option linter.unusedVariables false
set_option linter.unusedSimpArgs false
open Go.RowKit Go.Proofs.Ytipikejhchpfnaa.DI Go.Proofs.YtipikejhchpfnaaW.PrintWords Go.Proofs.YtipikejhchpfnaaW.PrintLast

theorem count_l0 (nm : Int) (us : List Int) (hu : us.length ≤ 2) (d : Nat) : ∀ (i : Nat) (c : Int), us.length - i = d → i ≤ us.length → 0 ≤ c → c ≤ (i : Int) →
    Ev (fun k => impl_Flat_useCount.l0 k nm c us (us.length : Int) i) (c + ((us.drop i).count nm : Nat)) := by
  induction d with
  | zero =>
    intro i c hd hi h0 h1
    refine ev_succ (ev_neg (by omega) ?_)
    rw [show i = us.length by omega, List.drop_length]
    simp only [List.count_nil]
    exact ev_const' fun _ => by simp
  | succ d ih =>
    intro i c hd hi h0 h1
    obtain ⟨x, hx, hdrop, _⟩ := drop_step (show i < us.length by omega)
    refine ev_succ (ev_pos (by omega) (ev_pos (by omega) (ev_pos (by omega) ?_)))
    simp only [rdI hx]
    rw [hdrop, List.count_cons, inc (by omega) (by omega)]
    by_cases e : x = nm
    · subst e
      refine ev_bindc (a := 1) (by simp [impl_oneIf.f]) ?_
      rw [inc (by omega) (by omega)]
      have := ih (i + 1) (c + 1) (by omega) (by omega) (by omega) (by omega)
      simp only [beq_self_eq_true, if_true]
      rw [show c + (((us.drop (i + 1)).count x + 1 : Nat) : Int) = c + 1 + ((us.drop (i + 1)).count x : Nat) by omega]
      exact this
    · refine ev_bindc (a := 0) (by simp [impl_oneIf.f, e]) ?_
      have hb : (x == nm) = false := by simp [e]
      rw [hb, wrap_id (by omega) (by omega), Int.add_zero]
      simp only [Bool.false_eq_true, if_false, Nat.add_zero]
      exact ih (i + 1) c (by omega) (by omega) h0 (by omega)
theorem useCount_ev (x : S77) (nm : Int) (h : goodOp x) : Ev (fun k => impl_Flat_useCount.f k x.f0 x.f1 x.f2 x.f3 x.f4 x.f5 nm) ((usesV x).count nm : Nat) := by
  refine Ev.bind (uses_ev x h) ?_
  have := count_l0 nm (usesV x) (uses_len x) (usesV x).length 0 0 (by omega) (by omega) (by omega) (by omega)
  simpa using this
theorem count_le2 (x : S77) (nm : Int) : (usesV x).count nm ≤ 2 := Nat.le_trans List.count_le_length (uses_len x)
/-- The uses of a name from here on, and whether the walk ended at a line that sets the name anew. -/
def walkV (nm : Int) : List S77 → Int → Int × Bool
  | [], c => (c, false)
  | x :: xs, c => if setsV x = true ∧ x.f2 = nm then (c + ((usesV x).count nm : Nat), true) else walkV nm xs (c + ((usesV x).count nm : Nat))
theorem later_l0 (l : List S77) (a : Nat) (y : S77) (ha : l[a]? = some y) (t : List S77) (ht : t.length ≤ 1000) (hg : ∀ x ∈ t, goodOp x) (d : Nat) : ∀ (i : Nat) (c : Int), t.length - i = d → i ≤ t.length → 0 ≤ c → c ≤ 2 * (i : Int) →
    Ev (fun k => impl_later.l0 k l (a : Int) c t (t.length : Int) i) (walkV y.f2 (t.drop i) c) := by
  have hal : a < l.length := by
    by_cases q : a < l.length
    · exact q
    · rw [List.getElem?_eq_none (by omega)] at ha; cases ha
  induction d with
  | zero =>
    intro i c hd hi h0 h1
    refine ev_succ (ev_neg (by omega) ?_)
    rw [show i = t.length by omega, List.drop_length]
    exact Ev.now _
  | succ d ih =>
    intro i c hd hi h0 h1
    obtain ⟨x, hx, hdrop, hm⟩ := drop_step (show i < t.length by omega)
    refine ev_succ (ev_pos (by omega) (ev_pos (by omega) (ev_pos (by omega) (ev_pos (by omega) (ev_pos (by omega) ?_)))))
    simp only [rdT hx, rdT ha]
    rw [hdrop, walkV]
    refine Ev.bind (useCount_ev x y.f2 (hg x hm)) (Ev.bind (hasDst_ev x) ?_)
    have h2 := count_le2 x y.f2
    rw [inc (by omega) (by omega), wrap_id (by omega) (by omega)]
    by_cases c0 : setsV x = true
    · refine ev_pos c0 ?_
      by_cases c1 : x.f2 = y.f2
      · refine ev_pos c1 ?_
        rw [if_pos ⟨c0, c1⟩]
        exact Ev.now _
      · refine ev_neg c1 ?_
        rw [if_neg (fun h => c1 h.2)]
        exact ih (i + 1) _ (by omega) (by omega) (by omega) (by omega)
    · refine ev_neg c0 ?_
      rw [if_neg (fun h => c0 h.1)]
      exact ih (i + 1) _ (by omega) (by omega) (by omega) (by omega)
theorem later_ev (l : List S77) (a : Nat) (y : S77) (ha : l[a]? = some y) (hl : l.length ≤ 1000) (hg : ∀ x ∈ l, goodOp x) :
    Ev (fun k => impl_later.f k l (a : Int)) (walkV y.f2 (l.drop (a + 1)) 0) := by
  have hal : a < l.length := by
    by_cases q : a < l.length
    · exact q
    · rw [List.getElem?_eq_none (by omega)] at ha; cases ha
  simp only [impl_later.f]
  rw [inc (by omega) (by omega)]
  refine ev_pos (by omega) (ev_pos (by omega) (ev_bindc rfl ?_))
  rw [show ((a : Int) + 1).toNat = a + 1 by omega]
  exact later_l0 l a y ha (l.drop (a + 1)) (by rw [List.length_drop]; omega) (fun x hx => hg x (List.mem_of_mem_drop hx)) _ 0 0 rfl (by omega) (by omega) (by omega)
theorem suse_l1 (keep : List Int) (nm : Int) (t : List S77) (n p : Int) (us : List Int) (hu : us.length ≤ 2) (r : Int × Bool) (x : S77) (d : Nat) : ∀ (i : Nat) (c : Int), us.length - i = d → i ≤ us.length → 0 ≤ c → c ≤ 4000 + (i : Int) →
    Ev (fun k => (if setsV x = true then (if x.f2 = nm then some (c + ((us.drop i).count nm : Nat), false) else spec_l16Uses.l0 k keep (c + ((us.drop i).count nm : Nat)) nm t n (wrap64 (p + 1))) else spec_l16Uses.l0 k keep (c + ((us.drop i).count nm : Nat)) nm t n (wrap64 (p + 1)))) r →
    Ev (fun k => spec_l16Uses.l1 k keep c nm t n p us (us.length : Int) i x.f0 x.f1 x.f2 x.f3 x.f4 x.f5) r := by
  induction d with
  | zero =>
    intro i c hd hi h0 h1 hr
    refine ev_succ (ev_neg (by omega) ?_)
    refine ev_bindc (ssets_ x) ?_
    rw [show i = us.length by omega, List.drop_length] at hr
    simpa using hr
  | succ d ih =>
    intro i c hd hi h0 h1 hr
    obtain ⟨y, hy, hdrop, hm⟩ := drop_step (show i < us.length by omega)
    refine ev_succ (ev_pos (by omega) (ev_pos (by omega) (ev_pos (by omega) ?_)))
    simp only [rdI hy]
    rw [hdrop, List.count_cons] at hr
    have hi1 : wrap64 ((i : Int) + 1) = ((i + 1 : Nat) : Int) := by rw [inc (by omega) (by omega)]; rfl
    simp only [hi1]
    by_cases e : y = nm
    · subst e
      refine ev_pos rfl ?_
      rw [inc (by omega) (by omega)]
      refine ih (i + 1) (c + 1) (by omega) (by omega) (by omega) (by omega) ?_
      simp only [beq_self_eq_true, if_true] at hr
      rw [show c + (((us.drop (i + 1)).count y + 1 : Nat) : Int) = c + 1 + ((us.drop (i + 1)).count y : Nat) by omega] at hr
      exact hr
    · refine ev_neg e ?_
      have hb : (y == nm) = false := by simp [e]
      rw [hb] at hr
      simp only [Bool.false_eq_true, if_false, Nat.add_zero] at hr
      exact ih (i + 1) c (by omega) (by omega) h0 (by omega) hr
theorem suse_l0 (keep : List Int) (hk : keep.length ≤ 9223372036854775807) (nm : Int) (t : List S77) (ht : t.length ≤ 1000) (d : Nat) : ∀ (i : Nat) (c : Int), t.length - i = d → i ≤ t.length → 0 ≤ c → c ≤ 2 * (i : Int) →
    Ev (fun k => spec_l16Uses.l0 k keep c nm t (t.length : Int) i) ((walkV nm (t.drop i) c).1, if (walkV nm (t.drop i) c).2 = true then false else decide (nm ∈ keep)) := by
  induction d with
  | zero =>
    intro i c hd hi h0 h1
    refine ev_succ (ev_neg (by omega) ?_)
    rw [show i = t.length by omega, List.drop_length]
    exact Ev.bind (has_ev nm keep hk) (ev_const' fun _ => by simp [walkV])
  | succ d ih =>
    intro i c hd hi h0 h1
    obtain ⟨x, hx, hdrop, hm⟩ := drop_step (show i < t.length by omega)
    refine ev_succ (ev_pos (by omega) (ev_pos (by omega) (ev_pos (by omega) ?_)))
    simp only [rdT hx]
    refine ev_bindc (suses_ x) ?_
    rw [hdrop, walkV]
    have h2 := count_le2 x nm
    refine suse_l1 keep nm t _ i (usesV x) (uses_len x) _ x (usesV x).length 0 c (by omega) (by omega) h0 (by omega) ?_
    rw [List.drop_zero, inc (by omega) (by omega)]
    by_cases c0 : setsV x = true
    · refine ev_pos c0 ?_
      by_cases c1 : x.f2 = nm
      · refine ev_pos c1 ?_
        rw [if_pos ⟨c0, c1⟩]
        exact ev_const' fun _ => by simp
      · refine ev_neg c1 ?_
        rw [if_neg (fun h => c1 h.2)]
        exact ih (i + 1) _ (by omega) (by omega) (by omega) (by omega)
    · refine ev_neg c0 ?_
      rw [if_neg (fun h => c0 h.1)]
      exact ih (i + 1) _ (by omega) (by omega) (by omega) (by omega)
theorem suse_ev (l : List S77) (a : Nat) (y : S77) (ha : l[a]? = some y) (hl : l.length ≤ 1000) (keep : List Int) (hk : keep.length ≤ 9223372036854775807) :
    Ev (fun k => spec_l16Uses.f k l (a : Int) keep) ((walkV y.f2 (l.drop (a + 1)) 0).1, if (walkV y.f2 (l.drop (a + 1)) 0).2 = true then false else decide (y.f2 ∈ keep)) := by
  have hal : a < l.length := by
    by_cases q : a < l.length
    · exact q
    · rw [List.getElem?_eq_none (by omega)] at ha; cases ha
  simp only [spec_l16Uses.f, rdT ha]
  rw [inc (by omega) (by omega)]
  refine ev_pos (by omega) (ev_pos (by omega) (ev_pos (by omega) (ev_pos (by omega) (ev_bindc rfl ?_))))
  rw [show ((a : Int) + 1).toNat = a + 1 by omega]
  exact suse_l0 keep hk y.f2 (l.drop (a + 1)) (by rw [List.length_drop]; omega) _ 0 0 rfl (by omega) (by omega) (by omega)
end Go.Proofs.Ytipikejhchpfnaa.Fl
