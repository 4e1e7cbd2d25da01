/- The uses of a name: what the two counts answer. Plain Lean: no program, no memory. -/
import Derived.Test.YtipikejhchpfnaaFl1
namespace Go.Proofs.Ytipikejhchpfnaa.Fl
set_option linter.unusedVariables false
set_option linter.unusedSimpArgs false
open Go.RowKit Go.Proofs.Ytipikejhchpfnaa.UO Go.Proofs.YtipikejhchpfnaaW.PrintWords Go.Proofs.YtipikejhchpfnaaW.PrintLast

def usesV (x : S77) : List Int := if x.f0 = 1 then [] else if x.f0 = 3 ∨ x.f0 = 5 then [x.f3, x.f4] else [x.f3]
def setsV (x : S77) : Bool := decide (1 ≤ x.f0) && decide (x.f0 ≤ 4)
def goodOp (x : S77) : Prop := 1 ≤ x.f0 ∧ x.f0 ≤ 6
theorem goodOp_of_low {x : S77} (h : lowV x = true) : goodOp x := by
  obtain ⟨a, b, c, d, e, f⟩ := x
  simp only [lowV, flatV, fldV] at h
  simp only [goodOp]
  by_cases h1 : a = 1
  · omega
  · by_cases h2 : a = 2
    · omega
    · by_cases h4 : a = 4
      · omega
      · by_cases h3 : a = 3
        · omega
        · by_cases h5 : a = 5
          · omega
          · by_cases h6 : a = 6
            · omega
            · simp [h1, h2, h3, h4, h5, h6] at h
theorem suses_ (x : S77) : spec_l9Uses.f x.f0 x.f1 x.f2 x.f3 x.f4 x.f5 = some (usesV x) := by
  simp only [spec_l9Uses.f, usesV]
  by_cases h1 : x.f0 = 1
  · simp [h1]
  · by_cases h3 : x.f0 = 3
    · simp [h3]
    · by_cases h5 : x.f0 = 5
      · simp [h5]
      · simp [h1, h3, h5]
theorem ssets_ (x : S77) : spec_l9Sets.f x.f0 = some (setsV x) := by
  simp [spec_l9Sets.f, in_, setsV]
theorem fld1 (x : S77) : (fldV x.f0).1 = setsV x := by
  simp only [fldV, setsV]
  rw [Bool.eq_iff_iff]
  by_cases h1 : x.f0 = 1
  · simp [h1]
  · by_cases h2 : x.f0 = 2
    · simp [h2]
    · by_cases h4 : x.f0 = 4
      · simp [h4]
      · by_cases h3 : x.f0 = 3
        · simp [h3]
        · simp [h1, h2, h3, h4]
          split <;> (try split) <;> simp <;> omega
theorem hasDst_ev (x : S77) : Ev (fun k => impl_Flat_hasDst.f k x.f0 x.f1 x.f2 x.f3 x.f4 x.f5) (setsV x) := by
  rw [← fld1]
  exact Ev.bind (fields_ev _) (Ev.now _)
theorem uses_ev (x : S77) (h : goodOp x) : Ev (fun k => impl_Flat_uses.f k x.f0 x.f1 x.f2 x.f3 x.f4 x.f5) (usesV x) := by
  refine ev_bindc rfl (Ev.bind (fields_ev x.f0) ?_)
  have h0 := h.1
  have h6 := h.2
  refine ev_const' fun k => ?_
  simp only [fldV, usesV]
  by_cases h1 : x.f0 = 1
  · simp [h1]
  · by_cases h2 : x.f0 = 2
    · simp [h2]
    · by_cases h4 : x.f0 = 4
      · simp [h4]
      · by_cases h3 : x.f0 = 3
        · simp [h3]
        · by_cases h5 : x.f0 = 5
          · simp [h5]
          · simp [show x.f0 = 6 by omega]
theorem uses_len (x : S77) : (usesV x).length ≤ 2 := by
  simp only [usesV]
  split
  · simp
  · split <;> simp
theorem count_l0 (nm : Int) (us : List Int) (hu : us.length ≤ 2) (d : Nat) : ∀ (i : Nat) (c : Int), us.length - i = d → i ≤ us.length → 0 ≤ c → c ≤ (i : Int) →
    Ev (fun k => impl_Flat_useCount.l0 k nm c us (us.length : Int) i) (c + ((us.drop i).count nm : Nat)) := by
  induction d with
  | zero =>
    intro i c hd hi h0 h1
    refine ev_succ (ev_neg (by omega) ?_)
    rw [show i = us.length by omega, List.drop_length]
    simp only [List.count_nil]
    exact ev_const' fun _ => by simp
  | succ d ih =>
    intro i c hd hi h0 h1
    obtain ⟨x, hx, hdrop, _⟩ := drop_step (show i < us.length by omega)
    refine ev_succ (ev_pos (by omega) (ev_pos (by omega) (ev_pos (by omega) ?_)))
    simp only [rdI hx]
    rw [hdrop, List.count_cons, inc (by omega) (by omega)]
    by_cases e : x = nm
    · subst e
      refine ev_bindc (a := 1) (by simp [impl_oneIf.f]) ?_
      rw [inc (by omega) (by omega)]
      have := ih (i + 1) (c + 1) (by omega) (by omega) (by omega) (by omega)
      simp only [beq_self_eq_true, if_true]
      rw [show c + (((us.drop (i + 1)).count x + 1 : Nat) : Int) = c + 1 + ((us.drop (i + 1)).count x : Nat) by omega]
      exact this
    · refine ev_bindc (a := 0) (by simp [impl_oneIf.f, e]) ?_
      have hb : (x == nm) = false := by simp [e]
      rw [hb, wrap_id (by omega) (by omega), Int.add_zero]
      simp only [Bool.false_eq_true, if_false, Nat.add_zero]
      exact ih (i + 1) c (by omega) (by omega) h0 (by omega)
theorem useCount_ev (x : S77) (nm : Int) (h : goodOp x) : Ev (fun k => impl_Flat_useCount.f k x.f0 x.f1 x.f2 x.f3 x.f4 x.f5 nm) ((usesV x).count nm : Nat) := by
  refine Ev.bind (uses_ev x h) ?_
  have := count_l0 nm (usesV x) (uses_len x) (usesV x).length 0 0 (by omega) (by omega) (by omega) (by omega)
  simpa using this
theorem count_le2 (x : S77) (nm : Int) : (usesV x).count nm ≤ 2 := Nat.le_trans List.count_le_length (uses_len x)
/-- The uses of a name from here on, and whether the walk ended at a line that sets the name anew. -/
def walkV (nm : Int) : List S77 → Int → Int × Bool
  | [], c => (c, false)
  | x :: xs, c => if setsV x = true ∧ x.f2 = nm then (c + ((usesV x).count nm : Nat), true) else walkV nm xs (c + ((usesV x).count nm : Nat))
theorem later_l0 (l : List S77) (a : Nat) (y : S77) (ha : l[a]? = some y) (t : List S77) (ht : t.length ≤ 1000) (hg : ∀ x ∈ t, goodOp x) (d : Nat) : ∀ (i : Nat) (c : Int), t.length - i = d → i ≤ t.length → 0 ≤ c → c ≤ 2 * (i : Int) →
    Ev (fun k => impl_later.l0 k l (a : Int) c t (t.length : Int) i) (walkV y.f2 (t.drop i) c) := by
  have hal : a < l.length := by
    by_cases q : a < l.length
    · exact q
    · rw [List.getElem?_eq_none (by omega)] at ha; cases ha
  induction d with
  | zero =>
    intro i c hd hi h0 h1
    refine ev_succ (ev_neg (by omega) ?_)
    rw [show i = t.length by omega, List.drop_length]
    exact Ev.now _
  | succ d ih =>
    intro i c hd hi h0 h1
    obtain ⟨x, hx, hdrop, hm⟩ := drop_step (show i < t.length by omega)
    refine ev_succ (ev_pos (by omega) (ev_pos (by omega) (ev_pos (by omega) (ev_pos (by omega) (ev_pos (by omega) ?_)))))
    simp only [rdT hx, rdT ha]
    rw [hdrop, walkV]
    refine Ev.bind (useCount_ev x y.f2 (hg x hm)) (Ev.bind (hasDst_ev x) ?_)
    have h2 := count_le2 x y.f2
    rw [inc (by omega) (by omega), wrap_id (by omega) (by omega)]
    by_cases c0 : setsV x = true
    · refine ev_pos c0 ?_
      by_cases c1 : x.f2 = y.f2
      · refine ev_pos c1 ?_
        rw [if_pos ⟨c0, c1⟩]
        exact Ev.now _
      · refine ev_neg c1 ?_
        rw [if_neg (fun h => c1 h.2)]
        exact ih (i + 1) _ (by omega) (by omega) (by omega) (by omega)
    · refine ev_neg c0 ?_
      rw [if_neg (fun h => c0 h.1)]
      exact ih (i + 1) _ (by omega) (by omega) (by omega) (by omega)
theorem later_ev (l : List S77) (a : Nat) (y : S77) (ha : l[a]? = some y) (hl : l.length ≤ 1000) (hg : ∀ x ∈ l, goodOp x) :
    Ev (fun k => impl_later.f k l (a : Int)) (walkV y.f2 (l.drop (a + 1)) 0) := by
  have hal : a < l.length := by
    by_cases q : a < l.length
    · exact q
    · rw [List.getElem?_eq_none (by omega)] at ha; cases ha
  simp only [impl_later.f]
  rw [inc (by omega) (by omega)]
  refine ev_pos (by omega) (ev_pos (by omega) (ev_bindc rfl ?_))
  rw [show ((a : Int) + 1).toNat = a + 1 by omega]
  exact later_l0 l a y ha (l.drop (a + 1)) (by rw [List.length_drop]; omega) (fun x hx => hg x (List.mem_of_mem_drop hx)) _ 0 0 rfl (by omega) (by omega) (by omega)
theorem has_l0 (nm : Int) (l : List Int) (hl : l.length ≤ 9223372036854775807) (d : Nat) : ∀ (i : Nat), l.length - i = d → i ≤ l.length → Ev (fun k => spec_l1Has.l0 k nm l (l.length : Int) i) (decide (nm ∈ l.drop i)) := by
  induction d with
  | zero =>
    intro i hd hi
    refine ev_succ (ev_neg (by omega) ?_)
    rw [show i = l.length by omega, List.drop_length]
    exact ev_const' fun _ => by simp
  | succ d ih =>
    intro i hd hi
    obtain ⟨x, hx, hdrop, hm⟩ := drop_step (show i < l.length by omega)
    refine ev_succ (ev_pos (by omega) (ev_pos (by omega) (ev_pos (by omega) ?_)))
    simp only [rdI hx]
    rw [hdrop, inc (by omega) (by omega)]
    by_cases e : x = nm
    · subst e
      exact ev_pos rfl (ev_const' fun _ => by simp)
    · refine ev_neg e ?_
      have : decide (nm ∈ x :: l.drop (i + 1)) = decide (nm ∈ l.drop (i + 1)) := by
        apply decide_eq_decide.mpr
        simp [Ne.symm e]
      rw [this]
      exact ih (i + 1) (by omega) (by omega)
theorem has_ev (nm : Int) (l : List Int) (hl : l.length ≤ 9223372036854775807) : Ev (fun k => spec_l1Has.f k l nm) (decide (nm ∈ l)) := has_l0 nm l hl l.length 0 (by omega) (by omega)
theorem index_l0 (nm : Int) (l : List Int) (hl : l.length ≤ 9223372036854775807) (d : Nat) : ∀ (i : Nat), l.length - i = d → i ≤ l.length → ∃ r, Ev (fun k => slices_Index_int_int.l0 k l nm (l.length : Int) i) r ∧ decide (r ≥ 0) = decide (nm ∈ l.drop i) := by
  induction d with
  | zero =>
    intro i hd hi
    refine ⟨-1, ev_succ (ev_neg (by omega) (Ev.now _)), ?_⟩
    rw [show i = l.length by omega, List.drop_length]
    simp
  | succ d ih =>
    intro i hd hi
    obtain ⟨x, hx, hdrop, hm⟩ := drop_step (show i < l.length by omega)
    rw [hdrop]
    by_cases e : nm = x
    · subst e
      refine ⟨i, ev_succ (ev_pos (by omega) (ev_pos (by omega) (ev_pos (by omega) ?_))), by simp⟩
      simp only [rdI hx]
      exact ev_pos trivial (Ev.now _)
    · obtain ⟨r, hr, er⟩ := ih (i + 1) (by omega) (by omega)
      refine ⟨r, ev_succ (ev_pos (by omega) (ev_pos (by omega) (ev_pos (by omega) ?_))), ?_⟩
      · simp only [rdI hx]
        rw [inc (by omega) (by omega)]
        exact ev_neg e hr
      · rw [er]
        apply decide_eq_decide.mpr
        simp [e]
theorem contains_ev (nm : Int) (l : List Int) (hl : l.length ≤ 9223372036854775807) : Ev (fun k => slices_Contains_int_int.f k l nm) (decide (nm ∈ l)) := by
  obtain ⟨r, hr, e⟩ := index_l0 nm l hl l.length 0 (by omega) (by omega)
  rw [List.drop_zero] at e
  rw [← e]
  exact Ev.bind hr (Ev.now _)
theorem suse_l1 (keep : List Int) (nm : Int) (t : List S77) (n p : Int) (us : List Int) (hu : us.length ≤ 2) (r : Int × Bool) (x : S77) (d : Nat) : ∀ (i : Nat) (c : Int), us.length - i = d → i ≤ us.length → 0 ≤ c → c ≤ 4000 + (i : Int) →
    Ev (fun k => (if setsV x = true then (if x.f2 = nm then some (c + ((us.drop i).count nm : Nat), false) else spec_l16Uses.l0 k keep (c + ((us.drop i).count nm : Nat)) nm t n (wrap64 (p + 1))) else spec_l16Uses.l0 k keep (c + ((us.drop i).count nm : Nat)) nm t n (wrap64 (p + 1)))) r →
    Ev (fun k => spec_l16Uses.l1 k keep c nm t n p us (us.length : Int) i x.f0 x.f1 x.f2 x.f3 x.f4 x.f5) r := by
  induction d with
  | zero =>
    intro i c hd hi h0 h1 hr
    refine ev_succ (ev_neg (by omega) ?_)
    refine ev_bindc (ssets_ x) ?_
    rw [show i = us.length by omega, List.drop_length] at hr
    simpa using hr
  | succ d ih =>
    intro i c hd hi h0 h1 hr
    obtain ⟨y, hy, hdrop, hm⟩ := drop_step (show i < us.length by omega)
    refine ev_succ (ev_pos (by omega) (ev_pos (by omega) (ev_pos (by omega) ?_)))
    simp only [rdI hy]
    rw [hdrop, List.count_cons] at hr
    have hi1 : wrap64 ((i : Int) + 1) = ((i + 1 : Nat) : Int) := by rw [inc (by omega) (by omega)]; rfl
    simp only [hi1]
    by_cases e : y = nm
    · subst e
      refine ev_pos rfl ?_
      rw [inc (by omega) (by omega)]
      refine ih (i + 1) (c + 1) (by omega) (by omega) (by omega) (by omega) ?_
      simp only [beq_self_eq_true, if_true] at hr
      rw [show c + (((us.drop (i + 1)).count y + 1 : Nat) : Int) = c + 1 + ((us.drop (i + 1)).count y : Nat) by omega] at hr
      exact hr
    · refine ev_neg e ?_
      have hb : (y == nm) = false := by simp [e]
      rw [hb] at hr
      simp only [Bool.false_eq_true, if_false, Nat.add_zero] at hr
      exact ih (i + 1) c (by omega) (by omega) h0 (by omega) hr
theorem suse_l0 (keep : List Int) (hk : keep.length ≤ 9223372036854775807) (nm : Int) (t : List S77) (ht : t.length ≤ 1000) (d : Nat) : ∀ (i : Nat) (c : Int), t.length - i = d → i ≤ t.length → 0 ≤ c → c ≤ 2 * (i : Int) →
    Ev (fun k => spec_l16Uses.l0 k keep c nm t (t.length : Int) i) ((walkV nm (t.drop i) c).1, if (walkV nm (t.drop i) c).2 = true then false else decide (nm ∈ keep)) := by
  induction d with
  | zero =>
    intro i c hd hi h0 h1
    refine ev_succ (ev_neg (by omega) ?_)
    rw [show i = t.length by omega, List.drop_length]
    exact Ev.bind (has_ev nm keep hk) (ev_const' fun _ => by simp [walkV])
  | succ d ih =>
    intro i c hd hi h0 h1
    obtain ⟨x, hx, hdrop, hm⟩ := drop_step (show i < t.length by omega)
    refine ev_succ (ev_pos (by omega) (ev_pos (by omega) (ev_pos (by omega) ?_)))
    simp only [rdT hx]
    refine ev_bindc (suses_ x) ?_
    rw [hdrop, walkV]
    have h2 := count_le2 x nm
    refine suse_l1 keep nm t _ i (usesV x) (uses_len x) _ x (usesV x).length 0 c (by omega) (by omega) h0 (by omega) ?_
    rw [List.drop_zero, inc (by omega) (by omega)]
    by_cases c0 : setsV x = true
    · refine ev_pos c0 ?_
      by_cases c1 : x.f2 = nm
      · refine ev_pos c1 ?_
        rw [if_pos ⟨c0, c1⟩]
        exact ev_const' fun _ => by simp
      · refine ev_neg c1 ?_
        rw [if_neg (fun h => c1 h.2)]
        exact ih (i + 1) _ (by omega) (by omega) (by omega) (by omega)
    · refine ev_neg c0 ?_
      rw [if_neg (fun h => c0 h.1)]
      exact ih (i + 1) _ (by omega) (by omega) (by omega) (by omega)
/-- Is the line's name read once, and then no more? -/
def onceV (l : List S77) (a : Nat) (nm : Int) (keep : List Int) : Bool :=
  decide ((walkV nm (l.drop (a + 1)) 0).1 = 1) && ((walkV nm (l.drop (a + 1)) 0).2 || !decide (nm ∈ keep))
theorem sonce_ev (l : List S77) (a : Nat) (y : S77) (ha : l[a]? = some y) (hl : l.length ≤ 1000) (keep : List Int) (hk : keep.length ≤ 9223372036854775807) :
    Ev (fun k => spec_l16Once.f k l (a : Int) keep) (onceV l a y.f2 keep) := by
  have hal : a < l.length := by
    by_cases q : a < l.length
    · exact q
    · rw [List.getElem?_eq_none (by omega)] at ha; cases ha
  have h : Ev (fun k => spec_l16Uses.f k l (a : Int) keep) ((walkV y.f2 (l.drop (a + 1)) 0).1, if (walkV y.f2 (l.drop (a + 1)) 0).2 = true then false else decide (y.f2 ∈ keep)) := by
    simp only [spec_l16Uses.f, rdT ha]
    rw [inc (by omega) (by omega)]
    refine ev_pos (by omega) (ev_pos (by omega) (ev_pos (by omega) (ev_pos (by omega) (ev_bindc rfl ?_))))
    rw [show ((a : Int) + 1).toNat = a + 1 by omega]
    exact suse_l0 keep hk y.f2 (l.drop (a + 1)) (by rw [List.length_drop]; omega) _ 0 0 rfl (by omega) (by omega) (by omega)
  refine Ev.bind h ?_
  simp only [onceV]
  by_cases c : (walkV y.f2 (l.drop (a + 1)) 0).1 = 1
  · refine ev_pos c (ev_const' fun _ => ?_)
    cases (walkV y.f2 (l.drop (a + 1)) 0).2 <;> simp [c]
  · refine ev_neg c (ev_const' fun _ => ?_)
    simp [c]
theorem ionce_ev (l : List S77) (a : Nat) (y : S77) (ha : l[a]? = some y) (hl : l.length ≤ 1000) (hg : ∀ x ∈ l, goodOp x) (keep : List Int) (hk : keep.length ≤ 9223372036854775807) :
    Ev (fun k => impl_usedOnce.f k l (a : Int) keep) (onceV l a y.f2 keep) := by
  have hal : a < l.length := by
    by_cases q : a < l.length
    · exact q
    · rw [List.getElem?_eq_none (by omega)] at ha; cases ha
  refine Ev.bind (later_ev l a y ha hl hg) ?_
  simp only [onceV]
  by_cases c : (walkV y.f2 (l.drop (a + 1)) 0).1 = 1
  · refine ev_pos c ?_
    by_cases c2 : (walkV y.f2 (l.drop (a + 1)) 0).2 = true
    · exact ev_pos c2 (ev_const' fun _ => by simp [c, c2])
    · refine ev_neg c2 (ev_pos (by omega) (ev_pos (by omega) ?_))
      simp only [rdT ha]
      rw [Bool.not_eq_true] at c2
      exact Ev.bind (contains_ev _ keep hk) (ev_const' fun _ => by simp [c, c2])
  · exact ev_neg c (ev_const' fun _ => by simp [c])
end Go.Proofs.Ytipikejhchpfnaa.Fl
