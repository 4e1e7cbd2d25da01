/- The code of flat lines: what the spec's printed form answers; marking and holding of steps. Plain Lean. -/
import Derived.Test.YtipikejhchpfnaaFl2
import Derived.Test.YtipikejhchpfnaaFlM
import Derived.Test.YtipikejhchpfnaaFlEqI
import Derived.Test.YtipikejhchpfnaaFlTo
import Derived.Test.YtipikejhchpfnaaFlatHand
namespace Go.Proofs.Ytipikejhchpfnaa.Fl
set_option linter.unusedVariables false
set_option linter.unusedSimpArgs false
open Go.RowKit Go.Proofs.Ytipikejhchpfnaa.FS Go.Proofs.YtipikejhchpfnaaW.PrintWords Go.Proofs.YtipikejhchpfnaaW.PrintLast

theorem l3_ (a b : Int) : spec_l3Step.f a b = some (a, b, []) := rfl
theorem lineZ_set {x : S77} : (if setsV x = true then [(⟨3, x.f2, []⟩ : S95)] else []) = if 1 ≤ x.f0 ∧ x.f0 ≤ 4 then [(⟨3, x.f2, []⟩ : S95)] else [] := by
  simp [setsV]
theorem l14_j1 (t : List S77) (n p : Int) (x : S77) (o : List S95) (ho : o.length ≤ 1000) (r : List S95)
    (h : Ev (fun k => spec_l14Steps.l0 k (o ++ if 1 ≤ x.f0 ∧ x.f0 ≤ 4 then [(⟨3, x.f2, []⟩ : S95)] else []) t n (wrap64 (p + 1))) r) :
    Ev (fun k => spec_l14Steps.j1 k o t n p x.f0 x.f1 x.f2 x.f3 x.f4 x.f5) r := by
  refine ev_succ ?_
  simp only [spec_l14Steps.j1]
  refine ev_bindc (ssets_ x) ?_
  rw [← lineZ_set] at h
  by_cases c : setsV x = true
  · rw [if_pos c] at h
    exact ev_pos c (ev_bindc (l3_ _ _) (ev_pos (by omega) h))
  · rw [if_neg c, List.append_nil] at h
    exact ev_neg c h
theorem l14_l0 (t : List S77) (ht : t.length ≤ 60) (hg : ∀ x ∈ t, goodOp x) (d : Nat) : ∀ (i : Nat) (o : List S95), t.length - i = d → i ≤ t.length → o.length ≤ 4 * i →
    Ev (fun k => spec_l14Steps.l0 k o t (t.length : Int) i) (o ++ stepsZ (t.drop i)) := by
  induction d with
  | zero =>
    intro i o hd hi ho
    refine ev_succ ?_
    simp only [spec_l14Steps.l0]
    refine ev_neg (by omega) ?_
    rw [show i = t.length by omega, List.drop_length]
    exact ev_const' fun _ => by simp [stepsZ]
  | succ d ih =>
    intro i o hd hi ho
    obtain ⟨x, hx, hdrop, hm⟩ := drop_step (show i < t.length by omega)
    have hgx := hg x hm
    have hl := lineZ_len x
    have step : ∀ (hd : List S95), (usesZ x).map getZ ++ opZ x = hd → hd.length ≤ 4 → Ev (fun k => spec_l14Steps.j1 k (o ++ hd) t (t.length : Int) i x.f0 x.f1 x.f2 x.f3 x.f4 x.f5) (o ++ stepsZ (t.drop i)) := by
      intro hd he hlen
      refine l14_j1 t _ i x (o ++ hd) (by rw [List.length_append]; omega) _ ?_
      have e : o ++ stepsZ (t.drop i) = (o ++ hd ++ if 1 ≤ x.f0 ∧ x.f0 ≤ 4 then [(⟨3, x.f2, []⟩ : S95)] else []) ++ stepsZ (t.drop (i + 1)) := by
        rw [hdrop]
        show o ++ (lineZ x ++ stepsZ (t.drop (i + 1))) = _
        rw [lineZ, he]
        simp [List.append_assoc]
      rw [e, inc (by omega) (by omega)]
      refine ih (i + 1) _ (by omega) (by omega) ?_
      have e2 : (hd ++ if 1 ≤ x.f0 ∧ x.f0 ≤ 4 then [(⟨3, x.f2, []⟩ : S95)] else []).length = (lineZ x).length := by rw [lineZ, he]
      rw [List.append_assoc, List.length_append, e2]
      omega
    refine ev_succ ?_
    simp only [spec_l14Steps.l0]
    refine ev_pos (by omega) (ev_pos (by omega) (ev_pos (by omega) ?_))
    simp only [rdT hx]
    have h6 : x.f0 = 1 ∨ x.f0 = 2 ∨ x.f0 = 3 ∨ x.f0 = 4 ∨ x.f0 = 5 ∨ x.f0 = 6 := by unfold goodOp at hgx; omega
    rcases h6 with h | h | h | h | h | h
    · exact ev_pos h (ev_bindc (l3_ _ _) (ev_pos (by omega) (step _ (by simp [usesZ, opZ, h]) (by simp))))
    · exact ev_neg (by omega) (ev_neg (by omega) (ev_neg (by omega) (ev_neg (by omega) (ev_neg (by omega) (ev_bindc (l3_ _ _) (ev_pos (by omega) (step _ (by simp [usesZ, opZ, getZ, h]) (by simp))))))))
    · exact ev_neg (by omega) (ev_pos h (ev_bindc (l3_ _ _) (ev_bindc (l3_ _ _) (ev_bindc (l3_ _ _) (ev_bindc rfl (ev_pos (by simp; omega) (step _ (by simp [usesZ, opZ, getZ, h]) (by simp))))))))
    · exact ev_neg (by omega) (ev_neg (by omega) (ev_pos h (ev_bindc (l3_ _ _) (ev_bindc (l3_ _ _) (ev_bindc rfl (ev_pos (by simp; omega) (step _ (by simp [usesZ, opZ, getZ, h]) (by simp))))))))
    · exact ev_neg (by omega) (ev_neg (by omega) (ev_neg (by omega) (ev_pos h (ev_bindc (l3_ _ _) (ev_bindc (l3_ _ _) (ev_bindc (l3_ _ _) (ev_bindc rfl (ev_pos (by simp; omega) (step _ (by simp [usesZ, opZ, getZ, h]) (by simp))))))))))
    · exact ev_neg (by omega) (ev_neg (by omega) (ev_neg (by omega) (ev_neg (by omega) (ev_pos h (ev_bindc (l3_ _ _) (ev_bindc (l3_ _ _) (ev_bindc rfl (ev_pos (by simp; omega) (step _ (by simp [usesZ, opZ, getZ, h]) (by simp))))))))))
def fsV (l : List S77) : List S95 := if codeV l = true then stepsZ l else []
theorem sfs_ev (l : List S77) (hl : l.length ≤ 9223372036854775807) : Ev (fun k => spec_FlatSteps.f k l) (fsV l, codeV l) := by
  refine Ev.bind (low_ev l hl) ?_
  simp only [fsV]
  by_cases c : codeV l = true
  · have f := code_facts c
    refine ev_pos c (Ev.bind (l14_l0 l f.1 f.2 l.length 0 [] (by omega) (by omega) (by simp)) ?_)
    rw [if_pos c, c]
    exact ev_const' fun _ => by simp
  · refine ev_neg c ?_
    rw [if_neg c]
    rw [Bool.not_eq_true] at c
    rw [c]
    exact Ev.now _
/-! ### the law's copies, marks and looks -/
theorem rdS {l : List S95} {i : Nat} {x : S95} (h : l[i]? = some x) : rd_T95 l (i : Int) = x := by
  simp [rd_T95, h]
theorem eqStep_l0 (l : List S95) (hl : l.length ≤ 1000) (hz : ∀ x ∈ l, x.f2 = []) (d : Nat) : ∀ (i : Nat), l.length - i = d → i ≤ l.length → Ev (fun k => laws_eqStepS.l0 k l l i) true := by
  induction d with
  | zero =>
    intro i hd hi
    exact ev_succ (ev_neg (by omega) (Ev.now _))
  | succ d ih =>
    intro i hd hi
    obtain ⟨x, hx, hdrop, hm⟩ := drop_step (show i < l.length by omega)
    refine ev_succ (ev_pos (by omega) (ev_pos (by omega) (ev_pos (by omega) ?_)))
    simp only [rdS hx]
    have e : Ev (fun k => laws_eqStep.f k x.f0 x.f1 x.f2 x.f0 x.f1 x.f2) true := by
      rw [hz x hm]
      exact ev_pos rfl (ev_pos rfl (Ev.bind (eqInt_ev [] (by simp)) (ev_pos rfl (Ev.now _))))
    refine Ev.bind e (ev_pos rfl ?_)
    rw [inc (by omega) (by omega)]
    exact ih (i + 1) (by omega) (by omega)
theorem eqStep_ev (l : List S95) (hl : l.length ≤ 1000) (hz : ∀ x ∈ l, x.f2 = []) : Ev (fun k => laws_eqStepS.f k l l) true := ev_pos rfl (eqStep_l0 l hl hz l.length 0 (by omega) (by omega))
def marksZ : Int → Nat → List S95
  | _, 0 => []
  | n, m + 1 => ⟨n, n + 1, []⟩ :: marksZ (n + 1 + 1) m
theorem marksZ_len : ∀ (m : Nat) (n : Int), (marksZ n m).length = m
  | 0, _ => rfl
  | m + 1, n => by simp [marksZ, marksZ_len m]
theorem markZ_l0 (d : Nat) : ∀ (l : List S95) (i : Nat) (n : Int), l.length - i = d → i ≤ l.length → l.length ≤ 1000 → 0 ≤ n → n ≤ 1000 + 2 * (i : Int) → Ev (fun k => markZ.l0 k l n i) (n + 2 * (d : Int), l.take i ++ marksZ n d) := by
  induction d with
  | zero =>
    intro l i n hd hi hl h0 h1
    refine ev_succ (ev_neg (by omega) ?_)
    rw [show i = l.length by omega, List.take_length]
    exact ev_const' fun _ => by simp [marksZ]
  | succ d ih =>
    intro l i n hd hi hl h0 h1
    refine ev_succ (ev_pos (by omega) (ev_pos (by omega) ?_))
    rw [inc (i := n) (by omega) (by omega), inc (i := n + 1) (by omega) (by omega), inc (i := (i : Int)) (by omega) (by omega), show ((i : Int)).toNat = i by omega]
    have := ih (l.set i ⟨n, n + 1, []⟩) (i + 1) (n + 1 + 1) (by simp; omega) (by simp; omega) (by simpa using hl) (by omega) (by omega)
    have e : (l.set i (⟨n, n + 1, []⟩ : S95)).take (i + 1) = l.take i ++ [⟨n, n + 1, []⟩] := by
      rw [List.take_add_one, List.getElem?_set_self (by omega), List.take_set_of_le (Nat.le_refl _)]
      rfl
    rw [e, List.append_assoc] at this
    rw [show n + 2 * ((d + 1 : Nat) : Int) = n + 1 + 1 + 2 * (d : Int) by omega]
    exact this
theorem heldZ_l0 (d : Nat) : ∀ (l : List S95) (i : Nat) (n : Int), l.length - i = d → i ≤ l.length → l.length ≤ 1000 → 0 ≤ n → n ≤ 1000 + 2 * (i : Int) → l.drop i = marksZ n d → Ev (fun k => laws_heldStepS.l0 k l n i) (n + 2 * (d : Int)) := by
  induction d with
  | zero =>
    intro l i n hd hi hl h0 h1 hm
    exact ev_succ (ev_neg (by omega) (ev_const' fun _ => by simp))
  | succ d ih =>
    intro l i n hd hi hl h0 h1 hm
    obtain ⟨x, hx, hdrop, _⟩ := drop_step (show i < l.length by omega)
    rw [hdrop, marksZ] at hm
    injection hm with hm1 hm2
    subst hm1
    refine ev_succ (ev_pos (by omega) (ev_pos (by omega) ?_))
    simp only [rdS hx]
    rw [inc (i := n) (by omega) (by omega), inc (i := n + 1) (by omega) (by omega)]
    have e : Ev (fun k => laws_heldIntS.f k [] (n + 1 + 1)) (n + 1 + 1) := ev_succ (ev_const' fun _ => rfl)
    refine ev_pos trivial (ev_pos rfl (Ev.bind e (ev_neg (by omega) ?_)))
    rw [inc (i := (i : Int)) (by omega) (by omega), show n + 2 * ((d + 1 : Nat) : Int) = n + 1 + 1 + 2 * (d : Int) by omega]
    exact ih l (i + 1) (n + 1 + 1) (by omega) (by omega) hl (by omega) (by omega) hm2
theorem lineZ_nil (x : S77) : ∀ y ∈ lineZ x, y.f2 = [] := by
  intro y hy
  simp only [lineZ, List.mem_append, List.mem_map] at hy
  rcases hy with (⟨n, _, rfl⟩ | hy) | hy
  · rfl
  · unfold opZ at hy
    (repeat' split at hy) <;> simp at hy <;> (subst hy; rfl)
  · split at hy <;> simp at hy
    subst hy
    rfl
theorem fsV_nil (l : List S77) : ∀ y ∈ fsV l, y.f2 = [] := by
  intro y hy
  unfold fsV at hy
  split at hy
  · obtain ⟨x, _, hy⟩ := List.mem_flatMap.1 hy
    exact lineZ_nil x y hy
  · simp at hy
theorem fsV_len (l : List S77) : (fsV l).length ≤ 240 := by
  unfold fsV
  split
  · rename_i h
    have h1 := stepsZ_len l
    have h2 := (code_facts h).1
    omega
  · simp
end Go.Proofs.Ytipikejhchpfnaa.Fl
