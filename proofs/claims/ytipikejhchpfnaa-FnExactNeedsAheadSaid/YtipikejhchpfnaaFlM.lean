/- What marking and holding of rows of ints and of flat lines answer. Plain Lean. -/
import Derived.Test.YtipikejhchpfnaaFlTo
namespace Go.Proofs.Ytipikejhchpfnaa.Fl
set_option linter.unusedVariables false
set_option linter.unusedSimpArgs false
open Go.RowKit Go.Proofs.Ytipikejhchpfnaa.NA Go.Proofs.YtipikejhchpfnaaW.PrintWords Go.Proofs.YtipikejhchpfnaaW.PrintLast

/-- The numbers from one on. -/
def marksV : Int → Nat → List Int
  | _, 0 => []
  | n, m + 1 => n :: marksV (n + 1) m
theorem marksV_len : ∀ (m : Nat) (n : Int), (marksV n m).length = m
  | 0, _ => rfl
  | m + 1, n => by simp [marksV, marksV_len m]
theorem markInt_l0 (d : Nat) : ∀ (l : List Int) (i : Nat) (n : Int), l.length - i = d → i ≤ l.length → l.length ≤ 4194304 → 0 ≤ n → n ≤ 1073741824 + (i : Int) →
    Ev (fun k => laws_markIntS.l0 k l n i) (n + (d : Int), l.take i ++ marksV n d) := by
  induction d with
  | zero =>
    intro l i n hd hi hl h0 h1
    refine ev_succ (ev_neg (by omega) ?_)
    rw [show i = l.length by omega, List.take_length]
    exact ev_const' fun _ => by simp [marksV]
  | succ d ih =>
    intro l i n hd hi hl h0 h1
    refine ev_succ (ev_pos (by omega) (ev_pos (by omega) ?_))
    rw [inc (by omega) (by omega), inc (by omega) (by omega), show ((i : Int)).toNat = i by omega]
    have := ih (l.set i n) (i + 1) (n + 1) (by simp; omega) (by simp; omega) (by simpa using hl) (by omega) (by omega)
    have e : (l.set i n).take (i + 1) = l.take i ++ [n] := by
      rw [List.take_add_one, List.getElem?_set_self (by omega), List.take_set_of_le (Nat.le_refl _)]
      rfl
    rw [e, List.append_assoc] at this
    rw [show n + ((d + 1 : Nat) : Int) = n + 1 + (d : Int) by omega]
    exact this
theorem markInt_ev (l : List Int) (n : Int) (hl : l.length ≤ 4194304) (h0 : 0 ≤ n) (h1 : n ≤ 1073741824) : Ev (fun k => laws_markIntS.f k l n) (n + (l.length : Int), marksV n l.length) := by
  have := markInt_l0 l.length l 0 n (by omega) (by omega) hl h0 (by omega)
  simp only [laws_markIntS.f]
  simpa using this
theorem heldInt_l0 (d : Nat) : ∀ (l : List Int) (i : Nat) (n : Int), l.length - i = d → i ≤ l.length → l.length ≤ 4194304 → 0 ≤ n → n ≤ 1073741824 + (i : Int) → l.drop i = marksV n d →
    Ev (fun k => laws_heldIntS.l0 k l n i) (n + (d : Int)) := by
  induction d with
  | zero =>
    intro l i n hd hi hl h0 h1 hm
    exact ev_succ (ev_neg (by omega) (ev_const' fun _ => by simp))
  | succ d ih =>
    intro l i n hd hi hl h0 h1 hm
    obtain ⟨x, hx, hdrop, _⟩ := drop_step (show i < l.length by omega)
    rw [hdrop, marksV] at hm
    injection hm with hm1 hm2
    refine ev_succ (ev_pos (by omega) (ev_pos (by omega) (ev_pos (by rw [rdI hx]; exact hm1) ?_)))
    rw [inc (by omega) (by omega), inc (by omega) (by omega)]
    rw [show n + ((d + 1 : Nat) : Int) = n + 1 + (d : Int) by omega]
    exact ih l (i + 1) (n + 1) (by omega) (by omega) hl (by omega) (by omega) hm2
theorem heldInt_ev (m : Nat) (n : Int) (hm : m ≤ 4194304) (h0 : 0 ≤ n) (h1 : n ≤ 1073741824) : Ev (fun k => laws_heldIntS.f k (marksV n m) n) (n + (m : Int)) :=
  heldInt_l0 m (marksV n m) 0 n (by rw [marksV_len]; rfl) (by omega) (by rw [marksV_len]; exact hm) h0 (by omega) (by simp)
theorem markFlat_l0 (d : Nat) : ∀ (l : List S77) (i : Nat) (n : Int), l.length - i = d → i ≤ l.length → l.length ≤ 4194304 → 0 ≤ n → n ≤ 1073741824 + 6 * (i : Int) →
    ∃ r, r.length = l.length ∧ Ev (fun k => laws_markFlatS.l0 k l n i) (n + 6 * (d : Int), r) := by
  induction d with
  | zero =>
    intro l i n hd hi hl h0 h1
    exact ⟨l, rfl, ev_succ (ev_neg (by omega) (ev_const' fun _ => by simp))⟩
  | succ d ih =>
    intro l i n hd hi hl h0 h1
    have w : wrap64 (wrap64 (wrap64 (wrap64 (wrap64 (wrap64 (n + 1) + 1) + 1) + 1) + 1) + 1) = n + 6 := by
      simp only [wrap64]
      omega
    have hs : ∀ (y : List S77), ∃ r, y.length = l.length → r.length = l.length ∧ Ev (fun k => laws_markFlatS.l0 k y (n + 6) ((i : Int) + 1)) (n + 6 * ((d + 1 : Nat) : Int), r) := fun y => by
      by_cases hy : y.length = l.length
      · obtain ⟨r, hr, h⟩ := ih y (i + 1) (n + 6) (by omega) (by omega) (by omega) (by omega) (by omega)
        refine ⟨r, fun _ => ⟨by omega, ?_⟩⟩
        rw [show n + 6 * ((d + 1 : Nat) : Int) = n + 6 + 6 * (d : Int) by omega]
        exact h
      · exact ⟨[], fun h => absurd h hy⟩
    obtain ⟨R, hR⟩ := Classical.axiomOfChoice hs
    have fin : ∀ {y : List S77} {G : Nat → Option (Int × List S77)}, y.length = l.length → (Ev (fun k => laws_markFlatS.l0 k y (n + 6) ((i : Int) + 1)) (n + 6 * ((d + 1 : Nat) : Int), R y) → Ev G (n + 6 * ((d + 1 : Nat) : Int), R y)) → ∃ r, r.length = l.length ∧ Ev G (n + 6 * ((d + 1 : Nat) : Int), r) := fun hy h => ⟨R _, (hR _ hy).1, h (hR _ hy).2⟩
    apply fin
    rotate_left
    · intro h
      refine ev_succ (ev_pos (by omega) (ev_pos (by omega) (ev_bindc rfl (ev_bindc rfl (ev_bindc rfl (ev_bindc rfl (ev_bindc rfl ?_)))))))
      rw [w, inc (i := (i : Int)) (by omega) (by omega)]
      exact h
    all_goals simp
theorem markFlat_ev (l : List S77) (n : Int) (hl : l.length ≤ 4194304) (h0 : 0 ≤ n) (h1 : n ≤ 1073741824) : ∃ r, r.length = l.length ∧ Ev (fun k => laws_markFlatS.f k l n) (n + 6 * (l.length : Int), r) :=
  markFlat_l0 l.length l 0 n (by omega) (by omega) hl h0 (by omega)
end Go.Proofs.Ytipikejhchpfnaa.Fl
