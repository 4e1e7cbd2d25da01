/- What marking and holding of rows of ints and of flat lines answer. Plain Lean. -/
import Derived.Test.YtipikejhchpfnaaFlTo
namespace Go.Proofs.Ytipikejhchpfnaa.Fl
set_option linter.unusedVariables false
set_option linter.unusedSimpArgs false
open Go.RowKit Go.Proofs.Ytipikejhchpfnaa.FS Go.Proofs.YtipikejhchpfnaaW.PrintWords Go.Proofs.YtipikejhchpfnaaW.PrintLast

/-- The numbers from one on. -/
def marksV : Int → Nat → List Int
  | _, 0 => []
  | n, m + 1 => n :: marksV (n + 1) m
theorem marksV_len : ∀ (m : Nat) (n : Int), (marksV n m).length = m
  | 0, _ => rfl
  | m + 1, n => by simp [marksV, marksV_len m]
theorem markInt_l0 (d : Nat) : ∀ (l : List Int) (i : Nat) (n : Int), l.length - i = d → i ≤ l.length → l.length ≤ 4194304 → 0 ≤ n → n ≤ 1073741824 + (i : Int) →
    Ev (fun k => laws_markIntS.l0 k l n i) (n + (d : Int), l.take i ++ marksV n d) := by
  induction d with
  | zero =>
    intro l i n hd hi hl h0 h1
    refine ev_succ (ev_neg (by omega) ?_)
    rw [show i = l.length by omega, List.take_length]
    exact ev_const' fun _ => by simp [marksV]
  | succ d ih =>
    intro l i n hd hi hl h0 h1
    refine ev_succ (ev_pos (by omega) (ev_pos (by omega) ?_))
    rw [inc (by omega) (by omega), inc (by omega) (by omega), show ((i : Int)).toNat = i by omega]
    have := ih (l.set i n) (i + 1) (n + 1) (by simp; omega) (by simp; omega) (by simpa using hl) (by omega) (by omega)
    have e : (l.set i n).take (i + 1) = l.take i ++ [n] := by
      rw [List.take_add_one, List.getElem?_set_self (by omega), List.take_set_of_le (Nat.le_refl _)]
      rfl
    rw [e, List.append_assoc] at this
    rw [show n + ((d + 1 : Nat) : Int) = n + 1 + (d : Int) by omega]
    exact this
theorem markInt_ev (l : List Int) (n : Int) (hl : l.length ≤ 4194304) (h0 : 0 ≤ n) (h1 : n ≤ 1073741824) : Ev (fun k => laws_markIntS.f k l n) (n + (l.length : Int), marksV n l.length) := by
  have := markInt_l0 l.length l 0 n (by omega) (by omega) hl h0 (by omega)
  simp only [laws_markIntS.f]
  simpa using this
/-- Lines that bear the numbers from one on. -/
def marksF : Int → Nat → List S77
  | _, 0 => []
  | n, m + 1 => ⟨n, n + 1, n + 1 + 1, n + 1 + 1 + 1, n + 1 + 1 + 1 + 1, n + 1 + 1 + 1 + 1 + 1⟩ :: marksF (n + 1 + 1 + 1 + 1 + 1 + 1) m
theorem marksF_len : ∀ (m : Nat) (n : Int), (marksF n m).length = m
  | 0, _ => rfl
  | m + 1, n => by simp [marksF, marksF_len m]
theorem marks_wraps {n : Int} (h0 : 0 ≤ n) (h1 : n ≤ 9000000000000000000) : wrap64 (n + 1) = n + 1 ∧ wrap64 (n + 1 + 1) = n + 1 + 1 ∧ wrap64 (n + 1 + 1 + 1) = n + 1 + 1 + 1 ∧ wrap64 (n + 1 + 1 + 1 + 1) = n + 1 + 1 + 1 + 1 ∧ wrap64 (n + 1 + 1 + 1 + 1 + 1) = n + 1 + 1 + 1 + 1 + 1 ∧ wrap64 (n + 1 + 1 + 1 + 1 + 1 + 1) = n + 1 + 1 + 1 + 1 + 1 + 1 := by
  simp only [wrap64]
  omega
theorem markFlat_l0 (d : Nat) : ∀ (l : List S77) (i : Nat) (n : Int), l.length - i = d → i ≤ l.length → l.length ≤ 4194304 → 0 ≤ n → n ≤ 1073741824 + 6 * (i : Int) →
    Ev (fun k => laws_markFlatS.l0 k l n i) (n + 6 * (d : Int), l.take i ++ marksF n d) := by
  induction d with
  | zero =>
    intro l i n hd hi hl h0 h1
    refine ev_succ (ev_neg (by omega) ?_)
    rw [show i = l.length by omega, List.take_length]
    exact ev_const' fun _ => by simp [marksF]
  | succ d ih =>
    intro l i n hd hi hl h0 h1
    have W := Aside0.mk (marks_wraps h0 (show n ≤ 9000000000000000000 by omega))
    have hi1 : wrap64 ((i : Int) + 1) = (i : Int) + 1 := inc (by omega) (by omega)
    have hn : ((i : Int)).toNat = i := by omega
    have hset : ∀ v, rd_T77 (l.set i v) (i : Int) = v := fun v => by
      rw [rd_T77, hn, List.getD_eq_getElem?_getD, List.getElem?_set_self (by omega)]
      rfl
    obtain ⟨x, hx⟩ : ∃ x, x = rd_T77 l (i : Int) := ⟨_, rfl⟩
    refine ev_succ (ev_pos (by omega) (ev_pos (by omega) (ev_bindc (a := l.set i ⟨n, x.f1, x.f2, x.f3, x.f4, x.f5⟩) (by rw [hn, hx]) ?_)))
    refine ev_bindc (a := l.set i ⟨n, n + 1, x.f2, x.f3, x.f4, x.f5⟩) (by simp only [hn, hset, List.set_set, W.out.1]) ?_
    refine ev_bindc (a := l.set i ⟨n, n + 1, n + 1 + 1, x.f3, x.f4, x.f5⟩) (by simp only [hn, hset, List.set_set, W.out.1, W.out.2.1]) ?_
    refine ev_bindc (a := l.set i ⟨n, n + 1, n + 1 + 1, n + 1 + 1 + 1, x.f4, x.f5⟩) (by simp only [hn, hset, List.set_set, W.out.1, W.out.2.1, W.out.2.2.1]) ?_
    refine ev_bindc (a := l.set i ⟨n, n + 1, n + 1 + 1, n + 1 + 1 + 1, n + 1 + 1 + 1 + 1, x.f5⟩) (by simp only [hn, hset, List.set_set, W.out.1, W.out.2.1, W.out.2.2.1, W.out.2.2.2.1]) ?_
    simp only [W.out.1, W.out.2.1, W.out.2.2.1, W.out.2.2.2.1, W.out.2.2.2.2.1, W.out.2.2.2.2.2, hi1, hn, hset, List.set_set]
    have := ih (l.set i ⟨n, n + 1, n + 1 + 1, n + 1 + 1 + 1, n + 1 + 1 + 1 + 1, n + 1 + 1 + 1 + 1 + 1⟩) (i + 1) (n + 1 + 1 + 1 + 1 + 1 + 1) (by simp; omega) (by simp; omega) (by simpa using hl) (by omega) (by omega)
    have e : ∀ v : S77, (l.set i v).take (i + 1) = l.take i ++ [v] := fun v => by
      rw [List.take_add_one, List.getElem?_set_self (by omega), List.take_set_of_le (Nat.le_refl _)]
      rfl
    rw [e, List.append_assoc] at this
    rw [show n + 6 * ((d + 1 : Nat) : Int) = n + 1 + 1 + 1 + 1 + 1 + 1 + 6 * (d : Int) by omega]
    exact this
theorem markFlatV_ev (l : List S77) (n : Int) (hl : l.length ≤ 4194304) (h0 : 0 ≤ n) (h1 : n ≤ 1073741824) : Ev (fun k => laws_markFlatS.f k l n) (n + 6 * (l.length : Int), marksF n l.length) := by
  have := markFlat_l0 l.length l 0 n (by omega) (by omega) hl h0 (by omega)
  simp only [laws_markFlatS.f]
  simpa using this
theorem markFlat_ev (l : List S77) (n : Int) (hl : l.length ≤ 4194304) (h0 : 0 ≤ n) (h1 : n ≤ 1073741824) : ∃ r, r.length = l.length ∧ Ev (fun k => laws_markFlatS.f k l n) (n + 6 * (l.length : Int), r) :=
  ⟨_, marksF_len _ _, markFlatV_ev l n hl h0 h1⟩
end Go.Proofs.Ytipikejhchpfnaa.Fl
