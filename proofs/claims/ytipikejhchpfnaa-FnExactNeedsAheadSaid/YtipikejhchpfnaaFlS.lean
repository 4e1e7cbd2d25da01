/- Sets of names: a list of numbers that rises, and a row of bools. Plain Lean. -/
import Derived.Test.YtipikejhchpfnaaFl2
namespace Go.Proofs.Ytipikejhchpfnaa.Fl
set_option linter.unusedVariables false
set_option linter.unusedSimpArgs false
open Go.RowKit Go.Proofs.Ytipikejhchpfnaa.NA Go.Proofs.YtipikejhchpfnaaW.PrintWords Go.Proofs.YtipikejhchpfnaaW.PrintLast

/-- The places of a row of bools that are true. -/
def listFrom : Nat → List Bool → List Int
  | _, [] => []
  | i, x :: xs => if x = true then (i : Int) :: listFrom (i + 1) xs else listFrom (i + 1) xs
/-- A number put to its place in a list that rises, once. -/
def putV (v : Int) : List Int → List Int
  | [] => [v]
  | y :: ys => if y < v then y :: putV v ys else if y = v then y :: ys else v :: y :: ys
theorem listFrom_ge : ∀ (b : List Bool) (i : Nat) (y : Int), y ∈ listFrom i b → (i : Int) ≤ y
  | [], _, _, h => by simp [listFrom] at h
  | x :: xs, i, y, h => by
    simp only [listFrom] at h
    split at h
    · rcases List.mem_cons.mp h with h | h
      · omega
      · have := listFrom_ge xs (i + 1) y h
        omega
    · have := listFrom_ge xs (i + 1) y h
      omega
theorem putV_low {v : Int} : ∀ {l : List Int}, (∀ y ∈ l, v < y) → putV v l = v :: l
  | [], _ => rfl
  | y :: ys, h => by
    have := h y (by simp)
    simp only [putV]
    rw [if_neg (by omega), if_neg (by omega)]
theorem put_list : ∀ (b : List Bool) (i n : Nat), n < b.length → putV ((i + n : Nat) : Int) (listFrom i b) = listFrom i (b.set n true)
  | [], _, _, h => by simp at h
  | x :: xs, i, 0, _ => by
    simp only [List.set_cons_zero, listFrom, if_true, Nat.add_zero]
    split
    · simp only [putV]
      rw [if_neg (by omega)]
      simp
    · exact putV_low fun y hy => by
        have := listFrom_ge xs (i + 1) y hy
        omega
  | x :: xs, i, n + 1, h => by
    simp only [List.set_cons_succ, listFrom]
    have ih := put_list xs (i + 1) n (by simpa using h)
    rw [show i + 1 + n = i + (n + 1) by omega] at ih
    split
    · simp only [putV]
      rw [if_pos (by omega), ih]
    · exact ih
theorem mem_list : ∀ (b : List Bool) (i n : Nat), (((i + n : Nat) : Int) ∈ listFrom i b) ↔ b[n]? = some true
  | [], _, _ => by simp [listFrom]
  | x :: xs, i, 0 => by
    have hn : ¬ ((i : Int) ∈ listFrom (i + 1) xs) := fun h => by
      have := listFrom_ge xs (i + 1) _ h
      omega
    simp only [listFrom, Nat.add_zero]
    split <;> simp_all
  | x :: xs, i, n + 1 => by
    have ih := mem_list xs (i + 1) n
    rw [show i + 1 + n = i + (n + 1) by omega] at ih
    simp only [listFrom]
    split
    · rw [List.mem_cons, ih]
      simp
      omega
    · rw [ih]
      simp
theorem putV_len (v : Int) : ∀ (l : List Int), (putV v l).length ≤ l.length + 1
  | [] => by simp [putV]
  | y :: ys => by
    have := putV_len v ys
    simp only [putV]
    split
    · simp; omega
    · split <;> simp
theorem listFrom_len : ∀ (b : List Bool) (i : Nat), (listFrom i b).length ≤ b.length
  | [], _ => by simp [listFrom]
  | x :: xs, i => by
    have := listFrom_len xs (i + 1)
    simp only [listFrom]
    split <;> simp <;> omega
theorem take_step {l : List Int} {i : Nat} {x : Int} (hx : l[i]? = some x) : l.take (i + 1) = l.take i ++ [x] := by
  rw [List.take_add_one, hx]
  rfl
theorem put_l0 (v : Int) (l : List Int) (hl : l.length ≤ 1000) (d : Nat) : ∀ (i : Nat), l.length - i = d → i ≤ l.length → Ev (fun k => spec_l1Put.l0 k l v i) (l.take i ++ putV v (l.drop i)) := by
  have e : ∀ i : Nat, ((i : Int)).toNat = i := fun i => by omega
  induction d with
  | zero =>
    intro i hd hi
    refine ev_succ (ev_neg (by omega) (ev_pos (by omega) (ev_pos (by omega) (ev_bindc rfl (ev_pos ?_ (ev_bindc rfl (ev_pos ?_ (ev_bindc rfl (ev_bindc rfl (ev_pos ?_ (ev_const' fun _ => ?_)))))))))))
    · simp; omega
    · simp; omega
    · simp; omega
    · rw [e, show i = l.length by omega]
      simp [putV]
  | succ d ih =>
    intro i hd hi
    obtain ⟨x, hx, hdrop, hm⟩ := drop_step (show i < l.length by omega)
    refine ev_succ (ev_pos (by omega) (ev_pos (by omega) ?_))
    simp only [rdI hx]
    rw [inc (by omega) (by omega)]
    by_cases c : x < v
    · refine ev_pos c ?_
      rw [hdrop, putV, if_pos c]
      have := ih (i + 1) (by omega) (by omega)
      rw [take_step hx, List.append_assoc] at this
      exact this
    · refine ev_neg c ?_
      by_cases c1 : x = v
      · refine ev_pos c1 ?_
        rw [hdrop, putV, if_neg c, if_pos c1, ← hdrop, List.take_append_drop]
        exact Ev.now _
      · refine ev_neg c1 (ev_pos (by omega) (ev_bindc rfl (ev_pos ?_ (ev_bindc rfl (ev_pos ?_ (ev_bindc rfl (ev_bindc rfl (ev_pos ?_ (ev_const' fun _ => ?_)))))))))
        · simp; omega
        · simp; omega
        · simp; omega
        · rw [e, hdrop, putV, if_neg c, if_neg c1]
          simp
theorem put_ev (v : Int) (l : List Int) (hl : l.length ≤ 1000) : Ev (fun k => spec_l1Put.f k l v) (putV v l) := put_l0 v l hl l.length 0 (by omega) (by omega)
theorem rdB {b : List Bool} {i : Nat} {x : Bool} (h : b[i]? = some x) : rdOf false b (i : Int) = x := by
  simp [rdOf, h]
theorem listOf_l0 (b : List Bool) (hb : b.length ≤ 1000) (d : Nat) : ∀ (i : Nat) (o : List Int), b.length - i = d → i ≤ b.length → o.length ≤ i →
    Ev (fun k => impl_listOf.l0 k o b (b.length : Int) i) (o ++ listFrom i (b.drop i)) := by
  induction d with
  | zero =>
    intro i o hd hi ho
    refine ev_succ (ev_neg (by omega) ?_)
    rw [show i = b.length by omega, List.drop_length]
    exact ev_const' fun _ => by simp [listFrom]
  | succ d ih =>
    intro i o hd hi ho
    obtain ⟨x, hx, hdrop, hm⟩ := drop_step (show i < b.length by omega)
    refine ev_succ (ev_pos (by omega) (ev_pos (by omega) (ev_pos (by omega) ?_)))
    simp only [rdB hx]
    rw [hdrop, listFrom, inc (by omega) (by omega)]
    by_cases c : x = true
    · refine ev_pos c (ev_pos (by omega) ?_)
      rw [if_pos c]
      have := ih (i + 1) (o ++ [(i : Int)]) (by omega) (by omega) (by simp; omega)
      rw [List.append_assoc] at this
      exact this
    · refine ev_neg c ?_
      rw [if_neg c]
      exact ih (i + 1) o (by omega) (by omega) (by omega)
theorem listOf_ev (b : List Bool) (hb : b.length ≤ 1000) : Ev (fun k => impl_listOf.f k b) (listFrom 0 b) := listOf_l0 b hb b.length 0 [] (by omega) (by omega) (by simp)
end Go.Proofs.Ytipikejhchpfnaa.Fl
