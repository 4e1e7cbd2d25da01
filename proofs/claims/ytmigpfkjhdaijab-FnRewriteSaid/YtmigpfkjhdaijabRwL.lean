/- What is rewritten once is less; one of two texts is less, or they are one. Plain Lean. -/
import Derived.Test.YtmigpfkjhdaijabRw3
namespace Go.Proofs.Ytmigpfkjhdaijab.Rw
set_option linter.unusedVariables false
set_option linter.unusedSimpArgs false
open Go.RowKit Go.Proofs.Ytmigpfkjhdaijab.RF Go.Proofs.YtmigpfkjhdaijabW.PrintWords Go.Proofs.YtmigpfkjhdaijabW.PrintLast

theorem bl_pre : ∀ (p a b : List UInt8), Op.bytesLess (p ++ a) (p ++ b) = Op.bytesLess a b
  | [], _, _ => rfl
  | x :: p, a, b => by
    have h : ¬ x < x := by simp
    simp [Op.bytesLess, bl_pre p a b]
theorem bl_post : ∀ (a b r : List UInt8), a.length = b.length → Op.bytesLess a b = true → Op.bytesLess (a ++ r) (b ++ r) = true
  | [], [], _, _, h => by simp [Op.bytesLess] at h
  | x :: a, y :: b, r, hl, h => by
    simp only [Op.bytesLess, Bool.or_eq_true, Bool.and_eq_true, List.cons_append] at h ⊢
    rcases h with h | h
    · exact .inl h
    · exact .inr ⟨h.1, bl_post a b r (by simpa using hl) h.2⟩
  | [], _ :: _, _, hl, _ => by simp at hl
  | _ :: _, [], _, hl, _ => by simp at hl
theorem bl_asym : ∀ (a b : List UInt8), Op.bytesLess a b = true → Op.bytesLess b a = true → False
  | [], [], h, _ => by simp [Op.bytesLess] at h
  | [], _ :: _, _, h => by simp [Op.bytesLess] at h
  | _ :: _, [], h, _ => by simp [Op.bytesLess] at h
  | x :: a, y :: b, h, k => by
    simp only [Op.bytesLess, Bool.or_eq_true, Bool.and_eq_true, decide_eq_true_eq, beq_iff_eq] at h k
    rcases h with h | h
    · rcases k with k | k
      · exact absurd (UInt8.lt_trans h k) (UInt8.lt_irrefl x)
      · rw [k.1] at h
        exact absurd h (UInt8.lt_irrefl x)
    · rcases k with k | k
      · rw [h.1] at k
        exact absurd k (UInt8.lt_irrefl y)
      · exact bl_asym a b h.2 k.2
theorem bl_total : ∀ (a b : List UInt8), a.length = b.length → Op.bytesLess a b = false → Op.bytesLess b a = false → a = b
  | [], [], _, _, _ => rfl
  | x :: a, y :: b, hl, h, k => by
    simp only [Op.bytesLess, Bool.or_eq_false_iff, Bool.and_eq_false_iff, decide_eq_false_iff_not] at h k
    have e : x = y := UInt8.le_antisymm (UInt8.not_lt.mp k.1) (UInt8.not_lt.mp h.1)
    subst e
    have h2 : Op.bytesLess a b = false := by rcases h.2 with h | h; simp at h; exact h
    have k2 : Op.bytesLess b a = false := by rcases k.2 with k | k; simp at k; exact k
    rw [bl_total a b (by simpa using hl) h2 k2]
  | [], _ :: _, hl, _, _ => by simp at hl
  | _ :: _, [], hl, _, _ => by simp at hl
theorem less_asym {a b : ByteArray} (h : less a b = true) (k : less b a = true) : False := by
  simp only [less, Bool.or_eq_true, Bool.and_eq_true, decide_eq_true_eq] at h k
  rcases h with h | h
  · rcases k with k | k <;> omega
  · rcases k with k | k
    · omega
    · exact bl_asym _ _ h.2 k.2
theorem less_total {a b : ByteArray} (h : less a b = false) (k : less b a = false) : a.toList = b.toList := by
  simp only [less, Bool.or_eq_false_iff, Bool.and_eq_false_iff, decide_eq_false_iff_not] at h k
  have e : a.size = b.size := by omega
  refine bl_total _ _ (by rw [size_toList, size_toList, e]) ?_ ?_
  · rcases h.2 with h | h
    · omega
    · exact h
  · rcases k.2 with k | k
    · omega
    · exact k
theorem toList_append (a b : ByteArray) : (a ++ b).toList = a.toList ++ b.toList := by
  rw [ByteArray.toList_eq, ByteArray.toList_eq, ByteArray.toList_eq, ByteArray.data_append, Array.toList_append]
theorem ext_split (s : ByteArray) (i m : Nat) (h : i + m ≤ s.size) : s.toList = (s.extract 0 i).toList ++ ((s.extract i (i + m)).toList ++ (s.extract (i + m) s.size).toList) := by
  have e : s = s.extract 0 i ++ (s.extract i (i + m) ++ s.extract (i + m) s.size) := by
    rw [← ByteArray.extract_eq_extract_append_extract (i + m) (by omega) (by omega), ← ByteArray.extract_eq_extract_append_extract i (by omega) (by omega), ByteArray.extract_zero_size]
  conv => lhs; rw [e]
  rw [toList_append, toList_append]
theorem onceAt_less {q : S59} {s t : ByteArray} {i : Nat} (hq : less q.f1 q.f0 = true) (hi : i + q.f0.size ≤ s.size) (h : onceAt q s i = some t) : less t s = true := by
  unfold onceAt at h
  rw [ext_ext s i _ hi] at h
  split at h
  · rename_i hf
    have hf := beq_iff_eq.mp hf
    obtain rfl := Option.some.inj h
    have hs := ext_split s i q.f0.size hi
    rw [hf] at hs
    have hz : ((s.extract 0 i ++ q.f1) ++ s.extract (i + q.f0.size) s.size).size = s.size - q.f0.size + q.f1.size := by
      rw [ByteArray.size_append, ByteArray.size_append, ext_size, ext_size]
      omega
    simp only [less, Bool.or_eq_true, Bool.and_eq_true, decide_eq_true_eq] at hq ⊢
    rcases hq with hq | hq
    · exact .inl (by omega)
    · refine .inr ⟨by omega, ?_⟩
      rw [hs, toList_append, toList_append, List.append_assoc, bl_pre]
      exact bl_post _ _ _ (by rw [size_toList, size_toList]; omega) hq.2
  · cases h
theorem onceL_less {l : List (S59)} (hl : goodL l = true) {s t : ByteArray} (h : t ∈ onceL l s) : less t s = true := by
  obtain ⟨q, hq, h⟩ := List.mem_flatMap.1 h
  obtain ⟨i, hi, h⟩ := List.mem_filterMap.1 h
  have hr := List.all_eq_true.1 (Bool.and_eq_true_iff.1 hl).1 q hq
  have hf := goodR_fine hr
  simp only [goodR, Bool.and_eq_true] at hr
  have := List.mem_range.1 hi
  exact onceAt_less hr.2.2.2 (by omega) h
end Go.Proofs.Ytmigpfkjhdaijab.Rw
