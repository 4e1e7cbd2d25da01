/- What rewriting to the end answers: where all critical pairs come to one end, every way of rewriting comes to one text. Plain Lean. -/
import Derived.Test.YtmigpfkjhdaijabNw1
import Derived.Test.YtmigpfkjhdaijabRwOf
import Derived.Test.YtmigpfkjhdaijabRw6
namespace Go.Proofs.Ytmigpfkjhdaijab.Nw
set_option linter.unusedVariables false
set_option linter.unusedSimpArgs false
open Go.RowKit Go.Proofs.Ytmigpfkjhdaijab.Rw Go.Proofs.Ytmigpfkjhdaijab.RF Go.Proofs.YtmigpfkjhdaijabW.PrintWords Go.Proofs.YtmigpfkjhdaijabW.PrintLast

/-- What the rules do to texts. -/
def RL (l : List (S59)) (a b : T) : Prop := ∃ q ∈ l, q.f0.toList = a ∧ q.f1.toList = b
theorem ext_list (s : ByteArray) (i j : Nat) : (s.extract i j).toList = (s.toList.drop i).take (j - i) := by
  have h1 : (s.extract i j).data = s.data.extract i j := ByteArray.data_extract
  rw [ByteArray.toList_eq, ByteArray.toList_eq, h1, Array.toList_extract, List.extract_eq_take_drop]
theorem list_inj {a b : ByteArray} (h : a.toList = b.toList) : a = b := by
  rw [ByteArray.toList_eq, ByteArray.toList_eq] at h
  exact ByteArray.ext (Array.toList_inj.1 h)
theorem once_of {l : List (S59)} {s t : ByteArray} (hl : Fine l) (h : t ∈ onceL l s) : St (RL l) s.toList t.toList := by
  obtain ⟨q, hq, h⟩ := List.mem_flatMap.1 h
  obtain ⟨i, hi, h⟩ := List.mem_filterMap.1 h
  have hi := List.mem_range.1 hi
  have hz := hl.2 q hq
  unfold onceAt at h
  rw [ext_ext s i _ (by omega)] at h
  split at h
  · rename_i hf
    have hf := beq_iff_eq.mp hf
    obtain rfl := Option.some.inj h
    have hs := ext_split s i q.f0.size (by omega)
    rw [hf] at hs
    exact ⟨(s.extract 0 i).toList, q.f0.toList, q.f1.toList, (s.extract (i + q.f0.size) s.size).toList, ⟨q, hq, rfl, rfl⟩, hs, by rw [toList_append, toList_append, List.append_assoc]⟩
  · cases h
theorem of_once {l : List (S59)} {s : ByteArray} {w : T} (h : St (RL l) s.toList w) : onceL l s ≠ [] := by
  obtain ⟨p, a, b, q, ⟨r, hr, rfl, rfl⟩, hs, _⟩ := h
  have hn : s.size = p.length + (r.f0.size + q.length) := by
    have := congrArg List.length hs
    rw [size_toList, List.length_append, List.length_append, size_toList] at this
    exact this
  have he : (s.extract p.length (p.length + r.f0.size)).toList = r.f0.toList := by
    rw [ext_list, hs, List.drop_left, show p.length + r.f0.size - p.length = r.f0.toList.length by rw [size_toList]; omega, List.take_left]
  have hm : (s.extract 0 p.length ++ r.f1) ++ s.extract (p.length + r.f0.size) s.size ∈ onceL l s := by
    refine List.mem_flatMap.2 ⟨r, hr, List.mem_filterMap.2 ⟨p.length, List.mem_range.2 (by omega), ?_⟩⟩
    unfold onceAt
    rw [ext_ext s _ _ (by omega), if_pos (beq_iff_eq.2 he)]
  exact List.ne_nil_of_mem hm
theorem nf_of {l : List (S59)} {s : ByteArray} (h : onceL l s = []) : Nf (RL l) s.toList := fun w hw => of_once hw h
theorem less_list {a b : ByteArray} : less a b = true ↔ a.toList.length < b.toList.length ∨ a.toList.length = b.toList.length ∧ Op.bytesLess a.toList b.toList = true := by
  simp only [less, Bool.or_eq_true, Bool.and_eq_true, decide_eq_true_eq, size_toList]
  constructor
  · rintro (h | h)
    · exact .inl (by omega)
    · exact .inr ⟨by omega, h.2⟩
  · rintro (h | h)
    · exact .inl (by omega)
    · exact .inr ⟨by omega, h.2⟩
theorem bl_trans : ∀ (a b c : T), Op.bytesLess a b = true → Op.bytesLess b c = true → a.length = b.length → b.length = c.length → Op.bytesLess a c = true
  | [], [], _, h, _, _, _ => by simp [Op.bytesLess] at h
  | x :: a, y :: b, z :: c, h, k, e, f => by
    simp only [Op.bytesLess, Bool.or_eq_true, Bool.and_eq_true, decide_eq_true_eq, beq_iff_eq] at h k ⊢
    rcases h with h | h
    · rcases k with k | k
      · exact .inl (UInt8.lt_trans h k)
      · exact .inl (k.1 ▸ h)
    · rcases k with k | k
      · exact .inl (h.1 ▸ k)
      · exact .inr ⟨h.1.trans k.1, bl_trans a b c h.2 k.2 (by simpa using e) (by simpa using f)⟩
  | _ :: _, _ :: _, [], _, _, _, f => by simp at f
  | [], _ :: _, _, _, _, e, _ => by simp at e
  | _ :: _, [], _, _, _, e, _ => by simp at e
theorem less_trans {a b c : ByteArray} (h : less a b = true) (k : less b c = true) : less a c = true := by
  rw [less_list] at h k ⊢
  rcases h with h | h
  · rcases k with k | k
    · exact .inl (by omega)
    · exact .inl (by omega)
  · rcases k with k | k
    · exact .inl (by omega)
    · exact .inr ⟨by omega, bl_trans _ _ _ h.2 k.2 h.1 k.1⟩
theorem ends_of {l : List (S59)} (hl : goodL l = true) : WellFounded fun t s => St (RL l) s t := by
  refine ends fun s t h => ?_
  obtain ⟨p, a, b, q, ⟨r, hr, rfl, rfl⟩, rfl, rfl⟩ := h
  have hg := List.all_eq_true.1 (Bool.and_eq_true_iff.1 hl).1 r hr
  simp only [goodR, Bool.and_eq_true] at hg
  have hq := less_list.1 hg.2.2.2
  simp only [List.length_append]
  rcases hq with hq | hq
  · exact .inl (by omega)
  · exact .inr ⟨by omega, by rw [bl_pre]; exact bl_post _ _ _ hq.1 hq.2⟩
/-! ### to the end -/
theorem norm_of {l : List (S59)} (hg : goodL l = true) (last : Bool) (d : Nat) : ∀ (s : ByteArray) (n : Int), s.size ≤ 1000 → (normV l last d s n).2.2 = true →
    Rs (RL l) s.toList (normV l last d s n).1.toList ∧ onceL l (normV l last d s n).1 = [] ∧ ((normV l last d s n).2.1 = n ∧ (normV l last d s n).1 = s ∨ n < (normV l last d s n).2.1 ∧ less (normV l last d s n).1 s = true) := by
  have hl := goodL_fine hg
  induction d with
  | zero => exact fun s n hs h => by simp [normV] at h
  | succ d ih =>
    intro s n hs h
    unfold normV at h ⊢
    by_cases c : onceL l s = []
    · rw [if_pos c] at h ⊢
      exact ⟨.refl _, c, .inl ⟨rfl, rfl⟩⟩
    · rw [if_neg c] at h ⊢
      have hm := pick_mem (last := last) c (once_len hl hs)
      have hz := onceL_size hl hm
      obtain ⟨h1, h2, h3⟩ := ih _ _ (by omega) h
      have hlt := onceL_less hg hm
      refine ⟨.head (once_of hl hm) h1, h2, .inr ?_⟩
      rcases h3 with ⟨h3, h4⟩ | ⟨h3, h4⟩
      · exact ⟨by omega, by rw [h4]; exact hlt⟩
      · exact ⟨by omega, less_trans h4 hlt⟩
theorem conf_of {l : List (S59)} : ∀ (ps : List (List ByteArray)) (c : Bool), (confV l ps c).1 = true → (confV l ps c).2 = true → c = true ∧ ∀ p ∈ ps, (n0 l p 0).2.2 = true ∧ (n0 l p 1).2.2 = true ∧ (n0 l p 0).1.toList = (n0 l p 1).1.toList
  | [], c, h, _ => ⟨h, fun p hp => by simp at hp⟩
  | p :: ps, c, h, k => by
    unfold confV at h k
    by_cases c1 : (n0 l p 0).2.2 = true
    · rw [if_pos c1] at h k
      by_cases c2 : (n0 l p 1).2.2 = true
      · rw [if_pos c2] at h k
        by_cases c3 : c = true
        · rw [if_pos c3] at h k
          obtain ⟨h1, h2⟩ := conf_of ps _ h k
          refine ⟨c3, fun x hx => ?_⟩
          rcases List.mem_cons.1 hx with rfl | hx
          · exact ⟨c1, c2, beq_iff_eq.1 h1⟩
          · exact h2 x hx
        · rw [if_neg c3] at h k
          exact absurd (conf_of ps _ h k).1 Bool.false_ne_true
      · rw [if_neg c2] at k
        exact absurd k Bool.false_ne_true
    · rw [if_neg c1] at k
      exact absurd k Bool.false_ne_true
theorem get_of {α : Type} {l : List α} {z x : α} (h : x ∈ l) : ∃ i, i < l.length ∧ l.getD i z = x := by
  obtain ⟨i, hi, rfl⟩ := List.mem_iff_getElem.1 h
  exact ⟨i, hi, by rw [List.getD_eq_getElem?_getD, List.getElem?_eq_getElem hi, Option.getD_some]⟩
theorem in_crit {l : List (S59)} {i k : Nat} (hi : i < l.length) (hk : k < l.length) {p : List ByteArray} (h : p ∈ pairsV (l.getD i z59) (l.getD k z59) ((i : Int) == (k : Int))) : p ∈ critV l :=
  List.mem_flatMap.2 ⟨i, List.mem_range.2 hi, List.mem_flatMap.2 ⟨k, List.mem_range.2 hk, h⟩⟩
theorem jn_pair {l : List (S59)} (hg : goodL l = true) (H : ∀ p ∈ critV l, (n0 l p 0).2.2 = true ∧ (n0 l p 1).2.2 = true ∧ (n0 l p 0).1.toList = (n0 l p 1).1.toList) {x y : ByteArray} (h : [x, y] ∈ critV l) : Jn (RL l) x.toList y.toList := by
  obtain ⟨h1, h2, h3⟩ := H _ h
  obtain ⟨x', y', e, hx, hy⟩ := critV_two (goodL_little hg) h
  obtain ⟨rfl, rfl⟩ : x = x' ∧ y = y' := by simpa using e
  have a := (norm_of hg false 401 x 0 hx h1).1
  have b := (norm_of hg false 401 y 0 hy h2).1
  have h3' : (normV l false 401 x 0).1.toList = (normV l false 401 y 0).1.toList := h3
  rw [← h3'] at b
  exact ⟨_, a, b⟩
theorem crit_of {l : List (S59)} (hg : goodL l = true) (h1 : (isConfV l).1 = true) (h2 : (isConfV l).2 = true) : Crit (RL l) := by
  unfold isConfV at h1 h2
  rw [if_pos hg] at h1 h2
  have H := (conf_of _ _ h1 h2).2
  have hl := goodL_fine hg
  constructor
  · rintro a b c d x y z ⟨q, hq, rfl, rfl⟩ ⟨r, hr, rfl, rfl⟩ ha hc x0 y0 z0
    obtain ⟨i, hi, rfl⟩ := get_of (z := z59) hq
    obtain ⟨k, hk, rfl⟩ := get_of (z := z59) hr
    have na := congrArg List.length ha
    have nc := congrArg List.length hc
    rw [size_toList, List.length_append] at na nc
    have x1 := List.length_pos_iff.2 x0
    have y1 := List.length_pos_iff.2 y0
    have z1 := List.length_pos_iff.2 z0
    have e1 : ((l.getD i z59).f0.extract ((l.getD i z59).f0.size - y.length) (l.getD i z59).f0.size).toList = y := by
      rw [ext_list, ha, na, show x.length + y.length - y.length = x.length by omega, List.drop_left, List.take_of_length_le (by omega)]
    have e2 : ((l.getD k z59).f0.extract 0 y.length).toList = y := by
      rw [ext_list, hc, List.drop_zero, Nat.sub_zero, List.take_left]
    have e3 : ((l.getD k z59).f0.extract y.length (l.getD k z59).f0.size).toList = z := by
      rw [ext_list, hc, List.drop_left, List.take_of_length_le (by omega)]
    have e4 : ((l.getD i z59).f0.extract 0 ((l.getD i z59).f0.size - y.length)).toList = x := by
      rw [ext_list, ha, List.drop_zero, show (l.getD i z59).f0.size - y.length - 0 = x.length by omega, List.take_left]
    have hm : [(l.getD i z59).f1 ++ (l.getD k z59).f0.extract y.length (l.getD k z59).f0.size, (l.getD i z59).f0.extract 0 ((l.getD i z59).f0.size - y.length) ++ (l.getD k z59).f1] ∈ critV l := by
      refine in_crit hi hk (List.mem_append.2 (.inl (List.mem_filterMap.2 ⟨y.length, ?_, ?_⟩)))
      · refine List.mem_iff_getElem.2 ⟨y.length - 1, by rw [List.length_drop, List.length_range]; omega, ?_⟩
        rw [List.getElem_drop, List.getElem_range]
        omega
      · unfold ovAt
        rw [if_pos (e1.trans e2.symm)]
    have := jn_pair hg H hm
    rw [toList_append, toList_append, e3, e4] at this
    exact this
  · rintro a b c d x z ⟨q, hq, rfl, rfl⟩ ⟨r, hr, rfl, rfl⟩ ha
    obtain ⟨i, hi, rfl⟩ := get_of (z := z59) hq
    obtain ⟨k, hk, rfl⟩ := get_of (z := z59) hr
    have na := congrArg List.length ha
    rw [size_toList, List.length_append, List.length_append, size_toList] at na
    by_cases hik : i = k
    · subst hik
      have x0 : x = [] := List.eq_nil_of_length_eq_zero (by omega)
      have z0 : z = [] := List.eq_nil_of_length_eq_zero (by omega)
      subst x0 z0
      simp only [List.nil_append, List.append_nil]
      exact .refl _
    · have hz := (hl.2 _ hr).1
      have e1 : at_ (l.getD i z59).f0 (l.getD k z59).f0 x.length = true := by
        unfold at_
        rw [decide_eq_true (by omega), Bool.true_and, beq_iff_eq, ext_list, ha, List.drop_left, show x.length + (l.getD k z59).f0.size - x.length = (l.getD k z59).f0.toList.length by rw [size_toList]; omega, List.take_left]
      have e2 : ((l.getD i z59).f0.extract 0 x.length).toList = x := by
        rw [ext_list, ha, List.drop_zero, Nat.sub_zero, List.take_left]
      have e3 : ((l.getD i z59).f0.extract (x.length + (l.getD k z59).f0.size) (l.getD i z59).f0.size).toList = z := by
        rw [ext_list, ha, ← List.append_assoc, show x.length + (l.getD k z59).f0.size = (x ++ (l.getD k z59).f0.toList).length by rw [List.length_append, size_toList], List.drop_left, List.take_of_length_le (by rw [List.length_append, size_toList]; omega)]
      have hm : [(l.getD i z59).f1, ((l.getD i z59).f0.extract 0 x.length ++ (l.getD k z59).f1) ++ (l.getD i z59).f0.extract (x.length + (l.getD k z59).f0.size) (l.getD i z59).f0.size] ∈ critV l := by
        refine in_crit hi hk (List.mem_append.2 (.inr ?_))
        rw [if_neg (by simp; omega)]
        refine List.mem_filterMap.2 ⟨x.length, List.mem_range.2 (by omega), ?_⟩
        unfold inAt
        rw [if_pos e1]
      have := jn_pair hg H hm
      rw [toList_append, toList_append, e2, e3, List.append_assoc] at this
      exact this
/-- Where the rules are confluent, all ends of one text are one. -/
theorem one_end {l : List (S59)} (hg : goodL l = true) (h1 : (isConfV l).1 = true) (h2 : (isConfV l).2 = true) {s t u : ByteArray} (ht : Rs (RL l) s.toList t.toList) (hu : Rs (RL l) s.toList u.toList) (nt : onceL l t = []) (nu : onceL l u = []) : t.toList = u.toList :=
  unique (ends_of hg) (crit_of hg h1 h2) ht hu (nf_of nt) (nf_of nu)
/-! ### letters -/
def Lets (s : T) : Prop := ∀ x ∈ s, 97 ≤ x.toNat ∧ x.toNat ≤ 100
theorem text_list {s : ByteArray} {m : Int} : textOK s m = true ↔ Lets s.toList ∧ (s.size : Int) ≤ m := by
  unfold textOK Lets
  rw [Bool.and_eq_true, decide_eq_true_iff, decide_eq_true_iff]
  refine and_congr ⟨fun h x hx => ?_, fun h i hi => ?_⟩ Iff.rfl
  · obtain ⟨i, hi, rfl⟩ := List.mem_iff_getElem.1 hx
    have hi2 : i < s.size := by rw [← size_toList]; exact hi
    have := h i hi2
    have e := bt_at s (i : Int) (by simpa using hi2)
    simp only [Int.toNat_natCast] at e
    have e2 : s.toList[i] = s[i] := by
      simp only [ByteArray.toList_eq, Array.getElem_toList]
      rfl
    rw [e2]
    omega
  · have e := bt_at s (i : Int) (by simpa using hi)
    simp only [Int.toNat_natCast] at e
    have hm : s[i] ∈ s.toList := by
      rw [ByteArray.toList_eq]
      exact List.mem_iff_getElem.2 ⟨i, by simpa using hi, by rw [Array.getElem_toList]; rfl⟩
    have := h _ hm
    omega
theorem lets_step {l : List (S59)} (hg : goodL l = true) {s t : T} (h : St (RL l) s t) (hs : Lets s) : Lets t ∧ t.length ≤ s.length := by
  obtain ⟨p, a, b, q, ⟨r, hr, rfl, rfl⟩, rfl, rfl⟩ := h
  have hg := List.all_eq_true.1 (Bool.and_eq_true_iff.1 hg).1 r hr
  have hz := goodR_fine hg
  simp only [goodR, Bool.and_eq_true] at hg
  have h1 := (text_list.1 hg.2.2.1).1
  refine ⟨fun x hx => ?_, ?_⟩
  · rcases List.mem_append.1 hx with hx | hx
    · exact hs x (List.mem_append.2 (.inl hx))
    · rcases List.mem_append.1 hx with hx | hx
      · exact h1 x hx
      · exact hs x (List.mem_append.2 (.inr (List.mem_append.2 (.inr hx))))
  · simp only [List.length_append, size_toList]
    omega
theorem lets_rs {l : List (S59)} (hg : goodL l = true) {s t : T} (h : Rs (RL l) s t) : Lets s → Lets t ∧ t.length ≤ s.length := by
  induction h with
  | refl s => exact fun h => ⟨h, Nat.le_refl _⟩
  | head h _ ih =>
    intro hs
    have h1 := lets_step hg h hs
    have h2 := ih h1.1
    exact ⟨h2.1, by omega⟩
theorem text_rs {l : List (S59)} (hg : goodL l = true) {s t : ByteArray} {m : Int} (h : Rs (RL l) s.toList t.toList) (hs : textOK s m = true) : textOK t m = true := by
  have h0 := text_list.1 hs
  have h1 := lets_rs hg h h0.1
  rw [size_toList, size_toList] at h1
  exact text_list.2 ⟨h1.1, by omega⟩
end Go.Proofs.Ytmigpfkjhdaijab.Nw
