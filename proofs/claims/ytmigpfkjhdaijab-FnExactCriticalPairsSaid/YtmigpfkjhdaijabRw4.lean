/- Marks: what a law writes into rows to see who owns them. Plain Lean. -/
import Derived.Test.YtmigpfkjhdaijabRw3
import Derived.Test.YtmigpfkjhdaijabRw2
namespace Go.Proofs.Ytmigpfkjhdaijab.Rw
set_option linter.unusedVariables false
set_option linter.unusedSimpArgs false
open Go.RowKit Go.Proofs.Ytmigpfkjhdaijab.CP Go.Proofs.YtmigpfkjhdaijabW.PrintWords Go.Proofs.YtmigpfkjhdaijabW.PrintLast

theorem strOfNums_one (x : Int) : (strOfNums ([x] : List Int)).size = 1 := by
  unfold strOfNums
  rfl
theorem mark_l0 (n : Nat) : ∀ (acc : ByteArray), acc.size + n ≤ 100000000 → ∃ t, Ev (fun k => laws_markText.l0 k n acc) t := by
  induction n using Nat.strongRecOn with
  | _ n ih =>
    intro acc ha
    by_cases c : n = 0
    · subst c
      exact ⟨_, ev_succ (ev_neg (by omega) (ev_pos (by omega) (Ev.now _)))⟩
    · have e : wrap64 (Int.tdiv (n : Int) 10) = ((n / 10 : Nat) : Int) := by
        rw [Int.tdiv_eq_ediv_of_nonneg (by omega), wrap_id (by omega) (by omega)]
        omega
      obtain ⟨t, ht⟩ := ih (n / 10) (by omega) (strOfNums ([(wrap64 (48 + (Int.tmod (n : Int) 10))) % 256] : List Int) ++ acc) (by rw [ByteArray.size_append, strOfNums_one]; omega)
      refine ⟨t, ev_succ (ev_pos (by omega) (ev_bindc rfl (ev_pos ?_ ?_)))⟩
      · rw [strOfNums_one]
        omega
      · rw [e]
        exact ht
theorem mark_some (n : Nat) (hn : n ≤ 10000000) : ∃ t, Ev (fun k => laws_markText.f k n) t := by
  by_cases c : (n : Int) ≤ 0
  · exact ⟨_, ev_pos c (Ev.now _)⟩
  · obtain ⟨t, ht⟩ := mark_l0 n (⟨#[]⟩ : ByteArray) (by show 0 + n ≤ _; omega)
    exact ⟨t, ev_neg c ht⟩
open Classical in
/-- The text of a mark. -/
noncomputable def mT (n : Nat) : ByteArray := if h : n ≤ 10000000 then Classical.choose (mark_some n h) else ByteArray.empty
theorem mark_ev (n : Nat) (hn : n ≤ 10000000) : Ev (fun k => laws_markText.f k n) (mT n) := by
  unfold mT
  rw [dif_pos hn]
  exact Classical.choose_spec (mark_some n hn)

/-! ### texts in a row -/
noncomputable def marked (n : Nat) : Nat → List ByteArray
  | 0 => []
  | d + 1 => mT n :: marked (n + 1) d
theorem marked_length : ∀ (d n : Nat), (marked n d).length = d
  | 0, _ => rfl
  | d + 1, n => by simp [marked, marked_length d (n + 1)]
theorem markS_l0 (l : List ByteArray) (hl : l.length ≤ 1000000) (d : Nat) : ∀ (pre : List ByteArray) (i n : Nat), pre.length = i → l.length - i = d → i ≤ l.length → n + d ≤ 10000000 →
    Ev (fun k => laws_markStringS.l0 k (pre ++ l.drop i) n i) (((n + d : Nat) : Int), pre ++ marked n d) := by
  induction d with
  | zero =>
    intro pre i n hp hd hi hn
    have e : l.drop i = [] := List.drop_eq_nil_of_le (by omega)
    rw [e]
    exact ev_succ (ev_neg (by simp; omega) (Ev.now _))
  | succ d ih =>
    intro pre i n hp hd hi hn
    have hi2 : i < l.length := by omega
    have er := rd_drop l ByteArray.empty i hi2
    refine ev_succ (ev_pos ?_ (Ev.bind (mark_ev n (by omega)) (ev_pos (by omega) ?_)))
    · rw [List.length_append, List.length_drop]; omega
    · have e : (pre ++ l.drop i).set ((i : Int)).toNat (mT n) = (pre ++ [mT n]) ++ l.drop (i + 1) := by
        rw [Int.toNat_natCast, List.set_append_right _ _ (by omega), hp, Nat.sub_self, er, List.set_cons_zero, List.append_assoc]
        rfl
      rw [e, inc (by omega) (by omega), inc (by omega) (by omega)]
      have h := ih (pre ++ [mT n]) (i + 1) (n + 1) (by simp [hp]) (by omega) (by omega) (by omega)
      have e2 : n + 1 + d = n + (d + 1) := by omega
      have e3 : pre ++ marked n (d + 1) = (pre ++ [mT n]) ++ marked (n + 1) d := by simp [marked]
      rw [e2] at h
      rw [e3]
      exact h
theorem markS_ev (l : List ByteArray) (hl : l.length ≤ 1000000) : Ev (fun k => laws_markStringS.f k l 1) (((1 + l.length : Nat) : Int), marked 1 l.length) := by
  have h := markS_l0 l hl l.length [] 0 1 rfl (by omega) (by omega) (by omega)
  exact h
theorem heldS_l0 (l : List ByteArray) (hl : l.length ≤ 1000000) (d : Nat) : ∀ (i n : Nat), l.length - i = d → i ≤ l.length → n + d ≤ 10000000 → l.drop i = marked n d →
    Ev (fun k => laws_heldStringS.l0 k l n i) ((n + d : Nat) : Int) := by
  induction d with
  | zero => exact fun i n hd hi hn _ => ev_succ (ev_neg (by omega) (Ev.now _))
  | succ d ih =>
    intro i n hd hi hn he
    have hi2 : i < l.length := by omega
    have er := rd_drop l ByteArray.empty i hi2
    rw [er] at he
    unfold marked at he
    obtain ⟨h1, h2⟩ := List.cons.inj he
    have e : rdOf ByteArray.empty l (i : Int) = mT n := h1
    refine ev_succ (ev_pos (by omega) (ev_pos (by omega) (Ev.bind (mark_ev n (by omega)) (ev_pos (by rw [e]) ?_))))
    rw [inc (by omega) (by omega), inc (by omega) (by omega)]
    have h := ih (i + 1) (n + 1) (by omega) (by omega) (by omega) h2
    have e2 : n + 1 + d = n + (d + 1) := by omega
    rw [e2] at h
    exact h
theorem heldS_ev (m : Nat) (hm : m ≤ 1000000) : Ev (fun k => laws_heldStringS.f k (marked 1 m) 1) ((1 + m : Nat) : Int) :=
  heldS_l0 (marked 1 m) (by rw [marked_length]; exact hm) m 0 1 (by rw [marked_length]; omega) (by omega) (by omega) rfl
theorem eqS_l0 (l : List ByteArray) (hn : l.length ≤ 1000000) (d : Nat) : ∀ (i : Nat), l.length - i = d → i ≤ l.length → Ev (fun k => laws_eqStringS.l0 k l l i) true := by
  induction d with
  | zero => exact fun i hd hi => ev_succ (ev_neg (by omega) (Ev.now _))
  | succ d ih =>
    intro i hd hi
    refine ev_succ (ev_pos (by omega) (ev_pos (by omega) (ev_pos (by omega) (ev_pos rfl ?_))))
    rw [inc (by omega) (by omega)]
    exact ih (i + 1) (by omega) (by omega)
theorem eqS_ev (l : List ByteArray) (hn : l.length ≤ 1000000) : Ev (fun k => laws_eqStringS.f k l l) true :=
  ev_pos rfl (eqS_l0 l hn l.length 0 (by omega) (by omega))

/-! ### rules in a row -/
theorem markR_l0 (m : Nat) (hm : m ≤ 2000000) (d : Nat) : ∀ (l : List (S59)) (i n : Nat), l.length = m → m - i = d → i ≤ m → n + 2 * d ≤ 10000000 →
    ∃ q, Ev (fun k => laws_markRuleS.l0 k l n i) (((n + 2 * d : Nat) : Int), q) := by
  induction d with
  | zero => exact fun l i n hl hd hi hn => ⟨l, ev_succ (ev_neg (by omega) (Ev.now _))⟩
  | succ d ih =>
    intro l i n hl hd hi hn
    obtain ⟨q, hq⟩ := ih ((l.set ((i : Int)).toNat (⟨mT n, (rd_T59 l i).f1⟩ : S59)).set ((i : Int)).toNat (⟨(rd_T59 (l.set ((i : Int)).toNat (⟨mT n, (rd_T59 l i).f1⟩ : S59)) i).f0, mT (n + 1)⟩ : S59)) (i + 1) (n + 1 + 1) (by simp [hl]) (by omega) (by omega) (by omega)
    have e2 : n + 1 + 1 + 2 * d = n + 2 * (d + 1) := by omega
    rw [e2] at hq
    refine ⟨q, ev_succ (ev_pos (by omega) (Ev.bind (mark_ev n (by omega)) (ev_pos (by omega) (ev_bindc rfl ?_))))⟩
    rw [inc (by omega) (by omega)]
    refine Ev.bind (mark_ev (n + 1) (by omega)) ?_
    rw [show ((n : Int) + 1) = ((n + 1 : Nat) : Int) from rfl, inc (by omega) (by omega), inc (by omega) (by omega)]
    exact hq
theorem markR_ev (l : List (S59)) (hl : l.length ≤ 1048576) : ∃ q, Ev (fun k => laws_markRuleS.f k l 1) (((1 + 2 * l.length : Nat) : Int), q) :=
  markR_l0 l.length (by omega) l.length l 0 1 rfl (by omega) (by omega) (by omega)
end Go.Proofs.Ytmigpfkjhdaijab.Rw
