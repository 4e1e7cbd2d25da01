/- What these points come to: values, flows, graphs, dominators. Conditions: none. -/
import Derived.Test.YtfjmogpgccnccaaGreatMt3
import Derived.Test.YtfjmogpgccnccaaGreatMqa
import Derived.Test.YtfjmogpgccnccaaGreatMqb
import Derived.Test.YtfjmogpgccnccaaGreatMt1
/- Values told natively; copying, comparing, counting. -/
namespace Go.Tree.Q
open Go.Proofs
set_option linter.unusedVariables false
set_option linter.unusedSimpArgs false
theorem back_of {f : FuncId} {p : List Nat} {e : Env} {X : Option Res} (h : S cx f (.head p e) = X) : S cx f (.back p e) = X := h
theorem w64_id {x : Int} (h0 : -9223372036854775808 ≤ x) (h1 : x < 9223372036854775808) : w64 x = x := by
  show IntKind.i64.wrap x = x
  rw [IntKind.wrap_i64]; omega
theorem dT {p : Prop} [Decidable p] (h : p) : decide p = true := decide_eq_true h
theorem dF {p : Prop} [Decidable p] (h : ¬p) : decide p = false := decide_eq_false h
theorem dT2 {p q : Prop} [Decidable p] [Decidable q] (h : p ∧ q) : (decide p && decide q) = true := by simp [h]
theorem zN {j : Nat} : (0 + ((j : Nat) : Int).toNat) = j := by omega
/-- A line of flat code. -/
structure F where
  op : Int
  fdo : Int
  dst : Int
  a : Int
  b : Int
  n : Int
  deriving DecidableEq, Inhabited
abbrev eF (x : F) : TV := .st [i64 x.op, i64 x.fdo, i64 x.dst, i64 x.a, i64 x.b, i64 x.n]
/-- A block. -/
structure Bk where
  code : List F
  go : Int
  test : Int
  next : List Int
  deriving DecidableEq, Inhabited
abbrev rF (q : Bool) (xs : List F) : TV := sl q ⟨6, false⟩ (xs.map eF)
abbrev rI (q : Bool) (xs : List Int) : TV := sl q ⟨1, false⟩ (xs.map i64)
abbrev eB (q : Bool) (x : Bk) : TV := .st [rF q x.code, i64 x.go, i64 x.test, rI q x.next]
/-- A state. -/
structure Sx where
  loc : List Int
  mem : List Int
  told : List Int
  deriving DecidableEq, Inhabited
abbrev eS (q : Bool) (x : Sx) : TV := .st [rI q x.loc, rI q x.mem, rI q x.told]
theorem copy_loop {H : List TV → Int → Option Res} {l : List TV} {fin : List TV → Res} (z : TV)
    (hr : ∀ (j : Nat) (x : TV) (out : List TV), l[j]? = some x → out.length = l.length → H (out.set j x) ((j + 1 : Nat) : Int) = some (fin l) → H out (j : Int) = some (fin l))
    (he : H l (l.length : Int) = some (fin l)) : H (List.replicate l.length z) 0 = some (fin l) := by
  have key : ∀ d j : Nat, l.length - j = d → j ≤ l.length → H (l.take j ++ List.replicate (l.length - j) z) (j : Int) = some (fin l) := by
    intro d
    induction d with
    | zero =>
      intro j hd hj
      have : j = l.length := by omega
      subst this
      simpa using he
    | succ d ih =>
      intro j hd hj
      obtain ⟨x, hx⟩ := at_some (show j < l.length by omega)
      refine hr j x _ hx (by simp; omega) ?_
      have e : (l.take j ++ List.replicate (l.length - j) z).set j x = l.take (j + 1) ++ List.replicate (l.length - (j + 1)) z := by
        have h1 : (l.take j).length = j := by simp; omega
        rw [List.set_append_right _ _ (by omega), h1, Nat.sub_self, show l.length - j = (l.length - (j + 1)) + 1 by omega, List.replicate_succ, List.set_cons_zero, List.take_add_one, hx]
        simp
      rw [e]
      exact ih (j + 1) (by omega) (by omega)
  simpa using key l.length 0 (by omega) (by omega)
theorem inc64 {j : Nat} {n : Nat} (h : j < n) (hn : n ≤ 1073741824) : w64 ((j : Int) + 1) = ((j + 1 : Nat) : Int) := by
  rw [w64_id (by omega) (by omega)]; omega
theorem lt_of_at {β : Type} {l : List β} {j : Nat} {x : β} (h : l[j]? = some x) : j < l.length := (List.getElem?_eq_some_iff.1 h).1
theorem map_at {β : Type} {e : β → TV} {xs : List β} {j : Nat} {t : TV} (h : (xs.map e)[j]? = some t) : ∃ x, xs[j]? = some x ∧ t = e x := by
  rw [List.getElem?_map] at h
  obtain ⟨x, h1, h2⟩ := Option.map_eq_some_iff.1 h
  exact ⟨x, h1, h2.symm⟩
theorem mk_ok {n : Nat} {B : Int} (h : (n : Int) * B < 140737488355328) (hn : n ≤ 1073741824) : (decide ((0 : Int) ≤ (n : Int)) && decide ((n : Int) ≤ (n : Int)) && decide ((n : Int) * B < (lim : Int)) && decide ((n : Int) < 9223372036854775807) && true && true) = true := by
  have hl : (lim : Int) = 140737488355328 := rfl
  rw [hl, dT h, dT (show (0 : Int) ≤ n by omega), dT (Int.le_refl _), dT (show (n : Int) < 9223372036854775807 by omega)]
  rfl
theorem t163 (x : F) : tw cx 163 [eF x] = some ([eF x], []) := e163 rfl
theorem t48 (xs : List Int) (q : Bool) (hl : xs.length ≤ 1073741824) : tw cx 48 [rI true xs] = some ([rI false xs], []) := by
  refine e48 (ck_pos ?_ ?_)
  · exact mk_ok (by rw [List.length_map]; omega) (by rw [List.length_map]; omega)
  · rw [show (((xs.map i64).length : Nat) : Int).toNat = (xs.map i64).length by omega]
    refine copy_loop (H := fun out i => S cx 48 (H48_0 (xs.map i64) out i)) (fin := fun l => ([sl false ⟨1, false⟩ l], [])) _ (fun j t out hx hout h => ?_) ?_
    · obtain ⟨x, hx', rfl⟩ := map_at hx
      have hj := lt_of_at hx
      have hj' : j < xs.length := by simpa using hj
      refine eH48_0 (bif_pos (dT (by omega)) (ck_pos (dT2 (by omega)) ?_))
      rw [zN, getD_map' hx', S_int]
      refine ck_pos (dT2 (by omega)) (back_of ?_)
      rw [inc64 hj' hl]
      exact h
    · exact eH48_0 (bif_neg (dF (by omega)) rfl)
theorem t134 (xs : List F) (hl : xs.length ≤ 1073741824) : tw cx 134 [rF true xs] = some ([rF false xs], []) := by
  refine e134 (ck_pos ?_ ?_)
  · exact mk_ok (by rw [List.length_map]; omega) (by rw [List.length_map]; omega)
  · rw [show (((xs.map eF).length : Nat) : Int).toNat = (xs.map eF).length by omega]
    refine copy_loop (H := fun out i => S cx 134 (H134_0 (xs.map eF) out i)) (fin := fun l => ([sl false ⟨6, false⟩ l], [])) _ (fun j t out hx hout h => ?_) ?_
    · obtain ⟨x, hx', rfl⟩ := map_at hx
      have hj := lt_of_at hx
      have hj' : j < xs.length := by simpa using hj
      refine eH134_0 (bif_pos (dT (by omega)) (ck_pos (dT2 (by omega)) ?_))
      rw [zN, getD_map' hx', V6_1_S, C163_S (t163 x)]
      refine ck_pos (dT2 (by omega)) (back_of ?_)
      rw [inc64 hj' hl]
      exact h
    · exact eH134_0 (bif_neg (dF (by omega)) rfl)
end Go.Tree.Q

/- Good flows and good states: what both programs answer. -/
namespace Go.Tree.Q
open Go.Proofs
set_option linter.unusedVariables false
set_option linter.unusedSimpArgs false
theorem leaf {b : Bool} {p : Prop} [Decidable p] (h : b = true ↔ p) : (some ([tb b], []) : Option Res) = some ([tb (decide p)], []) := by
  have : b = decide p := by
    cases b with
    | true => exact (decide_eq_true (h.1 rfl)).symm
    | false => exact (decide_eq_false (fun hp => by cases h.2 hp)).symm
  rw [this]
theorem t80 (n lo hi : Int) : tw cx 80 [i64 n, i64 lo, i64 hi] = some ([tb (decide (lo ≤ n ∧ n ≤ hi))], []) := by
  refine e80 ?_
  simp only [N80, S_bif, S_ret, decide_eq_true_eq]
  split <;> exact leaf (by simp <;> omega)
theorem t57 (n lo hi : Int) : tw cx 57 [i64 n, i64 lo, i64 hi] = some ([tb (decide (lo ≤ n ∧ n ≤ hi))], []) := by
  refine e57 ?_
  simp only [N57, S_bif, S_ret, decide_eq_true_eq]
  split <;> exact leaf (by simp <;> omega)
theorem t154 (n : Int) : tw cx 154 [i64 n] = some ([tb (decide (0 ≤ n ∧ n ≤ 11))], []) := by
  refine e154 ?_
  rw [N154, C80_S (t80 ..), S_ret]
theorem t153 (n : Int) : tw cx 153 [i64 n] = some ([tb (decide (0 ≤ n ∧ n ≤ 65535))], []) := by
  refine e153 ?_
  rw [N153, C57_S (t57 ..), S_ret]
theorem t161 (n : Int) : tw cx 161 [i64 n] = some ([tb (decide (4 ≤ n ∧ n ≤ 9))], []) := by
  refine e161 ?_
  rw [N161, C57_S (t57 ..), S_ret]
theorem t125 (n : Int) : tw cx 125 [i64 n] = some ([tb (decide (n = 2 ∨ n = 5))], []) := by
  refine e125 ?_
  simp only [N125, S_bif, S_ret, beq_iff_eq]
  split <;> exact leaf (by simp <;> omega)
/-- A line with names below many. -/
def flatM (m : Int) (x : F) : Prop :=
  (x.op ≠ 3 → x.fdo = 0) ∧ (x.op ≠ 1 → x.n = 0) ∧
    ((x.op = 1 ∧ (0 ≤ x.dst ∧ x.dst < m) ∧ x.a = 0 ∧ x.b = 0 ∧ 0 ≤ x.n ∧ x.n ≤ 65535) ∨
      ((x.op = 2 ∨ x.op = 4) ∧ (0 ≤ x.dst ∧ x.dst < m) ∧ (0 ≤ x.a ∧ x.a < m) ∧ x.b = 0) ∨
      (x.op = 3 ∧ (0 ≤ x.dst ∧ x.dst < m) ∧ (0 ≤ x.a ∧ x.a < m) ∧ (0 ≤ x.b ∧ x.b < m) ∧ 4 ≤ x.fdo ∧ x.fdo ≤ 9) ∨
      (x.op = 5 ∧ x.dst = 0 ∧ (0 ≤ x.a ∧ x.a < m) ∧ (0 ≤ x.b ∧ x.b < m)) ∨
      (x.op = 6 ∧ x.dst = 0 ∧ (0 ≤ x.a ∧ x.a < m) ∧ x.b = 0))
instance (m : Int) (x : F) : Decidable (flatM m x) := by unfold flatM; infer_instance
/-- A good line. -/
def flatP (x : F) : Prop :=
  (x.op ≠ 3 → x.fdo = 0) ∧ (x.op ≠ 1 → x.n = 0) ∧
    ((x.op = 1 ∧ (0 ≤ x.dst ∧ x.dst ≤ 11) ∧ x.a = 0 ∧ x.b = 0 ∧ 0 ≤ x.n ∧ x.n ≤ 65535) ∨
      ((x.op = 2 ∨ x.op = 4) ∧ (0 ≤ x.dst ∧ x.dst ≤ 11) ∧ (0 ≤ x.a ∧ x.a ≤ 11) ∧ x.b = 0) ∨
      (x.op = 3 ∧ (0 ≤ x.dst ∧ x.dst ≤ 11) ∧ (0 ≤ x.a ∧ x.a ≤ 11) ∧ (0 ≤ x.b ∧ x.b ≤ 11) ∧ 4 ≤ x.fdo ∧ x.fdo ≤ 9) ∨
      (x.op = 5 ∧ x.dst = 0 ∧ (0 ≤ x.a ∧ x.a ≤ 11) ∧ (0 ≤ x.b ∧ x.b ≤ 11)) ∨
      (x.op = 6 ∧ x.dst = 0 ∧ (0 ≤ x.a ∧ x.a ≤ 11) ∧ x.b = 0))
instance (x : F) : Decidable (flatP x) := by unfold flatP; infer_instance
set_option maxHeartbeats 1000000 in
theorem t130 (x : F) : tw cx 130 [eF x] = some ([tb (decide (flatP x))], []) := by
  obtain ⟨op, fdo, dst, a, b, n⟩ := x
  refine e130 ?_
  have hG : ∀ v : Bool, op ≠ 1 → (v = true ↔ (op = 2 ∨ op = 4)) → (op ≠ 3 → fdo = 0) → (op ≠ 1 → n = 0) → S cx 130 (G130_0 op fdo dst a b n v) = some ([tb (decide (flatP ⟨op, fdo, dst, a, b, n⟩))], []) := fun v h1 hv h2 h3 => by
    refine eG130_0 ?_
    simp only [NG130_0, NG130_0_s0, C154_S (t154 _), C80_S (t80 _ _ _), S_bif, S_ret, decide_eq_true_eq, beq_iff_eq, hv]
    repeat' split
    all_goals exact leaf (by simp only [flatP, decide_eq_true_eq, beq_iff_eq, Bool.false_eq_true, false_iff, true_iff, eq_self]; omega)
  have h0 : (op ≠ 3 → fdo = 0) → (op ≠ 1 → n = 0) → S cx 130 (N130_s0 op fdo dst a b n) = some ([tb (decide (flatP ⟨op, fdo, dst, a, b, n⟩))], []) := fun h2 h3 => by
    simp only [N130_s0, C154_S (t154 _), C80_S (t80 _ _ _), S_bif, S_ret, decide_eq_true_eq, beq_iff_eq]
    repeat' split
    all_goals first
      | exact leaf (by simp only [flatP, decide_eq_true_eq, beq_iff_eq, Bool.false_eq_true, false_iff, true_iff, eq_self]; omega)
      | exact hG _ (by omega) (by simp <;> omega) h2 h3
  simp only [N130, N130_s1, S_bif, S_ret, bne_iff_ne, ne_eq]
  repeat' split
  all_goals first
    | exact leaf (by simp only [flatP, Bool.false_eq_true, false_iff, true_iff, eq_self]; omega)
    | exact h0 (by simp only [ne_eq]; omega) (by simp only [ne_eq]; omega)
theorem t160 (h : Bool) (n many : Int) (hm : 0 ≤ many ∧ many ≤ 1000) : tw cx 160 [tb h, i64 n, .pt true () (i64 many)] = some ([tb (decide ((h = false → n = 0) ∧ (h = true → 0 ≤ n ∧ n < many)))], []) := by
  refine e160 ?_
  simp only [N160, N160_s0, C57_S (t57 _ _ _), S_bif, S_ret, Bool.not_eq_true', beq_iff_eq]
  rw [w64_id (by omega) (by omega)]
  cases h <;> simp only [Bool.false_eq_true, if_false, if_true, Bool.true_eq_false]
  · split <;> exact leaf (by simp <;> omega)
  · exact leaf (by simp <;> omega)
theorem t159 (op : Int) : tw cx 159 [i64 op] = some ([.st [tb (decide (op = 1 ∨ op = 2 ∨ op = 4 ∨ op = 3)), tb (decide (op = 2 ∨ op = 4 ∨ op = 3 ∨ op = 5 ∨ op = 6)), tb (decide (op = 3 ∨ op = 5)), tb (decide (op = 1)), tb (decide (op = 3))], tb (decide (1 ≤ op ∧ op ≤ 6))], []) := by
  refine e159 ?_
  have hG : ∀ v : Bool, op ≠ 1 → (v = true ↔ (op = 2 ∨ op = 4)) → S cx 159 (G159_0 op v) = some ([.st [tb (decide (op = 1 ∨ op = 2 ∨ op = 4 ∨ op = 3)), tb (decide (op = 2 ∨ op = 4 ∨ op = 3 ∨ op = 5 ∨ op = 6)), tb (decide (op = 3 ∨ op = 5)), tb (decide (op = 1)), tb (decide (op = 3))], tb (decide (1 ≤ op ∧ op ≤ 6))], []) := fun v h1 hv => by
    refine eG159_0 ?_
    simp only [NG159_0, S_bif, S_ret, beq_iff_eq, hv]
    repeat' split
    all_goals
      simp only [Option.some.injEq, Prod.mk.injEq, List.cons.injEq, Tr.st.injEq, Tr.fl.injEq, Value.bool.injEq, and_true]
      simp only [eq_comm (a := true), eq_comm (a := false), decide_eq_true_eq, decide_eq_false_iff_not]
      omega
  simp only [N159, S_bif, S_ret, beq_iff_eq]
  repeat' split
  · simp only [Option.some.injEq, Prod.mk.injEq, List.cons.injEq, Tr.st.injEq, Tr.fl.injEq, Value.bool.injEq, and_true]
    simp only [eq_comm (a := true), eq_comm (a := false), decide_eq_true_eq, decide_eq_false_iff_not]
    omega
  · exact hG _ (by omega) (by simp <;> omega)
  · exact hG _ (by omega) (by simp <;> omega)
set_option maxHeartbeats 1000000 in
theorem t124 (x : F) (m : Int) (hm : 0 ≤ m ∧ m ≤ 1000) : tw cx 124 [eF x, i64 m] = some ([tb (decide (flatM m x))], []) := by
  obtain ⟨op, fdo, dst, a, b, n⟩ := x
  refine e124 ?_
  have h182 := fun (h : Bool) (n : Int) => t160 h n m (by omega)
  simp only [N124, C159_S (t159 _), N124_s0, N124_s1, C160_S (h182 _ _), C153_S (t153 _), C161_S (t161 _), S_bif, S_ret, decide_eq_true_eq, beq_iff_eq, Bool.not_eq_true', decide_eq_false_iff_not, ite_not]
  by_cases h0 : 1 ≤ op ∧ op ≤ 6
  · rw [if_pos h0]
    rcases (show op = 1 ∨ op = 2 ∨ op = 3 ∨ op = 4 ∨ op = 5 ∨ op = 6 by omega) with rfl | rfl | rfl | rfl | rfl | rfl <;> simp (config := { decide := true }) only [if_true, if_false, true_implies, false_implies, not_true_eq_false, not_false_eq_true, and_true, true_and]
    all_goals repeat' split
    all_goals exact leaf (by simp [flatM] <;> omega)
  · rw [if_neg h0]
    exact leaf (by simp only [flatM, Bool.false_eq_true, false_iff]; omega)
end Go.Tree.Q

/- Good flows and good states, whole. -/
namespace Go.Tree.Q
open Go.Proofs
set_option linter.unusedVariables false
set_option linter.unusedSimpArgs false
theorem all_list {β : Type} {xs : List β} {q : β → Bool} {H : Int → Option Res} {yes : Bool → Option Res} {no : Res}
    (hr : ∀ (j : Nat) (x : β), xs[j]? = some x → (q x = true → ∀ r, H ((j + 1 : Nat) : Int) = some r → H (j : Int) = some r) ∧ (q x = false → H (j : Int) = some no))
    {e : Res} (he : H (xs.length : Int) = some e) : H 0 = some (if xs.all q = true then e else no) := by
  have key : ∀ d j : Nat, xs.length - j = d → j ≤ xs.length → H (j : Int) = some (if (xs.drop j).all q = true then e else no) := by
    intro d
    induction d with
    | zero =>
      intro j hd hj
      have : j = xs.length := by omega
      subst this
      simpa using he
    | succ d ih =>
      intro j hd hj
      obtain ⟨x, hx⟩ := at_some (show j < xs.length by omega)
      obtain ⟨h1, h2⟩ := hr j x hx
      have e1 : xs.drop j = x :: xs.drop (j + 1) := by
        have hlt : j < xs.length := by omega
        rw [List.drop_eq_getElem_cons hlt]
        rw [List.getElem?_eq_getElem hlt] at hx
        rw [Option.some.inj hx]
      rw [e1, List.all_cons]
      cases hq : q x with
      | true => rw [Bool.true_and]; exact h1 hq _ (ih (j + 1) (by omega) (by omega))
      | false => rw [Bool.false_and]; exact h2 hq
  simpa using key xs.length 0 (by omega) (by omega)
theorem find_list {β : Type} {xs : List β} {q : β → Bool} {H : Int → Option Res}
    (hr : ∀ (j : Nat) (x : β), xs[j]? = some x → (q x = true → H (j : Int) = some ([i64 j], [])) ∧ (q x = false → ∀ r, H ((j + 1 : Nat) : Int) = some r → H (j : Int) = some r))
    (he : H (xs.length : Int) = some ([i64 (-1)], [])) : ∃ r : Int, H 0 = some ([i64 r], []) ∧ decide (r ≥ 0) = xs.any q := by
  have key : ∀ d j : Nat, xs.length - j = d → j ≤ xs.length → ∃ r : Int, H (j : Int) = some ([i64 r], []) ∧ decide (r ≥ 0) = (xs.drop j).any q := by
    intro d
    induction d with
    | zero =>
      intro j hd hj
      have : j = xs.length := by omega
      subst this
      exact ⟨-1, he, by simp⟩
    | succ d ih =>
      intro j hd hj
      obtain ⟨x, hx⟩ := at_some (show j < xs.length by omega)
      obtain ⟨h1, h2⟩ := hr j x hx
      have e1 : xs.drop j = x :: xs.drop (j + 1) := by
        have hlt : j < xs.length := by omega
        rw [List.drop_eq_getElem_cons hlt]
        rw [List.getElem?_eq_getElem hlt] at hx
        rw [Option.some.inj hx]
      rw [e1, List.any_cons]
      cases hq : q x with
      | true => exact ⟨j, h1 hq, by simp⟩
      | false =>
        obtain ⟨r, h3, h4⟩ := ih (j + 1) (by omega) (by omega)
        exact ⟨r, h2 hq _ h3, by rw [h4]; simp⟩
  simpa using key xs.length 0 (by omega) (by omega)
abbrev big : Nat := 1073741824
theorem getD_at {β : Type} {e : β → TV} {xs : List β} {j : Nat} {x : β} (h : xs[j]? = some x) : (xs.map e).getD (0 + ((j : Nat) : Int).toNat) (.dead ()) = e x := by
  rw [zN]; exact getD_map' h
theorem not_any {β : Type} {xs : List β} {p : β → Prop} [DecidablePred p] : (!xs.any fun x => !decide (p x)) = decide (∀ x ∈ xs, p x) := by
  induction xs with
  | nil => simp
  | cons x xs ih =>
    rw [List.any_cons, Bool.not_or, Bool.not_not, ih]
    simp
theorem all_dec {β : Type} {xs : List β} {p : β → Prop} [DecidablePred p] : xs.all (fun x => decide (p x)) = decide (∀ x ∈ xs, p x) := by
  induction xs with
  | nil => simp
  | cons x xs ih => rw [List.all_cons, ih]; simp
theorem t123 (x : F) (m : Int) (hm : 0 ≤ m ∧ m ≤ 1000) : tw cx 123 [eF x, .pt true () (i64 m)] = some ([tb (!decide (flatM m x))], []) := by
  refine e123 ?_
  rw [N123, C124_S (t124 x m hm), S_ret]
theorem t158 (xs : List F) (m : Int) (hm : 0 ≤ m ∧ m ≤ 1000) (hl : xs.length ≤ big) : ∃ r : Int, tw cx 158 [rF true xs, .cl 123 [.pt true () (i64 m)]] = some ([i64 r], []) ∧ decide (r ≥ 0) = xs.any fun x => !decide (flatM m x) := by
  obtain ⟨r, h1, h2⟩ := find_list (xs := xs) (q := fun x => !decide (flatM m x)) (H := fun i => S cx 158 (H158_0 (xs.map eF) m i)) (fun j x hx => by
    have hj := lt_of_at hx
    have e1 : (xs.map eF).length = xs.length := List.length_map _
    have hb : xs.length ≤ 1073741824 := hl
    refine ⟨fun hq => ?_, fun hq r h => ?_⟩
    · refine eH158_0 (bif_pos (dT (by omega)) (ck_pos (dT2 (by omega)) ?_))
      rw [getD_at hx, V6_1_S, C123_S (t123 x m hm)]
      exact bif_pos hq rfl
    · refine eH158_0 (bif_pos (dT (by omega)) (ck_pos (dT2 (by omega)) ?_))
      rw [getD_at hx, V6_1_S, C123_S (t123 x m hm)]
      refine bif_neg hq (back_of ?_)
      rw [inc64 hj hb]
      exact h) (eH158_0 (bif_neg (dF (by simp)) rfl))
  exact ⟨r, e158 h1, h2⟩
theorem t122 (xs : List F) (m : Int) (hm : 0 ≤ m ∧ m ≤ 1000) (hl : xs.length ≤ big) : tw cx 122 [rF true xs, .cl 123 [.pt true () (i64 m)]] = some ([tb (xs.any fun x => !decide (flatM m x))], []) := by
  obtain ⟨r, h1, h2⟩ := t158 xs m hm hl
  refine e122 ?_
  rw [N122, C158_S h1, S_ret, h2]
theorem t77 (xs : List F) (m : Int) (hm : 0 ≤ m ∧ m ≤ 1000) (hl : xs.length ≤ big) : tw cx 77 [rF true xs, i64 m] = some ([tb (decide (xs.length ≤ 60 ∧ ∀ x ∈ xs, flatM m x))], []) := by
  refine e77 ?_
  rw [N77, S_bif, C122_S (t122 xs m hm hl), S_ret, S_ret, not_any, List.length_map]
  by_cases c : xs.length ≤ 60
  · rw [if_pos (dT (by omega))]; simp [c]
  · rw [if_neg (by rw [dF (by omega)]; simp)]; simp [c]
def wordP (n : Int) : Prop := 0 ≤ n ∧ n ≤ 65535
instance (n : Int) : Decidable (wordP n) := by unfold wordP; infer_instance
/-- A good state. -/
def stateP (s : Sx) : Prop := s.loc.length = 8 ∧ s.mem.length = 16 ∧ s.told.length ≤ 100 ∧ (∀ x ∈ s.loc, wordP x) ∧ (∀ x ∈ s.mem, wordP x) ∧ (∀ x ∈ s.told, wordP x)
instance (s : Sx) : Decidable (stateP s) := by unfold stateP; infer_instance
def smallS (s : Sx) : Prop := s.loc.length ≤ big ∧ s.mem.length ≤ big ∧ s.told.length ≤ big
end Go.Tree.Q

/- Good blocks and flows. -/
namespace Go.Tree.Q
open Go.Proofs
set_option linter.unusedVariables false
set_option linter.unusedSimpArgs false
def goP (b : Bk) : Prop :=
  (b.go = 1 ∧ b.next.length = 1 ∧ b.test = 0) ∨ (b.go = 2 ∧ b.next.length = 2 ∧ 0 ≤ b.test ∧ b.test ≤ 11) ∨
    (b.go = 5 ∧ (2 ≤ b.next.length ∧ b.next.length ≤ 6) ∧ 0 ≤ b.test ∧ b.test ≤ 11) ∨ ((b.go = 3 ∨ b.go = 4) ∧ b.next.length = 0 ∧ b.test = 0)
instance (b : Bk) : Decidable (goP b) := by unfold goP; infer_instance
/-- A good block. -/
def blockP (n : Int) (b : Bk) : Prop := (∀ x ∈ b.code, flatP x) ∧ b.code.length ≤ 60 ∧ (∀ k ∈ b.next, 0 ≤ k ∧ k < n) ∧ goP b
instance (n : Int) (b : Bk) : Decidable (blockP n b) := by unfold blockP; infer_instance
/-- A good flow. -/
def flowP (f : List Bk) : Prop := (∀ b ∈ f, blockP f.length b) ∧ 1 ≤ f.length ∧ f.length ≤ 64
instance (f : List Bk) : Decidable (flowP f) := by unfold flowP; infer_instance
def smallB (b : Bk) : Prop := b.code.length ≤ big ∧ b.next.length ≤ big
theorem t127 (k many : Int) (hm : 0 ≤ many ∧ many ≤ 1073741824) : tw cx 127 [i64 k, .pt true () (i64 many)] = some ([tb (!decide (0 ≤ k ∧ k < many))], []) := by
  refine e127 ?_
  rw [N127, C57_S (t57 ..), S_ret, w64_id (by omega) (by omega)]
  have : (0 ≤ k ∧ k ≤ many - 1) ↔ (0 ≤ k ∧ k < many) := by omega
  simp only [this]
theorem t162b (xs : List Int) (many : Int) (hm : 0 ≤ many ∧ many ≤ 1073741824) (hl : xs.length ≤ big) : ∃ r : Int, tw cx 162 [rI true xs, .cl 127 [.pt true () (i64 many)]] = some ([i64 r], []) ∧ decide (r ≥ 0) = xs.any fun k => !decide (0 ≤ k ∧ k < many) := by
  obtain ⟨r, h1, h2⟩ := find_list (xs := xs) (q := fun k => !decide (0 ≤ k ∧ k < many)) (H := fun i => S cx 162 (H162_b_0 (xs.map i64) many i)) (fun j x hx => by
    have hj := lt_of_at hx
    have e1 : (xs.map i64).length = xs.length := List.length_map _
    have hb : xs.length ≤ 1073741824 := hl
    refine ⟨fun hq => ?_, fun hq r h => ?_⟩
    · refine eH162_b_0 (bif_pos (dT (by omega)) (ck_pos (dT2 (by omega)) ?_))
      rw [getD_at hx, S_int, C127_S (t127 x many hm)]
      exact bif_pos hq rfl
    · refine eH162_b_0 (bif_pos (dT (by omega)) (ck_pos (dT2 (by omega)) ?_))
      rw [getD_at hx, S_int, C127_S (t127 x many hm)]
      refine bif_neg hq (back_of ?_)
      rw [inc64 hj hb]
      exact h) (eH162_b_0 (bif_neg (dF (by simp)) rfl))
  exact ⟨r, e162b h1, h2⟩
theorem t126 (xs : List Int) (many : Int) (hm : 0 ≤ many ∧ many ≤ 1073741824) (hl : xs.length ≤ big) : tw cx 126 [rI true xs, .cl 127 [.pt true () (i64 many)]] = some ([tb (xs.any fun k => !decide (0 ≤ k ∧ k < many))], []) := by
  obtain ⟨r, h1, h2⟩ := t162b xs many hm hl
  refine e126b ?_
  rw [N126b, C162_1_S h1, S_ret, h2]
theorem any_not {β : Type} {xs : List β} {p : β → Prop} [DecidablePred p] : ((xs.any fun x => !decide (p x)) = true) ↔ ¬ ∀ x ∈ xs, p x := by
  have := not_any (xs := xs) (p := p)
  cases h : (xs.any fun x => !decide (p x)) with
  | true => rw [h] at this; simp only [Bool.not_true] at this; simpa using (of_decide_eq_false this.symm)
  | false => rw [h] at this; simp only [Bool.not_false] at this; simpa using (of_decide_eq_true this.symm)
end Go.Tree.Q

/- Flat steps with names of locals alone; rows of what is so; what is there. -/
namespace Go.Tree.Q
open Go.Proofs
set_option linter.unusedVariables false
set_option linter.unusedSimpArgs false
theorem t116 (xs : List Int) (n : Int) (hl : xs.length ≤ big) : tw cx 116 [rI true xs, i64 n] = some ([tb (decide (n ∈ xs))], []) := by
  have hb : xs.length ≤ 1073741824 := hl
  have e1 : (xs.map i64).length = xs.length := List.length_map _
  have key : ∀ d j : Nat, xs.length - j = d → j ≤ xs.length → S cx 116 (H116_0 n (xs.map i64) (j : Int)) = some ([tb (decide (n ∈ xs.drop j))], []) := by
    intro d
    induction d with
    | zero =>
      intro j hd hj
      refine eH116_0 (bif_neg (dF (by omega)) ?_)
      rw [S_ret, List.drop_eq_nil_of_le (by omega)]
      simp
    | succ d ih =>
      intro j hd hj
      obtain ⟨x, hx⟩ := at_some (show j < xs.length by omega)
      have hdr : xs.drop j = x :: xs.drop (j + 1) := by
        rw [List.drop_eq_getElem_cons (by omega)]
        rw [List.getElem?_eq_getElem (by omega)] at hx
        rw [Option.some.inj hx]
      refine eH116_0 (bif_pos (dT (by omega)) (ck_pos (dT2 (by omega)) ?_))
      rw [getD_at hx, S_int, hdr]
      by_cases c : x = n
      · refine bif_pos (by simp [c]) ?_
        rw [S_ret]
        simp [c]
      · refine bif_neg (by simp [c]) (back_of ?_)
        rw [inc64 (n := xs.length) (by omega) hb, ih (j + 1) (by omega) (by omega)]
        have : ¬ n = x := fun h => c h.symm
        simp [this]
  refine e116 ?_
  have := key xs.length 0 (by omega) (by omega)
  simpa [N116] using this
theorem t157 (xs : List Int) (n : Int) (hl : xs.length ≤ big) : ∃ r : Int, tw cx 157 [rI true xs, i64 n] = some ([i64 r], []) ∧ decide (r ≥ 0) = decide (n ∈ xs) := by
  have hb : xs.length ≤ 1073741824 := hl
  have e1 : (xs.map i64).length = xs.length := List.length_map _
  obtain ⟨r, h1, h2⟩ := find_list (xs := xs) (q := fun x => n == x) (H := fun i => S cx 157 (H157_0 (xs.map i64) n i)) (fun j x hx => by
    have hj := lt_of_at hx
    refine ⟨fun hq => ?_, fun hq r h => ?_⟩
    · refine eH157_0 (bif_pos (dT (by omega)) (ck_pos (dT2 (by omega)) ?_))
      rw [getD_at hx, S_int]
      exact bif_pos hq rfl
    · refine eH157_0 (bif_pos (dT (by omega)) (ck_pos (dT2 (by omega)) ?_))
      rw [getD_at hx, S_int]
      refine bif_neg hq (back_of ?_)
      rw [inc64 hj hb]
      exact h) (eH157_0 (bif_neg (dF (by simp)) rfl))
  refine ⟨r, e157 h1, h2.trans ?_⟩
  rw [Bool.eq_iff_iff, List.any_eq_true, decide_eq_true_iff]
  exact ⟨fun ⟨x, hx, e⟩ => by rw [eq_of_beq e]; exact hx, fun h => ⟨n, h, by simp⟩⟩
theorem t119 (xs : List Int) (n : Int) (hl : xs.length ≤ big) : tw cx 119 [rI true xs, i64 n] = some ([tb (decide (n ∈ xs))], []) := by
  obtain ⟨r, h1, h2⟩ := t157 xs n hl
  refine e119 ?_
  rw [N119, C157_S h1, S_ret, h2]
abbrev rT (q : Bool) (bs : List Bool) : TV := sl q ⟨1, false⟩ (bs.map tb)
theorem t167 (xs : List Bool) (b : Bool) (hl : xs.length ≤ big) : ∃ r : Int, tw cx 167 [rT true xs, tb b] = some ([i64 r], []) ∧ decide (r ≥ 0) = decide (b ∈ xs) := by
  have hb : xs.length ≤ 1073741824 := hl
  have e1 : (xs.map fun b => tb b).length = xs.length := List.length_map _
  obtain ⟨r, h1, h2⟩ := find_list (xs := xs) (q := fun x => b == x) (H := fun i => S cx 167 (H167_0 (xs.map fun b => tb b) b i)) (fun j x hx => by
    have hj := lt_of_at hx
    refine ⟨fun hq => ?_, fun hq r h => ?_⟩
    · refine eH167_0 (bif_pos (dT (by omega)) (ck_pos (dT2 (by omega)) ?_))
      rw [getD_at (e := fun b => tb b) hx, S_bool]
      exact bif_pos hq rfl
    · refine eH167_0 (bif_pos (dT (by omega)) (ck_pos (dT2 (by omega)) ?_))
      rw [getD_at (e := fun b => tb b) hx, S_bool]
      refine bif_neg hq (back_of ?_)
      rw [inc64 hj hb]
      exact h) (eH167_0 (bif_neg (dF (by simp)) rfl))
  refine ⟨r, e167 h1, h2.trans ?_⟩
  rw [Bool.eq_iff_iff, List.any_eq_true, decide_eq_true_iff]
  exact ⟨fun ⟨x, hx, e⟩ => by rw [eq_of_beq e]; exact hx, fun h => ⟨b, h, by simp⟩⟩
theorem t139 (xs : List Bool) (b : Bool) (hl : xs.length ≤ big) : tw cx 139 [rT true xs, tb b] = some ([tb (decide (b ∈ xs))], []) := by
  obtain ⟨r, h1, h2⟩ := t167 xs b hl
  refine e139 ?_
  rw [N139, C167_S h1, S_ret, h2]
end Go.Tree.Q

/- Rows that are sorted, made compact, copied: what lies in them stays. -/
namespace Go.Tree.Q
open Go.Proofs
set_option linter.unusedVariables false
set_option linter.unusedSimpArgs false
/-- A loop with what it holds. -/
theorem st_loop {σ : Type} {n : Nat} {H : σ → Int → Option Res} (I : Nat → σ → Prop) {Q : Res → Prop}
    (hr : ∀ (j : Nat) (a : σ), j < n → I j a → ∃ a', I (j + 1) a' ∧ ∀ r, H a' ((j + 1 : Nat) : Int) = some r → H a (j : Int) = some r)
    (he : ∀ a, I n a → ∃ r, H a (n : Int) = some r ∧ Q r) : ∀ a, I 0 a → ∃ r, H a 0 = some r ∧ Q r := by
  have key : ∀ d (j : Nat) (a : σ), n - j = d → j ≤ n → I j a → ∃ r, H a (j : Int) = some r ∧ Q r := by
    intro d
    induction d with
    | zero =>
      intro j a hd hj hI
      obtain rfl : j = n := by omega
      exact he a hI
    | succ d ih =>
      intro j a hd hj hI
      obtain ⟨a', h1, h2⟩ := hr j a (by omega) hI
      obtain ⟨r, h3, h4⟩ := ih (j + 1) a' (by omega) (by omega) h1
      exact ⟨r, h2 r h3, h4⟩
  intro a h
  simpa using key n 0 a (by omega) (by omega) h
theorem len_i {xs : List Int} : (xs.map i64).length = xs.length := List.length_map _
theorem i64_at {xs : List Int} {j : Nat} (h : j < xs.length) : (xs.map i64).getD (0 + ((j : Nat) : Int).toNat) (.dead ()) = i64 xs[j] := getD_at (List.getElem?_eq_getElem h)
theorem set_i {xs : List Int} {j : Nat} {v : Int} : (xs.map i64).set (0 + ((j : Nat) : Int).toNat) (i64 v) = (xs.set j v).map i64 := by
  rw [zN, set_map']
theorem t106 (xs : List Int) (hl : xs.length ≤ big) : tw cx 106 [rI true xs] = some ([rI false xs], []) := by
  have hb : xs.length ≤ 1073741824 := hl
  have hk : decide ((0 + (xs.map i64).length) * 8 < lim) = true := by
    rw [len_i]
    exact decide_eq_true (by have : lim = 140737488355328 := rfl; omega)
  refine e106 (S_isNil (fun h => S_amb2 ?_ ?_) fun _ => ck_pos hk rfl)
  · rw [S_ret, rI, h]
  · exact ck_pos hk (by rw [S_ret, rI, h]; rfl)
/-- The same things, however they lie. -/
def Same (xs ys : List Int) : Prop := ys.length = xs.length ∧ ∀ v, v ∈ ys ↔ v ∈ xs
theorem Same.refl (xs : List Int) : Same xs xs := ⟨rfl, fun _ => Iff.rfl⟩
theorem Same.trans {xs ys zs : List Int} (h : Same xs ys) (k : Same ys zs) : Same xs zs := ⟨k.1.trans h.1, fun v => (k.2 v).trans (h.2 v)⟩
/-- Sorted, but for what stands at j. -/
def Od (ys : List Int) (i j : Nat) : Prop := ∀ a b, a < b → b ≤ i → b ≠ j → ys.getD a 0 ≤ ys.getD b 0
theorem swap_at (ys : List Int) (j : Nat) (h1 : j + 1 < ys.length) (a : Nat) : ((ys.set (j + 1) (ys[j]'(by omega))).set j ys[j + 1]).getD a 0 = if a = j then ys.getD (j + 1) 0 else if a = j + 1 then ys.getD j 0 else ys.getD a 0 := by
  simp only [List.getD_eq_getElem?_getD, List.getElem?_set, List.length_set]
  by_cases c : j = a
  · subst c
    rw [if_pos rfl, if_pos (by omega), if_pos rfl, List.getElem?_eq_getElem h1]
  · rw [if_neg c]
    by_cases c2 : j + 1 = a
    · subst c2
      rw [if_pos rfl, if_pos h1, if_neg (by omega), if_pos rfl, List.getElem?_eq_getElem (show j < ys.length by omega)]
    · rw [if_neg c2, if_neg (fun h => c h.symm), if_neg (fun h => c2 h.symm)]
theorem Od.swap {ys : List Int} {i j : Nat} (h : Od ys i (j + 1)) (h1 : j + 1 < ys.length) (c : ys[j + 1] < ys[j]'(by omega)) (hj : j + 1 ≤ i) : Od ((ys.set (j + 1) (ys[j]'(by omega))).set j ys[j + 1]) i j := by
  have hc : ys.getD (j + 1) 0 < ys.getD j 0 := by
    rw [List.getD_eq_getElem?_getD, List.getD_eq_getElem?_getD, List.getElem?_eq_getElem h1, List.getElem?_eq_getElem (show j < ys.length by omega)]
    exact c
  intro a b hab hb hbj
  rw [swap_at ys j h1, swap_at ys j h1]
  rw [if_neg hbj]
  by_cases b1 : b = j + 1
  · subst b1
    rw [if_pos rfl]
    by_cases a0 : a = j
    · rw [if_pos a0]; omega
    · rw [if_neg a0, if_neg (by omega)]
      exact h a j (by omega) (by omega) (by omega)
  · rw [if_neg b1]
    by_cases a0 : a = j
    · rw [if_pos a0]; exact h (j + 1) b (by omega) hb b1
    · rw [if_neg a0]
      by_cases a1 : a = j + 1
      · rw [if_pos a1]; exact h j b (by omega) hb b1
      · rw [if_neg a1]; exact h a b hab hb b1
theorem Od.done {ys : List Int} {i j : Nat} (h : Od ys i (j + 1)) (h1 : j + 1 < ys.length) (c : ¬ ys[j + 1] < ys[j]'(by omega)) : ∀ a b, a < b → b ≤ i → ys.getD a 0 ≤ ys.getD b 0 := by
  have hc : ys.getD j 0 ≤ ys.getD (j + 1) 0 := by
    rw [List.getD_eq_getElem?_getD, List.getD_eq_getElem?_getD, List.getElem?_eq_getElem h1, List.getElem?_eq_getElem (show j < ys.length by omega)]
    exact Int.not_lt.1 c
  intro a b hab hb
  by_cases b1 : b = j + 1
  · subst b1
    by_cases a0 : a = j
    · rw [a0]; exact hc
    · exact Int.le_trans (h a j (by omega) (by omega) (by omega)) hc
  · exact h a b hab hb b1
end Go.Tree.Q

/- Graphs: what is come to, and when a way leads round. Plain Lean: no program in sight. -/
namespace Go.Tree.Cg
set_option linter.unusedVariables false
variable {E E' : Nat → Nat → Prop}
/-- One comes to another by edges. -/
inductive Star (E : Nat → Nat → Prop) : Nat → Nat → Prop
  | refl (a : Nat) : Star E a a
  | tail {a b c : Nat} (h : Star E a b) (k : E b c) : Star E a c
theorem Star.trans {a b c : Nat} (h : Star E a b) (k : Star E b c) : Star E a c := by
  induction k with
  | refl => exact h
  | tail _ e ih => exact .tail ih e
theorem Star.head {a b c : Nat} (e : E a b) (k : Star E b c) : Star E a c := (Star.tail (.refl a) e).trans k
theorem Star.mono (H : ∀ a b, E a b → E' a b) {a b : Nat} (h : Star E a b) : Star E' a b := by
  induction h with
  | refl => exact .refl _
  | tail _ e ih => exact .tail ih (H _ _ e)
theorem Star.cases_head {a c : Nat} (h : Star E a c) : a = c ∨ ∃ b, E a b ∧ Star E b c := by
  induction h with
  | refl => exact .inl rfl
  | tail h e ih =>
    rcases ih with rfl | ⟨b, h1, h2⟩
    · exact .inr ⟨_, e, .refl _⟩
    · exact .inr ⟨b, h1, .tail h2 e⟩
/-- A set that holds the first one, and with each one what it leads to, holds all that is come to. -/
theorem Star.closed {S : Nat → Prop} {a : Nat} (h0 : S a) (H : ∀ x y, S x → E x y → S y) {b : Nat} (h : Star E a b) : S b := by
  induction h with
  | refl => exact h0
  | tail _ e ih => exact H _ _ ih e
open Classical in
/-- Once and again: those that lead to one of them. -/
def lead (s : Nat → List Nat) (L : List Nat) : List Nat := L.filter fun k => (s k).any fun x => L.contains x
end Go.Tree.Cg

/- What is come to in a graph: the program's way. -/
namespace Go.Tree.Q
open Go.Proofs Go.Tree.Cg
set_option linter.unusedVariables false
set_option linter.unusedSimpArgs false
abbrev nI (ts : List Nat) : List Int := ts.map fun (a : Nat) => (a : Int)
theorem len_n {ts : List Nat} : ((nI ts).map i64).length = ts.length := by simp
theorem n_at {ts : List Nat} {j : Nat} (h : j < ts.length) : ((nI ts).map i64).getD (0 + ((j : Nat) : Int).toNat) (.dead ()) = i64 ((ts[j] : Nat) : Int) := by
  rw [i64_at (by simpa using h)]
  simp
theorem mem_nI {a : Nat} {ts : List Nat} : (a : Int) ∈ nI ts ↔ a ∈ ts := by
  rw [List.mem_map]
  constructor
  · rintro ⟨b, hb, e⟩
    obtain rfl : b = a := by omega
    exact hb
  · exact fun h => ⟨a, h, rfl⟩
theorem app_n {ts : List Nat} {a : Nat} : (nI ts).map i64 ++ [i64 (a : Int)] = (nI (ts ++ [a])).map i64 := by simp
/-- A graph: each node's next ones. -/
def Gr (n : Nat) (N : List (List Nat)) : Prop := N.length = n ∧ n ≤ 12 ∧ ∀ l ∈ N, l.length ≤ 12 ∧ ∀ x ∈ l, x < n
/-- Rows of numbers, whosever memory they are. -/
def Rows (next : List TV) (N : List (List Nat)) : Prop := next.length = N.length ∧ ∀ (j : Nat) (h : j < N.length), ∃ q, next[j]? = some (rI q (nI N[j]))
theorem Rows.at_ {next : List TV} {N : List (List Nat)} (h : Rows next N) {j : Nat} (hj : j < N.length) : ∃ q, next.getD (0 + ((j : Nat) : Int).toNat) (.dead ()) = rI q (nI N[j]) := by
  obtain ⟨q, hq⟩ := h.2 j hj
  exact ⟨q, by rw [zN, List.getD_eq_getElem?_getD, hq, Option.getD_some]⟩
def Ed (N : List (List Nat)) (but : List Nat) (a b : Nat) : Prop := ∃ h : a < N.length, b ∈ N[a] ∧ b ∉ but
theorem Gr.row {n : Nat} {N : List (List Nat)} (h : Gr n N) {a : Nat} (ha : a < N.length) : N[a].length ≤ 12 ∧ ∀ x ∈ N[a], x < n := h.2.2 _ (List.getElem_mem ha)
theorem Gr.ed {n : Nat} {N : List (List Nat)} (h : Gr n N) {but : List Nat} {a b : Nat} (e : Ed N but a b) : b < n := by
  obtain ⟨ha, hb, _⟩ := e
  exact (h.row ha).2 b hb
theorem Gr.star {n : Nat} {N : List (List Nat)} (h : Gr n N) {but : List Nat} {a b : Nat} (ha : a < n) (e : Star (Ed N but) a b) : b < n := Star.closed (S := fun b => b < n) ha (fun x y _ e => h.ed e) e
def cntF (bs : List Bool) : Nat := (bs.filter fun b => !b).length
theorem cnt_set : ∀ (bs : List Bool) (k : Nat), bs[k]? = some false → cntF (bs.set k true) + 1 = cntF bs
  | [], k, h => by simp at h
  | b :: bs, 0, h => by
    simp only [List.getElem?_cons_zero, Option.some.injEq] at h
    subst h
    simp [cntF]
  | b :: bs, k + 1, h => by
    have := cnt_set bs k (by simpa using h)
    simp only [cntF, List.set_cons_succ, List.filter_cons] at this ⊢
    cases b <;> simp <;> omega
theorem len_b {bs : List Bool} : (bs.map fun b => tb b).length = bs.length := List.length_map _
theorem b_at {bs : List Bool} {j : Nat} (h : j < bs.length) : (bs.map fun b => tb b).getD (0 + ((j : Nat) : Int).toNat) (.dead ()) = tb bs[j] := getD_at (e := fun b => tb b) (List.getElem?_eq_getElem h)
theorem set_b {bs : List Bool} {j : Nat} {v : Bool} : (bs.map fun b => tb b).set (0 + ((j : Nat) : Int).toNat) (tb v) = (bs.set j v).map fun b => tb b := by
  rw [zN, List.map_set]
/-- What holds while one goes on. -/
structure Go_ (n : Nat) (N : List (List Nat)) (but : List Nat) (a0 : Nat) (bs : List Bool) (ts : List Nat) : Prop where
  len : bs.length = n
  todo : ∀ t ∈ ts, bs[t]? = some true
  way : ∀ a, bs[a]? = some true → Star (Ed N but) a0 a
  start : bs[a0]? = some true
theorem true_lt {bs : List Bool} {a : Nat} (h : bs[a]? = some true) : a < bs.length := (List.getElem?_eq_some_iff.1 h).1
theorem t69 {n : Nat} {N : List (List Nat)} {next : List TV} (hg : Gr n N) (hr : Rows next N) (but : List Nat) (hbl : but.length ≤ 12) (a0 : Nat) (ha0 : a0 < n) :
    ∃ bs : List Bool, tw cx 69 [sl true ⟨1, true⟩ next, i64 a0, rI true (nI but)] = some ([rT false bs], []) ∧ bs.length = n ∧ ∀ k, bs[k]? = some true ↔ (a0 ∉ but ∧ Star (Ed N but) a0 k) := by
  obtain ⟨hN, hn, _⟩ := id hg
  have hbut : ∀ x : Nat, tw cx 119 [rI true (nI but), i64 (x : Int)] = some ([tb (decide (x ∈ but))], []) := fun x => by
    rw [t119 (nI but) (x : Int) (by show _ ≤ 1073741824; simp; omega)]
    simp only [mem_nI]
  have lim1 : ∀ m : Nat, m ≤ 1000 → decide (m * 8 < lim) = true := fun m hm => decide_eq_true (by have : lim = 140737488355328 := rfl; omega)
  -- one node's next ones
  have inner : ∀ (x : Nat) (hx : x < N.length) (ts0 : List Nat), ∀ d j (bs : List Bool) (ts : List Nat), N[x].length - j = d → j ≤ N[x].length → Go_ n N but a0 bs (x :: ts) → bs[x]? = some true → cntF bs + ts.length ≤ 100 → (∀ i (hi : i < N[x].length), i < j → N[x][i] ∉ but → bs[N[x][i]]? = some true) →
      (∀ a b, bs[a]? = some true → a ∉ x :: ts → Ed N but a b → bs[b]? = some true) →
      ∃ bs' ts', Go_ n N but a0 bs' ts' ∧ (∀ a b, bs'[a]? = some true → a ∉ ts' → Ed N but a b → bs'[b]? = some true) ∧ cntF bs' + ts'.length = cntF bs + ts.length ∧
        ∀ r, S cx 69 (H69_0 next ((nI but).map i64) (bs'.map fun b => tb b) ((nI ts').map i64)) = some r → S cx 69 (H69_1 next ((nI but).map i64) (bs.map fun b => tb b) ((nI (x :: ts)).map i64) ((nI N[x]).map i64) (j : Int)) = some r := by
    intro x hx ts0 d
    induction d with
    | zero =>
      intro j bs ts hd hj hI hxb hc hdone hcl
      refine ⟨bs, ts, ⟨hI.len, fun t ht => hI.todo t (by simp [ht]), hI.way, hI.start⟩, fun a b h1 h2 h3 => ?_, rfl, fun r h => eH69_1 (bif_neg (dF (by rw [len_n]; omega)) (ck_pos ?_ (back_of ?_)))⟩
      · by_cases c : a = x
        · subst c
          obtain ⟨_, h4, h5⟩ := h3
          obtain ⟨i, hi, rfl⟩ := List.mem_iff_getElem.1 h4
          exact hdone i hi (by omega) h5
        · exact hcl a b h1 (by simp [c, h2]) h3
      · exact dT2 (by rw [len_n, List.length_cons]; omega)
      · have e : (((nI (x :: ts)).map i64).drop 1).take ((((nI (x :: ts)).map i64).length : Int) - 1).toNat = (nI ts).map i64 := by
          rw [len_n, show (((x :: ts).length : Int) - 1).toNat = ts.length by rw [List.length_cons]; omega]
          simp only [List.map_cons, List.drop_succ_cons, List.drop_zero]
          exact List.take_of_length_le (by simp)
        rw [e]
        exact h
    | succ d ih =>
      intro j bs ts hd hj hI hxb hc hdone hcl
      have hjl : j < N[x].length := by omega
      have hb := (hg.row hx).2 _ (List.getElem_mem hjl)
      have hl := (hg.row hx).1
      have hbl : N[x][j] < bs.length := by rw [hI.len]; exact hb
      have hinc : w64 ((j : Int) + 1) = ((j + 1 : Nat) : Int) := inc64 (n := N[x].length) hjl (by omega)
      have next_ : (N[x][j] ∉ but → bs[N[x][j]]? = some true) → (∀ i (hi : i < N[x].length), i < j + 1 → N[x][i] ∉ but → bs[N[x][i]]? = some true) := fun h i hi hij hn => by
        by_cases c : i = j
        · subst c; exact h hn
        · exact hdone i hi (by omega) hn
      cases hv : bs[N[x][j]] with
      | true =>
        have hv' : bs[N[x][j]]? = some true := by rw [List.getElem?_eq_getElem hbl, hv]
        obtain ⟨bs', ts', h1, h2, h3, h4⟩ := ih (j + 1) bs ts (by omega) (by omega) hI hxb hc (next_ fun _ => hv') hcl
        refine ⟨bs', ts', h1, h2, h3, fun r h => eH69_1 (bif_pos (dT (by rw [len_n]; omega)) (ck_pos (dT2 (by rw [len_n]; omega)) ?_))⟩
        rw [n_at hjl, S_int]
        refine ck_pos (dT2 (by rw [len_b]; omega)) ?_
        rw [b_at hbl, S_bool, hv]
        refine bif_neg rfl (eG69_2 (bif_neg rfl (back_of ?_)))
        rw [hinc]
        exact h4 r h
      | false =>
        have hv' : bs[N[x][j]]? = some false := by rw [List.getElem?_eq_getElem hbl, hv]
        by_cases cb : N[x][j] ∈ but
        · obtain ⟨bs', ts', h1, h2, h3, h4⟩ := ih (j + 1) bs ts (by omega) (by omega) hI hxb hc (next_ fun h => absurd cb h) hcl
          refine ⟨bs', ts', h1, h2, h3, fun r h => eH69_1 (bif_pos (dT (by rw [len_n]; omega)) (ck_pos (dT2 (by rw [len_n]; omega)) ?_))⟩
          rw [n_at hjl, S_int]
          refine ck_pos (dT2 (by rw [len_b]; omega)) ?_
          rw [b_at hbl, S_bool, hv]
          refine bif_pos rfl ?_
          rw [C119_S (hbut _), dT cb]
          refine eG69_2 (bif_neg rfl (back_of ?_))
          rw [hinc]
          exact h4 r h
        · have hset : ∀ a, (bs.set N[x][j] true)[a]? = some true ↔ (a = N[x][j] ∨ bs[a]? = some true) := fun a => by
            rw [List.getElem?_set]
            by_cases c : N[x][j] = a
            · rw [if_pos c, if_pos (by omega)]; simp [c]
            · rw [if_neg c]
              exact ⟨.inr, fun h => h.elim (fun e => absurd e.symm c) id⟩
          have hcn := cnt_set bs _ hv'
          have hed : Ed N but x N[x][j] := ⟨hx, List.getElem_mem hjl, cb⟩
          obtain ⟨bs', ts', h1, h2, h3, h4⟩ := ih (j + 1) (bs.set N[x][j] true) (ts ++ [N[x][j]]) (by omega) (by omega)
            ⟨by rw [List.length_set]; exact hI.len, fun t ht => by
              rw [hset]
              rcases List.mem_cons.1 ht with rfl | ht
              · exact .inr hxb
              · rcases List.mem_append.1 ht with ht | ht
                · exact .inr (hI.todo t (by simp [ht]))
                · exact .inl (by simpa using ht), fun a h => by
              rcases (hset a).1 h with rfl | h
              · exact .tail (hI.way x hxb) hed
              · exact hI.way a h, (hset _).2 (.inr hI.start)⟩ ((hset _).2 (.inr hxb)) (by rw [List.length_append, List.length_singleton]; omega)
            (fun i hi hij hn => by
              by_cases c : i = j
              · subst c; exact (hset _).2 (.inl rfl)
              · exact (hset _).2 (.inr (hdone i hi (by omega) hn)))
            (fun a b h1 h2 h3 => by
              rcases (hset a).1 h1 with rfl | h1
              · exact absurd (by simp) h2
              · exact (hset b).2 (.inr (hcl a b h1 (fun hm => h2 (by
                  rcases List.mem_cons.1 hm with rfl | hm
                  · simp
                  · simp [hm])) h3)))
          refine ⟨bs', ts', h1, h2, by rw [h3, List.length_append, List.length_singleton]; omega, fun r h => eH69_1 (bif_pos (dT (by rw [len_n]; omega)) (ck_pos (dT2 (by rw [len_n]; omega)) ?_))⟩
          rw [n_at hjl, S_int]
          refine ck_pos (dT2 (by rw [len_b]; omega)) ?_
          rw [b_at hbl, S_bool, hv]
          refine bif_pos rfl ?_
          rw [C119_S (hbut _), dF cb]
          refine eG69_2 (bif_pos rfl (ck_pos (dT2 (by rw [len_b]; omega)) (ck_pos (lim1 _ (by rw [len_n]; simp; omega)) (back_of ?_))))
          rw [hinc, set_b, app_n]
          exact h4 r h
  have outer : ∀ m (bs : List Bool) (ts : List Nat), cntF bs + ts.length ≤ m → m ≤ 100 → Go_ n N but a0 bs ts → (∀ a b, bs[a]? = some true → a ∉ ts → Ed N but a b → bs[b]? = some true) →
      ∃ bs', S cx 69 (H69_0 next ((nI but).map i64) (bs.map fun b => tb b) ((nI ts).map i64)) = some ([rT false bs'], []) ∧ bs'.length = n ∧ ∀ k, bs'[k]? = some true ↔ Star (Ed N but) a0 k := by
    intro m
    induction m with
    | zero =>
      intro bs ts hm _ hI hcl
      have : ts = [] := List.eq_nil_of_length_eq_zero (by omega)
      subst this
      exact ⟨bs, eH69_0 (bif_neg (dF (by simp)) rfl), hI.len, fun k => ⟨hI.way k, fun h => Star.closed (S := fun k => bs[k]? = some true) hI.start (fun x y hx e => hcl x y hx (by simp) e) h⟩⟩
    | succ m ih =>
      intro bs ts hm hm2 hI hcl
      cases ts with
      | nil => exact ⟨bs, eH69_0 (bif_neg (dF (by simp)) rfl), hI.len, fun k => ⟨hI.way k, fun h => Star.closed (S := fun k => bs[k]? = some true) hI.start (fun x y hx e => hcl x y hx (by simp) e) h⟩⟩
      | cons x ts =>
        have hxb := hI.todo x (by simp)
        have hx : x < N.length := by have := true_lt hxb; rw [hI.len] at this; omega
        obtain ⟨bs', ts', h1, h2, h3, h4⟩ := inner x hx ts _ 0 bs ts rfl (Nat.zero_le _) hI hxb (by simp at hm; omega) (fun i _ h => absurd h (Nat.not_lt_zero _)) hcl
        obtain ⟨bs'', h5, h6⟩ := ih bs' ts' (by simp at hm; omega) (by omega) h1 h2
        refine ⟨bs'', eH69_0 (bif_pos (dT (by rw [len_n, List.length_cons]; omega)) (ck_pos (dT (by rw [len_n, List.length_cons]; omega)) ?_)), h6⟩
        have e0 : ((nI (x :: ts)).map i64).getD 0 (.dead ()) = i64 (x : Int) := by simp
        rw [e0, S_int]
        refine ck_pos (dT2 (by rw [hr.1]; omega)) ?_
        obtain ⟨q, hq⟩ := hr.at_ hx
        rw [hq, S_slR]
        exact h4 _ h5
  have hlen : (next.length : Int).toNat = n := by rw [hr.1, hN]; omega
  have hrep : ∀ m, (List.replicate m (tb false) : List TV) = (List.replicate m false).map fun b => tb b := fun m => by simp
  have hmk : (decide ((0 : Int) ≤ (next.length : Int)) && decide ((next.length : Int) ≤ (next.length : Int)) && decide ((next.length : Int) * 1 < (lim : Int)) && decide ((next.length : Int) < 9223372036854775807) && true && true) = true := by
    have : (lim : Int) = 140737488355328 := rfl
    have := hr.1
    simp
    omega
  by_cases cb : a0 ∈ but
  · refine ⟨List.replicate n false, e69 (ck_pos hmk ?_), by simp, fun k => ⟨fun h => ?_, fun h => absurd cb h.1⟩⟩
    · rw [C119_S (hbut a0), hlen, hrep]
      exact bif_pos (dT cb) rfl
    · rw [List.getElem?_replicate] at h
      split at h <;> cases h
  · have hst : ∀ a, ((List.replicate n false).set a0 true)[a]? = some true ↔ a = a0 := fun a => by
      rw [List.getElem?_set]
      by_cases c : a0 = a
      · rw [if_pos c, if_pos (by simpa using ha0)]; simp [c]
      · rw [if_neg c, List.getElem?_replicate]
        constructor
        · intro h
          split at h <;> cases h
        · exact fun h => absurd h.symm c
    obtain ⟨bs, h1, h2, h3⟩ := outer 100 ((List.replicate n false).set a0 true) [a0] (by
        have : cntF ((List.replicate n false).set a0 true) ≤ n := by
          refine Nat.le_trans (List.length_filter_le _ _) ?_
          simp
        simp; omega) (Nat.le_refl _) ⟨by simp, fun t ht => (hst t).2 (by simpa using ht), fun a h => by rw [(hst a).1 h]; exact .refl _, (hst a0).2 rfl⟩ (fun a b h1 h2 => absurd ((hst a).1 h1) (by simpa using h2))
    refine ⟨bs, e69 (ck_pos hmk ?_), h2, fun k => (h3 k).trans ⟨fun h => ⟨cb, h⟩, And.right⟩⟩
    rw [C119_S (hbut a0), hlen, hrep]
    refine bif_neg (dF cb) (ck_pos (dT2 (by rw [len_b]; simp; omega)) ?_)
    rw [set_b]
    exact h1
end Go.Tree.Q

/- The law FnExactRunFlow: what it comes to. -/
namespace Go.Tree.Q
open Go.Proofs
set_option linter.unusedVariables false
set_option linter.unusedSimpArgs false
theorem t128 (xs : List F) (left : Int) (hx : xs.length ≤ 9223372036854775807) (h0 : 0 ≤ left ∧ left ≤ 1048576) : tw cx 128 [rF true xs, i64 left] = some ([i64 (if left - xs.length < 0 then -1 else left - xs.length)], []) := by
  refine e128 ?_
  rw [N128, List.length_map, S_bif, w64_id (by omega) (by omega), S_ret, S_ret]
  by_cases c : left - (xs.length : Int) < 0
  · rw [if_pos (dT c), if_pos c]
  · rw [if_neg (by rw [dF c]; simp), if_neg c]
theorem t42 (xs : List Int) (left : Int) (hx : xs.length ≤ 9223372036854775807) (h0 : 0 ≤ left ∧ left ≤ 1048576) : tw cx 42 [rI true xs, i64 left] = some ([i64 (if left - xs.length < 0 then -1 else left - xs.length)], []) := by
  refine e42 ?_
  rw [N42, List.length_map, S_bif, w64_id (by omega) (by omega), S_ret, S_ret]
  by_cases c : left - (xs.length : Int) < 0
  · rw [if_pos (dT c), if_pos c]
  · rw [if_neg (by rw [dF c]; simp), if_neg c]
theorem t172 (x : F) : tw cx 172 [eF x, eF x] = some ([tb true], []) := by
  refine e172 ?_
  simp only [N172, S_bif, S_ret, bne_self_eq_false, Bool.false_eq_true, if_false]
theorem t17 (xs : List Int) (hl : xs.length ≤ big) : tw cx 17 [rI true xs, rI true xs] = some ([tb true], []) := by
  have hb : xs.length ≤ 1073741824 := hl
  have e1 : (xs.map i64).length = xs.length := List.length_map _
  have := all_list (xs := xs) (q := fun _ => true) (H := fun i => S cx 17 (H17_0 (xs.map i64) (xs.map i64) i)) (yes := fun _ => none) (no := ([tb false], [])) (fun j x hx => by
    have hj := lt_of_at hx
    refine ⟨fun _ r h => ?_, fun hq => by cases hq⟩
    refine eH17_0 (bif_pos (dT (by omega)) (ck_pos (dT2 (by omega)) ?_))
    rw [getD_at hx, S_int]
    refine ck_pos (dT2 (by omega)) ?_
    rw [S_int]
    refine bif_neg (by simp) (back_of ?_)
    rw [inc64 hj hb]
    exact h) (eH17_0 (bif_neg (dF (by omega)) rfl))
  refine e17 (bif_neg (by simp) ?_)
  refine Eq.trans this ?_
  simp
theorem t143 (xs : List F) (hl : xs.length ≤ big) : tw cx 143 [rF true xs, rF true xs] = some ([tb true], []) := by
  have hb : xs.length ≤ 1073741824 := hl
  have e1 : (xs.map eF).length = xs.length := List.length_map _
  have := all_list (xs := xs) (q := fun _ => true) (H := fun i => S cx 143 (H143_0 (xs.map eF) (xs.map eF) i)) (yes := fun _ => none) (no := ([tb false], [])) (fun j x hx => by
    have hj := lt_of_at hx
    refine ⟨fun _ r h => ?_, fun hq => by cases hq⟩
    refine eH143_0 (bif_pos (dT (by omega)) (ck_pos (dT2 (by omega)) ?_))
    rw [getD_at hx, V6_1_S]
    refine ck_pos (dT2 (by omega)) ?_
    rw [V6_1_S, C172_S (t172 x)]
    refine bif_neg rfl (back_of ?_)
    rw [inc64 hj hb]
    exact h) (eH143_0 (bif_neg (dF (by omega)) rfl))
  refine e143 (bif_neg (by simp) ?_)
  refine Eq.trans this ?_
  simp
end Go.Tree.Q

/- What is come to in a graph: the reference's way. -/
namespace Go.Tree.Q
open Go.Proofs Go.Tree.Cg
set_option linter.unusedVariables false
set_option linter.unusedSimpArgs false
/-- As many as there are, at most. -/
theorem nd_len : ∀ (n : Nat) (l : List Nat), l.Nodup → (∀ x ∈ l, x < n) → l.length ≤ n
  | 0, l, _, h => by
    cases l with
    | nil => simp
    | cons x l => exact absurd (h x (by simp)) (Nat.not_lt_zero _)
  | n + 1, l, hd, h => by
    by_cases c : n ∈ l
    · have h1 := nd_len n (l.erase n) (hd.erase n) (fun x hx => by
        have := (List.Nodup.mem_erase_iff hd).1 hx
        have := h x this.2
        omega)
      rw [List.length_erase_of_mem c] at h1
      omega
    · have h1 := nd_len n l hd (fun x hx => by
        have := h x hx
        have : x ≠ n := fun e => c (e ▸ hx)
        omega)
      omega
theorem has (ts : List Nat) (x : Nat) (hl : ts.length ≤ 1000) : tw cx 116 [rI true (nI ts), i64 (x : Int)] = some ([tb (decide (x ∈ ts))], []) := by
  rw [t116 (nI ts) (x : Int) (by show _ ≤ 1073741824; simp; omega)]
  simp only [mem_nI]
/-- Distinct, all there, all come to. -/
structure Se (n : Nat) (N : List (List Nat)) (but : List Nat) (ts : List Nat) : Prop where
  nd : ts.Nodup
  lt : ∀ t ∈ ts, t < n
  way : ∀ t ∈ ts, Star (Ed N but) 0 t
  zero : 0 ∈ ts
theorem Se.len {n : Nat} {N : List (List Nat)} {but ts : List Nat} (h : Se n N but ts) : ts.length ≤ n := nd_len n ts h.nd h.lt
theorem Se.add {n : Nat} {N : List (List Nat)} {but ts : List Nat} (hg : Gr n N) (h : Se n N but ts) {a b : Nat} (ha : a ∈ ts) (e : Ed N but a b) (hb : b ∉ ts) : Se n N but (ts ++ [b]) := by
  refine ⟨?_, fun t ht => ?_, fun t ht => ?_, by simp [h.zero]⟩
  · rw [List.nodup_append]
    refine ⟨h.nd, by simp, fun x hx y hy => ?_⟩
    rw [List.mem_singleton.1 hy]
    exact fun e => hb (e ▸ hx)
  · rcases List.mem_append.1 ht with ht | ht
    · exact h.lt t ht
    · rw [List.mem_singleton.1 ht]; exact hg.ed e
  · rcases List.mem_append.1 ht with ht | ht
    · exact h.way t ht
    · rw [List.mem_singleton.1 ht]; exact .tail (h.way a ha) e
/-- How a list grows by what its parts lead to, one after the other. -/
theorem grow {n : Nat} {N : List (List Nat)} (hg : Gr n N) (h0 : 0 < n) (but : List Nat) {H0 : List Nat → Int → Option Res} {H1 : List Nat → Nat → Nat → Option Res} {fin : List Nat → Option Res}
    (go0 : ∀ (ts : List Nat) (i : Nat) (hi : i < ts.length), ts[i] < n → ts.length ≤ n → ∀ r, H1 ts i 0 = some r → H0 ts (i : Int) = some r)
    (end0 : ∀ (ts : List Nat), ts.length ≤ n → ∀ r, fin ts = some r → H0 ts (ts.length : Int) = some r)
    (go1 : ∀ (ts : List Nat) (i j : Nat) (hi : i < ts.length) (hx : ts[i] < N.length) (hj : j < N[ts[i]].length), ts.length ≤ n → ∀ r, (if N[ts[i]][j] ∈ but ∨ N[ts[i]][j] ∈ ts then H1 ts i (j + 1) else H1 (ts ++ [N[ts[i]][j]]) i (j + 1)) = some r → H1 ts i j = some r)
    (end1 : ∀ (ts : List Nat) (i : Nat) (hi : i < ts.length) (hx : ts[i] < N.length), ts.length ≤ n → ∀ r, H0 ts ((i + 1 : Nat) : Int) = some r → H1 ts i N[ts[i]].length = some r)
    {r : List Nat → Res} (hfin : ∀ ts, ts.length ≤ n → ts.Nodup → (∀ t ∈ ts, t < n) → fin ts = some (r ts)) :
    ∃ ts, H0 [0] 0 = some (r ts) ∧ ts.Nodup ∧ ∀ k, k ∈ ts ↔ Star (Ed N but) 0 k := by
  obtain ⟨hN, _, _⟩ := id hg
  have inner : ∀ d (ts : List Nat) (i j : Nat) (hi : i < ts.length) (hx : ts[i] < N.length), N[ts[i]].length - j = d → j ≤ N[ts[i]].length → Se n N but ts → (∀ q (hq : q < N[ts[i]].length), q < j → N[ts[i]][q] ∉ but → N[ts[i]][q] ∈ ts) → (∀ (q : Nat) (hq : q < ts.length), q < i → ∀ b, Ed N but ts[q] b → b ∈ ts) →
      ∃ ts', ts <+: ts' ∧ Se n N but ts' ∧ (∀ (q : Nat) (hq : q < ts'.length), q < i + 1 → ∀ b, Ed N but ts'[q] b → b ∈ ts') ∧ ∀ r, H0 ts' ((i + 1 : Nat) : Int) = some r → H1 ts i j = some r := by
    intro d
    induction d with
    | zero =>
      intro ts i j hi hx hd hj hS hdone hcl
      obtain rfl : j = N[ts[i]].length := by omega
      refine ⟨ts, List.prefix_refl _, hS, fun q hq hqi b e => ?_, end1 ts i hi hx hS.len⟩
      by_cases c : q = i
      · subst c
        obtain ⟨h1, h2, h3⟩ := e
        obtain ⟨p, hp, rfl⟩ := List.mem_iff_getElem.1 h2
        exact hdone p hp hp h3
      · exact hcl q hq (by omega) b e
    | succ d ih =>
      intro ts i j hi hx hd hj hS hdone hcl
      have hjl : j < N[ts[i]].length := by omega
      have h1 := go1 ts i j hi hx hjl hS.len
      by_cases c : N[ts[i]][j] ∈ but ∨ N[ts[i]][j] ∈ ts
      · obtain ⟨ts', h2, h3, h4, h5⟩ := ih ts i (j + 1) hi hx (by omega) (by omega) hS (fun q hq hqj hb => by
          by_cases e : q = j
          · subst e; exact c.elim (fun h => absurd h hb) id
          · exact hdone q hq (by omega) hb) hcl
        exact ⟨ts', h2, h3, h4, fun r h => h1 r (by rw [if_pos c]; exact h5 r h)⟩
      · have c1 : N[ts[i]][j] ∉ but := fun h => c (.inl h)
        have c2 : N[ts[i]][j] ∉ ts := fun h => c (.inr h)
        have hS2 := hS.add hg (List.getElem_mem hi) ⟨hx, List.getElem_mem hjl, c1⟩ c2
        have hi2 : i < (ts ++ [N[ts[i]][j]]).length := by simp; omega
        have ei : (ts ++ [N[ts[i]][j]])[i] = ts[i] := List.getElem_append_left hi
        have hx2 : (ts ++ [N[ts[i]][j]])[i] < N.length := by rw [ei]; exact hx
        have eN : N[(ts ++ [N[ts[i]][j]])[i]] = N[ts[i]] := by simp only [ei]
        obtain ⟨ts', h2, h3, h4, h5⟩ := ih (ts ++ [N[ts[i]][j]]) i (j + 1) hi2 hx2 (by rw [eN]; omega) (by rw [eN]; omega) hS2 (fun q hq hqj hb => by
          have hq' : q < N[ts[i]].length := by rw [eN] at hq; exact hq
          have e2 : N[(ts ++ [N[ts[i]][j]])[i]][q] = N[ts[i]][q] := by simp only [eN]
          rw [e2] at hb ⊢
          by_cases e : q = j
          · subst e; simp
          · exact List.mem_append.2 (.inl (hdone q hq' (by omega) hb))) (fun q hq hqi b e => by
          have hql : q < ts.length := by omega
          have e3 : (ts ++ [N[ts[i]][j]])[q] = ts[q] := List.getElem_append_left hql
          rw [e3] at e
          exact List.mem_append.2 (.inl (hcl q hql hqi b e)))
        exact ⟨ts', (List.prefix_append _ _).trans h2, h3, h4, fun r h => h1 r (by rw [if_neg c]; exact h5 r h)⟩
  have outer : ∀ d (ts : List Nat) (i : Nat), n - i = d → i ≤ ts.length → Se n N but ts → (∀ (q : Nat) (hq : q < ts.length), q < i → ∀ b, Ed N but ts[q] b → b ∈ ts) →
      ∃ ts', H0 ts (i : Int) = some (r ts') ∧ ts'.Nodup ∧ ∀ k, k ∈ ts' ↔ Star (Ed N but) 0 k := by
    intro d
    induction d with
    | zero =>
      intro ts i hd hi hS hcl
      have hl := hS.len
      obtain rfl : i = ts.length := by omega
      refine ⟨ts, end0 ts hl _ (hfin ts hl hS.nd hS.lt), hS.nd, fun k => ⟨hS.way k, fun h => Star.closed (S := fun k => k ∈ ts) hS.zero (fun x y hx e => ?_) h⟩⟩
      obtain ⟨q, hq, rfl⟩ := List.mem_iff_getElem.1 hx
      exact hcl q hq hq y e
    | succ d ih =>
      intro ts i hd hi hS hcl
      have hl := hS.len
      by_cases c : i = ts.length
      · subst c
        refine ⟨ts, end0 ts hl _ (hfin ts hl hS.nd hS.lt), hS.nd, fun k => ⟨hS.way k, fun h => Star.closed (S := fun k => k ∈ ts) hS.zero (fun x y hx e => ?_) h⟩⟩
        obtain ⟨q, hq, rfl⟩ := List.mem_iff_getElem.1 hx
        exact hcl q hq hq y e
      · have hil : i < ts.length := by omega
        have hx := hS.lt _ (List.getElem_mem hil)
        obtain ⟨ts', h1, h2, h3, h4⟩ := inner _ ts i 0 hil (by omega) rfl (Nat.zero_le _) hS (fun q _ h => absurd h (Nat.not_lt_zero _)) hcl
        obtain ⟨ts'', h5, h6⟩ := ih ts' (i + 1) (by omega) (by have := h1.length_le; omega) h2 h3
        exact ⟨ts'', go0 ts i hil hx hl _ (h4 _ h5), h6⟩
  exact outer n [0] 0 rfl (by simp) ⟨by simp, fun t ht => by rw [List.mem_singleton.1 ht]; exact h0, fun t ht => by rw [List.mem_singleton.1 ht]; exact .refl _, by simp⟩ (fun q _ h => absurd h (Nat.not_lt_zero _))
/-- What is come to without a node. -/
theorem t131 {n : Nat} {N : List (List Nat)} {next : List TV} (hg : Gr n N) (hr : Rows next N) (h0 : 0 < n) (gone : Int) (but : List Nat) (hb : ∀ x : Nat, (x : Int) = gone ↔ x ∈ but) :
    ∃ ts : List Nat, tw cx 131 [.st [sl true ⟨1, true⟩ next], i64 gone] = some ([rI false (nI ts)], []) ∧ ts.Nodup ∧ ∀ k, k ∈ ts ↔ (0 ∉ but ∧ Star (Ed N but) 0 k) := by
  obtain ⟨hN, hn, _⟩ := id hg
  by_cases c : gone = 0
  · have : (0 : Nat) ∈ but := (hb 0).1 (by omega)
    exact ⟨[], e131 (bif_pos (by simp [c]) rfl), by simp, fun k => ⟨fun h => (by cases h), fun h => absurd this h.1⟩⟩
  · have h0b : (0 : Nat) ∉ but := fun h => c (by have := (hb 0).2 h; omega)
    have lim1 : ∀ m : Nat, m ≤ 1000 → decide (m * 8 < lim) = true := fun m hm => decide_eq_true (by have : lim = 140737488355328 := rfl; omega)
    obtain ⟨ts, h1, h2, h3⟩ := grow hg h0 but (H0 := fun ts i => S cx 131 (H131_0 gone next ((nI ts).map i64) i)) (H1 := fun ts i j => S cx 131 (H131_1 gone next ((nI ts).map i64) i ((nI (N.getD (ts.getD i 0) [])).map i64) j)) (fin := fun ts => some ([rI false (nI ts)], [])) (r := fun ts => ([rI false (nI ts)], []))
      (fun ts i hi hx hl r h => by
        refine eH131_0 (bif_pos (dT (by rw [len_n]; omega)) (ck_pos (dT2 (by rw [len_n]; omega)) ?_))
        rw [n_at hi, S_int]
        refine ck_pos (dT2 (by rw [hr.1]; omega)) ?_
        obtain ⟨q, hq⟩ := hr.at_ (j := ts[i]) (by omega)
        rw [hq, S_slR]
        have e1 : ts.getD i 0 = ts[i] := by rw [List.getD_eq_getElem?_getD, List.getElem?_eq_getElem hi]; rfl
        have e2 : N.getD ts[i] [] = N[ts[i]]'(by omega) := by rw [List.getD_eq_getElem?_getD, List.getElem?_eq_getElem]; rfl
        rw [e1, e2] at h
        exact h)
      (fun ts hl r h => eH131_0 (bif_neg (dF (by rw [len_n]; omega)) h))
      (fun ts i j hi hx hj hl r h => by
        have e1 : ts.getD i 0 = ts[i] := by rw [List.getD_eq_getElem?_getD, List.getElem?_eq_getElem hi]; rfl
        have e2 : N.getD ts[i] [] = N[ts[i]] := by rw [List.getD_eq_getElem?_getD, List.getElem?_eq_getElem hx]; rfl
        have e3 : (ts ++ [N[ts[i]][j]]).getD i 0 = ts[i] := by rw [List.getD_eq_getElem?_getD, List.getElem?_append_left hi, List.getElem?_eq_getElem hi]; rfl
        have hl12 := (hg.row hx).1
        have hinc : w64 ((j : Int) + 1) = ((j + 1 : Nat) : Int) := inc64 (n := N[ts[i]].length) hj (by omega)
        rw [e1, e2, e3, e2] at h
        rw [e1, e2]
        refine eH131_1 (bif_pos (dT (by rw [len_n]; omega)) (ck_pos (dT2 (by rw [len_n]; omega)) ?_))
        rw [n_at hj, S_int]
        by_cases c1 : N[ts[i]][j] ∈ but
        · rw [if_pos (.inl c1)] at h
          refine bif_neg (by have := (hb _).2 c1; simp [this]) (back_of ?_)
          rw [hinc]; exact h
        · refine bif_pos (by have : ¬ ((N[ts[i]][j] : Nat) : Int) = gone := fun h => c1 ((hb _).1 h)
                             simp [this]) ?_
          rw [C116_S (has ts _ (by omega))]
          by_cases c2 : N[ts[i]][j] ∈ ts
          · rw [if_pos (.inr c2)] at h
            refine bif_neg (by rw [dT c2]; rfl) (back_of ?_)
            rw [hinc]; exact h
          · rw [if_neg (by simp [c1, c2])] at h
            refine bif_pos (by rw [dF c2]; rfl) (ck_pos (lim1 _ (by rw [len_n]; simp; omega)) (back_of ?_))
            rw [hinc, app_n]; exact h)
      (fun ts i hi hx hl r h => by
        have e1 : ts.getD i 0 = ts[i] := by rw [List.getD_eq_getElem?_getD, List.getElem?_eq_getElem hi]; rfl
        have e2 : N.getD ts[i] [] = N[ts[i]] := by rw [List.getD_eq_getElem?_getD, List.getElem?_eq_getElem hx]; rfl
        rw [e1, e2]
        refine eH131_1 (bif_neg (dF (by rw [len_n]; omega)) (back_of ?_))
        rw [inc64 (n := ts.length) hi (by omega)]
        exact h)
      (fun ts _ _ _ => rfl)
    refine ⟨ts, e131 (bif_neg (by simp [c]) h1), h2, fun k => (h3 k).trans ⟨fun h => ⟨h0b, h⟩, And.right⟩⟩
end Go.Tree.Q

/- Graphs of a flow: both ways. -/
namespace Go.Tree.Q
open Go.Proofs Go.Tree.Cg
set_option linter.unusedVariables false
set_option linter.unusedSimpArgs false
theorem lim8 {m : Nat} (hm : m ≤ 100000) : decide (m * 8 < lim) = true := decide_eq_true (by have : lim = 140737488355328 := rfl; omega)
/-- A number put to its place, once. -/
def putV : List Int → Int → List Int
  | [], n => [n]
  | x :: l, n => if x < n then x :: putV l n else if x = n then x :: l else n :: x :: l
theorem putV_mem : ∀ (l : List Int) (n v : Int), v ∈ putV l n ↔ v ∈ l ∨ v = n
  | [], n, v => by simp [putV]
  | x :: l, n, v => by
    unfold putV
    split
    · rw [List.mem_cons, putV_mem l n v, List.mem_cons, or_assoc]
    · split
      · rename_i h1 h2
        subst h2
        simp only [List.mem_cons]
        exact ⟨.inl, fun h => h.elim id .inl⟩
      · simp only [List.mem_cons]
        exact ⟨fun h => h.elim .inr .inl, fun h => h.elim .inr .inl⟩
theorem putV_len : ∀ (l : List Int) (n : Int), (putV l n).length ≤ l.length + 1 ∧ (n ∉ l → (putV l n).length = l.length + 1)
  | [], n => by simp [putV]
  | x :: l, n => by
    have h := putV_len l n
    unfold putV
    split
    · refine ⟨by simp; omega, fun hn => ?_⟩
      have := h.2 (fun hm => hn (by simp [hm]))
      simp; omega
    · split
      · rename_i h1 h2
        exact ⟨by simp, fun hn => absurd (by simp [h2]) hn⟩
      · exact ⟨by simp, fun _ => by simp⟩
theorem t120 (xs : List Int) (n : Int) (hl : xs.length ≤ 1000) : tw cx 120 [rI false xs, i64 n] = some ([rI false (putV xs n)], []) := by
  have s0 : ∀ k : Nat, k ≤ xs.length → S cx 120 (NH120_0_s0 n k (xs.map i64)) = some ([rI false (xs.take k ++ n :: xs.drop k)], []) := fun k hk => by
    have e1 : ((k : Int) - 0).toNat = k := by omega
    have e2 : (((xs.map i64).length : Int) - (k : Int)).toNat = xs.length - k := by rw [len_i]; omega
    have e3 : ((xs.map i64).drop 0).take k = (xs.take k).map i64 := by rw [List.drop_zero, List.map_take]
    have e4 : ((xs.map i64).drop (0 + ((k : Nat) : Int).toNat)).take (xs.length - k) = (xs.drop k).map i64 := by
      rw [zN, List.map_drop, List.take_of_length_le (by simp)]
    unfold NH120_0_s0
    rw [e1, e2, e3, e4]
    refine ck_pos (dT2 (by rw [len_i]; omega)) (ck_pos (lim8 (by simp; omega)) (ck_pos (lim8 (by simp; omega)) (ck_pos ?_ (ck_pos (lim8 (by simp; omega)) ?_))))
    · rw [len_i]; simp; omega
    · rw [S_ret]
      simp
  have key : ∀ d k : Nat, xs.length - k = d → k ≤ xs.length → S cx 120 (H120_0 n k (xs.map i64)) = some ([rI false (xs.take k ++ putV (xs.drop k) n)], []) := by
    intro d
    induction d with
    | zero =>
      intro k hd hk
      obtain rfl : k = xs.length := by omega
      refine eH120_0 (bif_neg (dF (by rw [len_i]; omega)) (bif_neg (dF (by rw [len_i]; omega)) ?_))
      rw [s0 _ (Nat.le_refl _), List.drop_length]
      rfl
    | succ d ih =>
      intro k hd hk
      have hkl : k < xs.length := by omega
      have hdr : xs.drop k = xs[k] :: xs.drop (k + 1) := List.drop_eq_getElem_cons hkl
      have hp : decide ((k : Int) < ((xs.map i64).length : Int)) = true := dT (by rw [len_i]; omega)
      have hp2 : (decide (0 ≤ (k : Int)) && decide ((k : Int) < ((xs.map i64).length : Int))) = true := dT2 (by rw [len_i]; omega)
      refine eH120_0 (bif_pos hp (ck_pos hp2 ?_))
      rw [i64_at hkl, S_int, hdr]
      by_cases c : xs[k] < n
      · refine bif_pos (dT c) (back_of ?_)
        rw [inc64 (n := xs.length) hkl (by omega), ih (k + 1) (by omega) (by omega)]
        simp only [putV, if_pos c]
        have : xs.take (k + 1) = xs.take k ++ [xs[k]] := by rw [List.take_add_one, List.getElem?_eq_getElem hkl]; rfl
        rw [this, List.append_assoc]
        rfl
      · refine bif_neg (dF c) (bif_pos hp (ck_pos hp2 ?_))
        rw [S_int]
        by_cases c2 : xs[k] = n
        · refine bif_pos (by simp [c2]) ?_
          rw [S_ret]
          simp only [putV, if_neg c, if_pos c2]
          rw [← hdr, List.take_append_drop]
        · refine bif_neg (by simp [c2]) ?_
          rw [s0 k hk, hdr]
          simp only [putV, if_neg c, if_neg c2]
  refine e120 ?_
  have := key xs.length 0 (by omega) (by omega)
  simpa [N120] using this
theorem nI_of {zs : List Int} (h : ∀ v ∈ zs, 0 ≤ v) : nI (zs.map Int.toNat) = zs := by
  show (zs.map Int.toNat).map (fun (a : Nat) => (a : Int)) = zs
  rw [List.map_map]
  conv => rhs; rw [← List.map_id zs]
  refine List.map_congr_left fun v hv => ?_
  have := h v hv
  simp; omega
/-- What each block leads to. -/
def N0 (f : List Bk) : List (List Nat) := f.map fun b => b.next.map Int.toNat
theorem mk24 {n : Nat} (h : n ≤ 12) : (decide ((0 : Int) ≤ (n : Int)) && decide ((n : Int) ≤ (n : Int)) && decide ((n : Int) * 24 < (lim : Int)) && decide ((n : Int) < 9223372036854775807) && true && true) = true := by
  have : (lim : Int) = 140737488355328 := rfl
  simp
  omega
end Go.Tree.Q

/- The reference's graph and what is come to in a flow. -/
namespace Go.Tree.Q
open Go.Proofs Go.Tree.Cg
set_option linter.unusedVariables false
set_option linter.unusedSimpArgs false
theorem fold_mem : ∀ (xs acc : List Int) (v : Int), v ∈ xs.foldl putV acc ↔ v ∈ acc ∨ v ∈ xs
  | [], acc, v => by simp
  | x :: xs, acc, v => by
    rw [List.foldl_cons, fold_mem xs (putV acc x) v, putV_mem, List.mem_cons, or_assoc]
theorem fold_len : ∀ (xs acc : List Int), (xs.foldl putV acc).length ≤ acc.length + xs.length
  | [], acc => by simp
  | x :: xs, acc => by
    have h1 := fold_len xs (putV acc x)
    have h2 := (putV_len acc x).1
    rw [List.foldl_cons, List.length_cons]
    omega
end Go.Tree.Q

/- Dominators: the program's and the reference's. -/
namespace Go.Tree.Q
open Go.Proofs Go.Tree.Cg
set_option linter.unusedVariables false
set_option linter.unusedSimpArgs false
/-- One lies on each way to another. -/
def Dm (N : List (List Nat)) (b k : Nat) : Prop := Star (Ed N []) 0 k ∧ Star (Ed N []) 0 b ∧ ¬ (0 ∉ [k] ∧ Star (Ed N [k]) 0 b)
theorem bb_at {DB : List (List Bool)} {b : Nat} (h : b < DB.length) : (DB.map fun r => rT false r).getD (0 + ((b : Nat) : Int).toNat) (.dead ()) = rT false DB[b] := getD_at (e := fun r => rT false r) (List.getElem?_eq_getElem h)
theorem set_bb {DB : List (List Bool)} {b : Nat} {r : List Bool} : (DB.map fun r => rT false r).set (0 + ((b : Nat) : Int).toNat) (rT false r) = (DB.set b r).map fun r => rT false r := by
  rw [zN, List.map_set]
theorem len_bb {DB : List (List Bool)} : (DB.map fun r => rT false r).length = DB.length := List.length_map _
theorem deep_rows (DB : List (List Bool)) : deepL (DB.map fun r => rT false r) = true := by
  induction DB with
  | nil => rfl
  | cons r DB ih => rw [List.map_cons, deepL, ih]; rfl
theorem deep_bb (DB : List (List Bool)) : deepL [sl false ⟨1, true⟩ (DB.map fun r => rT false r)] = true := by
  rw [deepL, deep, deep_rows]; rfl
theorem mk1 {n : Nat} (h : n ≤ 12) : (decide ((0 : Int) ≤ (n : Int)) && decide ((n : Int) ≤ (n : Int)) && decide ((n : Int) * 1 < (lim : Int)) && decide ((n : Int) < 9223372036854775807) && true && true) = true := by
  have : (lim : Int) = 140737488355328 := rfl
  simp
  omega
theorem t138 {n : Nat} {N : List (List Nat)} {next : List TV} (hg : Gr n N) (h0 : 0 < n) (hr : Rows next N) : ∃ DB : List (List Bool), tw cx 138 [sl true ⟨1, true⟩ next] = some ([sl false ⟨1, true⟩ (DB.map fun r => rT false r)], []) ∧ DB.length = n ∧ ∀ (b : Nat) (hb : b < DB.length), DB[b].length = n ∧ ∀ k, DB[b][k]? = some true ↔ Dm N b k := by
  obtain ⟨hN, hn, _⟩ := id hg
  have e1 : next.length = n := by rw [hr.1, hN]
  obtain ⟨aw, a1, a2, a3⟩ := t69 hg hr [] (by simp) 0 h0
  have a3' : ∀ k, aw[k]? = some true ↔ Star (Ed N []) 0 k := fun k => (a3 k).trans ⟨And.right, fun h => ⟨by simp, h⟩⟩
  have e2 : (aw.map fun b => tb b).length = n := by rw [len_b, a2]
  -- one column
  have col : ∀ (j : Nat) (hj : j < n) (hja : aw[j]? = some true) (ls : List Bool) (hl : ls.length = n) (hls : ∀ b, ls[b]? = some true ↔ (0 ∉ [j] ∧ Star (Ed N [j]) 0 b)) (DB0 : List (List Bool)) (h0l : DB0.length = n) (h0r : ∀ (b : Nat) (hb : b < DB0.length), DB0[b].length = n ∧ ∀ k, DB0[b][k]? = some true ↔ k < j ∧ Dm N b k),
      ∀ d i (DB : List (List Bool)), n - i = d → i ≤ n → DB.length = n → (∀ (b : Nat) (hb : b < DB.length), DB[b].length = n ∧ ∀ k, DB[b][k]? = some true ↔ (k < j ∨ (k = j ∧ b < i)) ∧ Dm N b k) →
        ∃ DB' : List (List Bool), DB'.length = n ∧ (∀ (b : Nat) (hb : b < DB'.length), DB'[b].length = n ∧ ∀ k, DB'[b][k]? = some true ↔ k < j + 1 ∧ Dm N b k) ∧ ∀ r, S cx 138 (H138_2 next (DB'.map fun r => rT false r) (aw.map fun b => tb b) ((j + 1 : Nat) : Int)) = some r → S cx 138 (H138_3 next (DB.map fun r => rT false r) (aw.map fun b => tb b) j (ls.map fun b => tb b) j (n : Int) (i : Int)) = some r := by
    intro j hj hja ls hl hls DB0 h0l h0r d
    induction d with
    | zero =>
      intro i DB hd hi hD hDr
      obtain rfl : i = n := by omega
      refine ⟨DB, hD, fun b hb => ⟨(hDr b hb).1, fun k => ((hDr b hb).2 k).trans (and_congr_left fun _ => by omega)⟩, fun r h => eH138_3 (bif_neg (dF (by omega)) (back_of ?_))⟩
      rw [inc64 hj (by omega)]; exact h
    | succ d ih =>
      intro i DB hd hi hD hDr
      have hin : i < n := by omega
      have hiD : i < DB.length := by omega
      have hia : i < aw.length := by omega
      have hil : i < ls.length := by omega
      have hinc : w64 ((i : Int) + 1) = ((i + 1 : Nat) : Int) := inc64 hin (by omega)
      have hrow := hDr i hiD
      -- what is written
      have step : ∀ v : Bool, (v = true ↔ Dm N i j) → ∃ DB' : List (List Bool), DB'.length = n ∧ (∀ (b : Nat) (hb : b < DB'.length), DB'[b].length = n ∧ ∀ k, DB'[b][k]? = some true ↔ k < j + 1 ∧ Dm N b k) ∧ ∀ r, S cx 138 (H138_2 next (DB'.map fun r => rT false r) (aw.map fun b => tb b) ((j + 1 : Nat) : Int)) = some r → S cx 138 (H138_3 next ((DB.set i (DB[i].set j v)).map fun r => rT false r) (aw.map fun b => tb b) j (ls.map fun b => tb b) j (n : Int) ((i + 1 : Nat) : Int)) = some r := fun v hv => by
        refine ih (i + 1) (DB.set i (DB[i].set j v)) (by omega) (by omega) (by rw [List.length_set]; exact hD) (fun b hb => ?_)
        have hb' : b < DB.length := by simpa using hb
        by_cases c : b = i
        · subst c
          rw [List.getElem_set_self]
          refine ⟨by rw [List.length_set]; exact hrow.1, fun k => ?_⟩
          rw [List.getElem?_set]
          by_cases ck : j = k
          · subst ck
            rw [if_pos rfl, if_pos (by omega)]
            simp only [Option.some.injEq]
            rw [hv]
            exact ⟨fun h => ⟨.inr ⟨by trivial, by omega⟩, h⟩, And.right⟩
          · rw [if_neg ck, hrow.2 k]
            exact and_congr_left fun _ => by omega
        · rw [List.getElem_set_ne (fun h => c h.symm)]
          refine ⟨(hDr b hb').1, fun k => ((hDr b hb').2 k).trans (and_congr_left fun _ => by omega)⟩
      cases hav : aw[i] with
      | true =>
        have hav' : aw[i]? = some true := by rw [List.getElem?_eq_getElem hia, hav]
        obtain ⟨DB', h1, h2, h3⟩ := step (!ls[i]) (by
          have e : (!ls[i]) = true ↔ ¬ ls[i]? = some true := by rw [List.getElem?_eq_getElem hil]; cases ls[i] <;> simp
          rw [e, hls i]
          exact ⟨fun h => ⟨(a3' j).1 hja, (a3' i).1 hav', h⟩, fun h => h.2.2⟩)
        refine ⟨DB', h1, h2, fun r h => ?_⟩
        have h4 := h3 r h
        refine eH138_3 (bif_pos (dT (by omega)) (ck_pos (dT2 (by rw [len_bb]; omega)) (ck_pos (dT2 (by rw [len_b]; omega)) ?_)))
        rw [b_at hia, S_bool, hav]
        refine bif_pos rfl (ck_pos (dT2 (by rw [len_b]; omega)) ?_)
        rw [b_at hil, S_bool, bb_at hiD, S_slO, S_slB]
        have fin : S cx 138 (NH138_3_s0 next (DB.map fun r => rT false r) (aw.map fun b => tb b) j (ls.map fun b => tb b) j (n : Int) i ls[i] (DB[i].map fun b => tb b)) = some r := by
          unfold NH138_3_s0
          refine ck_pos (dT2 (by rw [len_b, hrow.1]; omega)) ?_
          rw [bb_at hiD, S_slB]
          refine back_of ?_
          rw [hinc, set_b, set_bb]
          exact h4
        exact fin
      | false =>
        obtain ⟨DB', h1, h2, h3⟩ := step false ⟨fun h => (by cases h), fun h => by
          have := (a3' i).2 h.2.1
          rw [List.getElem?_eq_getElem hia, hav] at this
          cases this⟩
        refine ⟨DB', h1, h2, fun r h => ?_⟩
        have h4 := h3 r h
        refine eH138_3 (bif_pos (dT (by omega)) (ck_pos (dT2 (by rw [len_bb]; omega)) (ck_pos (dT2 (by rw [len_b]; omega)) ?_)))
        rw [b_at hia, S_bool, hav]
        refine bif_neg rfl ?_
        rw [bb_at hiD, S_slO, S_slB]
        have fin : S cx 138 (NH138_3_s1 next (DB.map fun r => rT false r) (aw.map fun b => tb b) j (ls.map fun b => tb b) j (n : Int) i (DB[i].map fun b => tb b)) = some r := by
          unfold NH138_3_s1
          refine ck_pos (dT2 (by rw [len_b, hrow.1]; omega)) ?_
          rw [bb_at hiD, S_slB]
          refine back_of ?_
          rw [hinc, set_b, set_bb]
          exact h4
        exact fin
  -- all columns
  have cols : ∀ d j (DB : List (List Bool)), n - j = d → j ≤ n → DB.length = n → (∀ (b : Nat) (hb : b < DB.length), DB[b].length = n ∧ ∀ k, DB[b][k]? = some true ↔ k < j ∧ Dm N b k) →
      ∃ DB' : List (List Bool), S cx 138 (H138_2 next (DB.map fun r => rT false r) (aw.map fun b => tb b) (j : Int)) = some ([sl false ⟨1, true⟩ (DB'.map fun r => rT false r)], []) ∧ DB'.length = n ∧ ∀ (b : Nat) (hb : b < DB'.length), DB'[b].length = n ∧ ∀ k, DB'[b][k]? = some true ↔ Dm N b k := by
    intro d
    induction d with
    | zero =>
      intro j DB hd hj hD hDr
      obtain rfl : j = n := by omega
      refine ⟨DB, eH138_2 (bif_neg (dF (by rw [e2]; omega)) rfl), hD, fun b hb => ⟨(hDr b hb).1, fun k => ((hDr b hb).2 k).trans ⟨And.right, fun h => ⟨?_, h⟩⟩⟩⟩
      exact hg.star h0 h.1
    | succ d ih =>
      intro j DB hd hj hD hDr
      have hjn : j < n := by omega
      have hja : j < aw.length := by omega
      cases hav : aw[j] with
      | true =>
        have hav' : aw[j]? = some true := by rw [List.getElem?_eq_getElem hja, hav]
        obtain ⟨ls, b1, b2, b3⟩ := t69 hg hr [j] (by simp) 0 h0
        obtain ⟨DB1, c1, c2, c3⟩ := col j hjn hav' ls b2 b3 DB hD hDr n 0 DB rfl (Nat.zero_le _) hD (fun b hb => ⟨(hDr b hb).1, fun k => ((hDr b hb).2 k).trans (and_congr_left fun _ => by omega)⟩)
        obtain ⟨DB2, d1, d2⟩ := ih (j + 1) DB1 (by omega) (by omega) c1 c2
        refine ⟨DB2, eH138_2 (bif_pos (dT (by rw [e2]; omega)) (ck_pos (dT2 (by rw [e2]; omega)) ?_)), d2⟩
        rw [b_at hja, S_bool, hav]
        refine bif_neg rfl ?_
        have b1' : tw cx 69 [sl true ⟨1, true⟩ next, i64 0, sl true ⟨1, false⟩ [i64 (j : Int)]] = some ([sl false ⟨1, false⟩ (ls.map fun b => tb b)], []) := b1
        rw [C69_S b1', len_bb, hD]
        exact c3 _ d1
      | false =>
        have hno : ∀ b, ¬ Dm N b j := fun b h => by
          have := (a3' j).2 h.1
          rw [List.getElem?_eq_getElem hja, hav] at this
          cases this
        obtain ⟨DB2, d1, d2⟩ := ih (j + 1) DB (by omega) (by omega) hD (fun b hb => ⟨(hDr b hb).1, fun k => ((hDr b hb).2 k).trans ⟨fun h => ⟨by omega, h.2⟩, fun h => ⟨by
          by_cases c : k = j
          · subst c; exact absurd h.2 (hno b)
          · omega, h.2⟩⟩⟩)
        refine ⟨DB2, eH138_2 (bif_pos (dT (by rw [e2]; omega)) (ck_pos (dT2 (by rw [e2]; omega)) ?_)), d2⟩
        rw [b_at hja, S_bool, hav]
        refine bif_pos rfl (back_of ?_)
        rw [inc64 hjn (by omega)]
        exact d1
  -- rows made
  have hrep : ∀ m, (List.replicate m (tb false) : List TV) = (List.replicate m false).map fun b => tb b := fun m => by simp
  have made : ∀ d i (DB : List (List Bool)), n - i = d → i ≤ n → DB.length = n → (∀ (b : Nat) (hb : b < DB.length), b < i → DB[b] = List.replicate n false) →
      ∃ DB' : List (List Bool), S cx 138 (H138_1 next (DB.map fun r => rT false r) (aw.map fun b => tb b) (i : Int)) = some ([sl false ⟨1, true⟩ (DB'.map fun r => rT false r)], []) ∧ DB'.length = n ∧ ∀ (b : Nat) (hb : b < DB'.length), DB'[b].length = n ∧ ∀ k, DB'[b][k]? = some true ↔ Dm N b k := by
    intro d
    induction d with
    | zero =>
      intro i DB hd hi hD hDr
      obtain rfl : i = n := by omega
      obtain ⟨DB', h1, h2⟩ := cols i 0 DB rfl (Nat.zero_le _) hD (fun b hb => by
        rw [hDr b hb (by omega)]
        refine ⟨by simp, fun k => ⟨fun h => ?_, fun h => absurd h.1 (Nat.not_lt_zero _)⟩⟩
        rw [List.getElem?_replicate] at h
        split at h <;> cases h)
      exact ⟨DB', eH138_1 (bif_neg (dF (by simp; omega)) h1), h2⟩
    | succ d ih =>
      intro i DB hd hi hD hDr
      have hin : i < n := by omega
      obtain ⟨DB', h1, h2⟩ := ih (i + 1) (DB.set i (List.replicate n false)) (by omega) (by omega) (by rw [List.length_set]; exact hD) (fun b hb hbi => by
        by_cases c : b = i
        · subst c; rw [List.getElem_set_self]
        · rw [List.getElem_set_ne (fun h => c h.symm)]
          exact hDr b (by simpa using hb) (by omega))
      refine ⟨DB', eH138_1 (bif_pos (dT (by simp; omega)) (ck_pos (by rw [e1]; exact mk1 hn) (ck_pos (dT2 (by rw [len_bb]; omega)) (back_of ?_)))), h2⟩
      rw [e1, Int.toNat_natCast n, inc64 hin (by omega), hrep, set_bb]
      exact h1
  have hr0 : (List.replicate n (sl false ⟨1, false⟩ []) : List TV) = (List.replicate n ([] : List Bool)).map fun r => rT false r := by simp
  obtain ⟨DB, h1, h2⟩ := made n 0 (List.replicate n []) rfl (Nat.zero_le _) (by simp) (fun b hb h => absurd h (Nat.not_lt_zero _))
  have a1' : tw cx 69 [sl true ⟨1, true⟩ next, i64 0, sl true ⟨1, false⟩ []] = some ([sl false ⟨1, false⟩ (aw.map fun b => tb b)], []) := a1
  have fin : S cx 138 (G138_0 next (aw.map fun b => tb b)) = some ([sl false ⟨1, true⟩ (DB.map fun r => rT false r)], []) := by
    refine eG138_0 ?_
    unfold NG138_0
    rw [e1, Int.toNat_natCast, hr0]
    exact h1
  refine ⟨DB, e138 (S_amb2 (ck_pos (by rw [e1]; exact mk24 hn) ?_) ?_), h2⟩
  · rw [C69_S a1']; exact fin
  · rw [C69_S a1']; exact ck_pos (by rw [e1]; exact mk24 hn) fin
end Go.Tree.Q

/- Dominators: the reference's. -/
namespace Go.Tree.Q
open Go.Proofs Go.Tree.Cg
set_option linter.unusedVariables false
set_option linter.unusedSimpArgs false
theorem rr_at {RB : List (List Int)} {b : Nat} (h : b < RB.length) : (RB.map fun r => rI false r).getD (0 + ((b : Nat) : Int).toNat) (.dead ()) = rI false RB[b] := getD_at (e := fun r => rI false r) (List.getElem?_eq_getElem h)
theorem len_rr {RB : List (List Int)} : (RB.map fun r => rI false r).length = RB.length := List.length_map _
theorem set_rr {RB : List (List Int)} {b : Nat} {r : List Int} : ((RB.map fun r => rI false r).set (0 + ((b : Nat) : Int).toNat) (.dead ())).set (0 + ((b : Nat) : Int).toNat) (rI false r) = (RB.set b r).map fun r => rI false r := by
  rw [List.set_set, zN, List.map_set]
/-- The rows, each node's dominators so far. -/
structure Dr (n : Nat) (RB : List (List Int)) (P : Nat → Nat → Prop) (m : Nat) : Prop where
  len : RB.length = n
  row : ∀ (b : Nat) (hb : b < RB.length), RB[b].length ≤ m ∧ ∀ v, v ∈ RB[b] ↔ ∃ d : Nat, v = (d : Int) ∧ P b d
theorem t84 {n : Nat} {N : List (List Nat)} {next : List TV} (hg : Gr n N) (h0 : 0 < n) (hr : Rows next N) : ∃ D : List (List Nat), tw cx 84 [.st [sl true ⟨1, true⟩ next]] = some ([sl false ⟨1, true⟩ (D.map fun r => rI false (nI r))], []) ∧ D.length = n ∧ ∀ (b : Nat) (hb : b < D.length), D[b].length ≤ 1000 ∧ ∀ d, d ∈ D[b] ↔ Dm N b d := by
  obtain ⟨hN, hn, _⟩ := id hg
  have e1 : next.length = n := by rw [hr.1, hN]
  obtain ⟨re, a1, a2, a3⟩ := t131 hg hr h0 (-1) [] (fun x => ⟨fun h => (by omega), fun h => (by cases h)⟩)
  have a3' : ∀ k, k ∈ re ↔ Star (Ed N []) 0 k := fun k => (a3 k).trans ⟨And.right, fun h => ⟨by simp, h⟩⟩
  have hre : re.length ≤ 12 := Nat.le_trans (nd_len n re a2 (fun x hx => hg.star h0 ((a3' x).1 hx))) hn
  -- one node's
  have col : ∀ (j : Nat) (hj : j < n) (ls : List Nat) (hl : ls.length ≤ 12) (hls : ∀ b, b ∈ ls ↔ (0 ∉ [j] ∧ Star (Ed N [j]) 0 b)), ∀ d i (RB : List (List Int)), re.length - i = d → i ≤ re.length → Dr n RB (fun b k => (k < j ∨ (k = j ∧ b ∈ re.take i)) ∧ Dm N b k) (13 * j + i) →
      ∃ RB', Dr n RB' (fun b k => k < j + 1 ∧ Dm N b k) (13 * (j + 1)) ∧ ∀ r, S cx 84 (H84_0 next (RB'.map fun r => rI false r) ((nI re).map i64) ((j + 1 : Nat) : Int)) = some r → S cx 84 (H84_1 next (RB.map fun r => rI false r) ((nI re).map i64) j ((nI ls).map i64) j (i : Int)) = some r := by
    intro j hj ls hl hls d
    induction d with
    | zero =>
      intro i RB hd hi hD
      obtain rfl : i = re.length := by omega
      refine ⟨RB, ⟨hD.len, fun b hb => ⟨by have := (hD.row b hb).1; omega, fun v => ((hD.row b hb).2 v).trans ⟨?_, ?_⟩⟩⟩, fun r h => eH84_1 (bif_neg (dF (by rw [len_n]; omega)) (back_of ?_))⟩
      · rintro ⟨k, rfl, h1, h2⟩
        exact ⟨k, rfl, by omega, h2⟩
      · rintro ⟨k, rfl, h1, h2⟩
        refine ⟨k, rfl, ?_, h2⟩
        by_cases c : k = j
        · exact .inr ⟨c, by rw [List.take_length]; exact (a3' b).2 h2.2.1⟩
        · exact .inl (by omega)
      · rw [inc64 hj (by omega)]; exact h
    | succ d ih =>
      intro i RB hd hi hD
      have hil : i < re.length := by omega
      have hx : re[i] < n := hg.star h0 ((a3' _).1 (List.getElem_mem hil))
      have hxR : re[i] < RB.length := by rw [hD.len]; exact hx
      have hinc : w64 ((i : Int) + 1) = ((i + 1 : Nat) : Int) := inc64 hil (by omega)
      have htk : ∀ b, b ∈ re.take (i + 1) ↔ b ∈ re.take i ∨ b = re[i] := fun b => by
        rw [List.take_add_one, List.getElem?_eq_getElem hil, List.mem_append]
        simp
      have no : (¬ Dm N re[i] j) → ∃ RB', Dr n RB' (fun b k => k < j + 1 ∧ Dm N b k) (13 * (j + 1)) ∧ ∀ r, S cx 84 (H84_0 next (RB'.map fun r => rI false r) ((nI re).map i64) ((j + 1 : Nat) : Int)) = some r → S cx 84 (H84_1 next (RB.map fun r => rI false r) ((nI re).map i64) j ((nI ls).map i64) j ((i + 1 : Nat) : Int)) = some r := fun hno => by
        refine ih (i + 1) RB (by omega) (by omega) ⟨hD.len, fun b hb => ⟨by have := (hD.row b hb).1; omega, fun v => ((hD.row b hb).2 v).trans ⟨?_, ?_⟩⟩⟩
        · rintro ⟨k, rfl, h1, h2⟩
          exact ⟨k, rfl, h1.imp id (fun h => ⟨h.1, (htk b).2 (.inl h.2)⟩), h2⟩
        · rintro ⟨k, rfl, h1, h2⟩
          refine ⟨k, rfl, h1.imp id (fun h => ⟨h.1, ((htk b).1 h.2).elim id fun e => ?_⟩), h2⟩
          rw [h.1, e] at h2
          exact absurd h2 hno
      have mk : ∀ RB', (∀ r, S cx 84 (H84_0 next RB' ((nI re).map i64) ((j + 1 : Nat) : Int)) = some r → S cx 84 (H84_1 next (RB.map fun r => rI false r) ((nI re).map i64) j ((nI ls).map i64) j ((i + 1 : Nat) : Int)) = some r) → (j ∉ re ∨ re[i] ∈ ls) → ∀ r, S cx 84 (H84_0 next RB' ((nI re).map i64) ((j + 1 : Nat) : Int)) = some r → S cx 84 (H84_1 next (RB.map fun r => rI false r) ((nI re).map i64) j ((nI ls).map i64) j (i : Int)) = some r := fun RB' h3 hc r h => by
        refine eH84_1 (bif_pos (dT (by rw [len_n]; omega)) (ck_pos (dT2 (by rw [len_n]; omega)) ?_))
        rw [n_at hil, S_int, C116_S (has re j (by omega))]
        by_cases c1 : j ∈ re
        · refine bif_pos (dT c1) ?_
          rw [C116_S (has ls _ (by omega))]
          have c2 : re[i] ∈ ls := hc.elim (fun h => absurd c1 h) id
          refine eG84_2 (bif_neg (by rw [dT c2]; rfl) (back_of ?_))
          rw [hinc]; exact h3 r h
        · refine bif_neg (dF c1) (eG84_2 (bif_neg rfl (back_of ?_)))
          rw [hinc]; exact h3 r h
      by_cases c1 : j ∈ re
      · by_cases c2 : re[i] ∈ ls
        · obtain ⟨RB', h1, h3⟩ := no (fun h => h.2.2 ((hls _).1 c2))
          exact ⟨RB', h1, mk _ h3 (.inr c2)⟩
        · have hyes : Dm N re[i] j := ⟨(a3' j).1 c1, (a3' _).1 (List.getElem_mem hil), fun h => c2 ((hls _).2 h)⟩
          have hrow := hD.row _ hxR
          obtain ⟨RB', h1, h3⟩ := ih (i + 1) (RB.set re[i] (putV RB[re[i]] j)) (by omega) (by omega) ⟨by rw [List.length_set]; exact hD.len, fun b hb => by
            have hb' : b < RB.length := by simpa using hb
            by_cases c : b = re[i]
            · subst c
              rw [List.getElem_set_self]
              refine ⟨by have := (putV_len RB[re[i]] j).1; omega, fun v => ?_⟩
              rw [putV_mem, hrow.2 v]
              constructor
              · rintro (⟨k, rfl, h1, h2⟩ | rfl)
                · exact ⟨k, rfl, h1.imp id (fun h => ⟨h.1, (htk _).2 (.inl h.2)⟩), h2⟩
                · exact ⟨j, rfl, .inr ⟨rfl, (htk _).2 (.inr rfl)⟩, hyes⟩
              · rintro ⟨k, rfl, h1, h2⟩
                by_cases ck : k = j
                · exact .inr (by rw [ck])
                · exact .inl ⟨k, rfl, .inl (h1.elim id fun h => absurd h.1 ck), h2⟩
            · rw [List.getElem_set_ne (fun h => c h.symm)]
              refine ⟨by have := (hD.row b hb').1; omega, fun v => ((hD.row b hb').2 v).trans ⟨?_, ?_⟩⟩
              · rintro ⟨k, rfl, h1, h2⟩
                exact ⟨k, rfl, h1.imp id (fun h => ⟨h.1, (htk b).2 (.inl h.2)⟩), h2⟩
              · rintro ⟨k, rfl, h1, h2⟩
                exact ⟨k, rfl, h1.imp id (fun h => ⟨h.1, ((htk b).1 h.2).elim id fun e => absurd e c⟩), h2⟩⟩
          refine ⟨RB', h1, fun r h => eH84_1 (bif_pos (dT (by rw [len_n]; omega)) (ck_pos (dT2 (by rw [len_n]; omega)) ?_))⟩
          rw [n_at hil, S_int, C116_S (has re j (by omega))]
          refine bif_pos (dT c1) ?_
          rw [C116_S (has ls _ (by omega))]
          refine eG84_2 (bif_pos (by rw [dF c2]; rfl) (ck_pos (dT2 (by rw [len_rr]; omega)) ?_))
          rw [rr_at hxR, S_slO, S_slO, C120_S (t120 _ _ (by omega))]
          refine ck_pos (dT2 (by rw [List.length_set, len_rr]; omega)) (back_of ?_)
          rw [hinc, set_rr]
          exact h3 r h
      · obtain ⟨RB', h1, h3⟩ := no (fun h => c1 ((a3' j).2 h.1))
        exact ⟨RB', h1, mk _ h3 (.inl c1)⟩
  have cols : ∀ d j (RB : List (List Int)), n - j = d → j ≤ n → Dr n RB (fun b k => k < j ∧ Dm N b k) (13 * j) →
      ∃ RB', S cx 84 (H84_0 next (RB.map fun r => rI false r) ((nI re).map i64) (j : Int)) = some ([sl false ⟨1, true⟩ (RB'.map fun r => rI false r)], []) ∧ Dr n RB' (Dm N) 1000 := by
    intro d
    induction d with
    | zero =>
      intro j RB hd hj hD
      obtain rfl : j = n := by omega
      refine ⟨RB, eH84_0 (bif_neg (dF (by rw [e1]; omega)) rfl), hD.len, fun b hb => ⟨by have := (hD.row b hb).1; omega, fun v => ((hD.row b hb).2 v).trans ⟨?_, ?_⟩⟩⟩
      · rintro ⟨k, rfl, _, h⟩
        exact ⟨k, rfl, h⟩
      · rintro ⟨k, rfl, h⟩
        exact ⟨k, rfl, hg.star h0 h.1, h⟩
    | succ d ih =>
      intro j RB hd hj hD
      have hjn : j < n := by omega
      obtain ⟨ls, b1, b2, b3⟩ := t131 hg hr h0 (j : Int) [j] (fun x => ⟨fun h => List.mem_singleton.2 (by omega), fun h => by rw [List.mem_singleton.1 h]⟩)
      have hl : ls.length ≤ 12 := Nat.le_trans (nd_len n ls b2 (fun x hx => hg.star h0 ((b3 x).1 hx).2)) hn
      obtain ⟨RB1, c1, c2⟩ := col j hjn ls hl b3 re.length 0 RB rfl (Nat.zero_le _) ⟨hD.len, fun b hb => ⟨(hD.row b hb).1, fun v => ((hD.row b hb).2 v).trans ⟨fun ⟨k, h1, h2, h3⟩ => ⟨k, h1, .inl h2, h3⟩, fun ⟨k, h1, h2, h3⟩ => ⟨k, h1, h2.elim id (fun h => by simp at h), h3⟩⟩⟩⟩
      obtain ⟨RB2, d1, d2⟩ := ih (j + 1) RB1 (by omega) (by omega) c1
      refine ⟨RB2, eH84_0 (bif_pos (dT (by rw [e1]; omega)) ?_), d2⟩
      rw [C131_S b1]
      exact c2 _ d1
  have hr0 : (List.replicate n (sl false ⟨1, false⟩ []) : List TV) = (List.replicate n ([] : List Int)).map fun r => rI false r := by simp
  obtain ⟨RB, h1, h2⟩ := cols n 0 (List.replicate n []) rfl (Nat.zero_le _) ⟨by simp, fun b hb => by
    rw [List.getElem_replicate]
    exact ⟨by simp, fun v => ⟨fun h => (by cases h), fun ⟨k, _, h, _⟩ => absurd h (Nat.not_lt_zero _)⟩⟩⟩
  have hrow : ∀ (b : Nat) (hb : b < RB.length), nI (RB[b].map Int.toNat) = RB[b] := fun b hb => nI_of fun v hv => by
    obtain ⟨d, rfl, _⟩ := ((h2.row b hb).2 v).1 hv
    omega
  have hmap : ((RB.map fun r => r.map Int.toNat).map fun r => rI false (nI r)) = RB.map fun r => rI false r := by
    rw [List.map_map]
    refine List.map_congr_left fun r hr => ?_
    obtain ⟨b, hb, rfl⟩ := List.mem_iff_getElem.1 hr
    show rI false (nI (RB[b].map Int.toNat)) = _
    rw [hrow b hb]
  refine ⟨RB.map fun r => r.map Int.toNat, e84 (ck_pos (by rw [e1]; exact mk24 hn) ?_), by rw [List.length_map]; exact h2.len, fun b hb => ?_⟩
  · rw [C131_S a1, e1, Int.toNat_natCast, hr0, hmap]
    exact h1
  · have hb' : b < RB.length := by simpa using hb
    rw [List.getElem_map]
    refine ⟨by rw [List.length_map]; exact (h2.row b hb').1, fun d => ?_⟩
    rw [← mem_nI, hrow b hb', (h2.row b hb').2]
    constructor
    · rintro ⟨k, h3, h4⟩
      obtain rfl : d = k := by omega
      exact h4
    · exact fun h => ⟨d, rfl, h⟩
end Go.Tree.Q
