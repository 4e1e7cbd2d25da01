/- What these points come to: good flows, graphs, dominators, merges; the law answers true. Conditions: none. -/
import Derived.Test.YtmgkciadnmnbjaaGreatMt3
import Derived.Test.YtmgkciadnmnbjaaGreatMq
import Derived.Test.YtmgkciadnmnbjaaGreatMt1
/- Values told natively; copying, comparing, counting. -/
namespace Go.Tree.Q
open Go.Proofs
set_option linter.unusedVariables false
set_option linter.unusedSimpArgs false
theorem back_of {f : FuncId} {p : List Nat} {e : Env} {X : Option Res} (h : S cx f (.head p e) = X) : S cx f (.back p e) = X := h
theorem w64_id {x : Int} (h0 : -9223372036854775808 ≤ x) (h1 : x < 9223372036854775808) : w64 x = x := by
  show IntKind.i64.wrap x = x
  rw [IntKind.wrap_i64]; omega
theorem dT {p : Prop} [Decidable p] (h : p) : decide p = true := decide_eq_true h
theorem dF {p : Prop} [Decidable p] (h : ¬p) : decide p = false := decide_eq_false h
theorem dT2 {p q : Prop} [Decidable p] [Decidable q] (h : p ∧ q) : (decide p && decide q) = true := by simp [h]
theorem zN {j : Nat} : (0 + ((j : Nat) : Int).toNat) = j := by omega
/-- A line of flat code. -/
structure F where
  op : Int
  fdo : Int
  dst : Int
  a : Int
  b : Int
  n : Int
  deriving DecidableEq, Inhabited
abbrev eF (x : F) : TV := .st [i64 x.op, i64 x.fdo, i64 x.dst, i64 x.a, i64 x.b, i64 x.n]
/-- A block. -/
structure Bk where
  code : List F
  go : Int
  test : Int
  next : List Int
  deriving DecidableEq, Inhabited
abbrev rF (q : Bool) (xs : List F) : TV := sl q ⟨6, false⟩ (xs.map eF)
abbrev rI (q : Bool) (xs : List Int) : TV := sl q ⟨1, false⟩ (xs.map i64)
abbrev eB (q : Bool) (x : Bk) : TV := .st [rF q x.code, i64 x.go, i64 x.test, rI q x.next]
abbrev rB (q q' : Bool) (xs : List Bk) : TV := sl q ⟨4, true⟩ (xs.map (eB q'))
/-- A state. -/
structure Sx where
  loc : List Int
  mem : List Int
  told : List Int
  deriving DecidableEq, Inhabited
theorem copy_loop {H : List TV → Int → Option Res} {l : List TV} {fin : List TV → Res} (z : TV)
    (hr : ∀ (j : Nat) (x : TV) (out : List TV), l[j]? = some x → out.length = l.length → H (out.set j x) ((j + 1 : Nat) : Int) = some (fin l) → H out (j : Int) = some (fin l))
    (he : H l (l.length : Int) = some (fin l)) : H (List.replicate l.length z) 0 = some (fin l) := by
  have key : ∀ d j : Nat, l.length - j = d → j ≤ l.length → H (l.take j ++ List.replicate (l.length - j) z) (j : Int) = some (fin l) := by
    intro d
    induction d with
    | zero =>
      intro j hd hj
      have : j = l.length := by omega
      subst this
      simpa using he
    | succ d ih =>
      intro j hd hj
      obtain ⟨x, hx⟩ := at_some (show j < l.length by omega)
      refine hr j x _ hx (by simp; omega) ?_
      have e : (l.take j ++ List.replicate (l.length - j) z).set j x = l.take (j + 1) ++ List.replicate (l.length - (j + 1)) z := by
        have h1 : (l.take j).length = j := by simp; omega
        rw [List.set_append_right _ _ (by omega), h1, Nat.sub_self, show l.length - j = (l.length - (j + 1)) + 1 by omega, List.replicate_succ, List.set_cons_zero, List.take_add_one, hx]
        simp
      rw [e]
      exact ih (j + 1) (by omega) (by omega)
  simpa using key l.length 0 (by omega) (by omega)
theorem inc64 {j : Nat} {n : Nat} (h : j < n) (hn : n ≤ 1073741824) : w64 ((j : Int) + 1) = ((j + 1 : Nat) : Int) := by
  rw [w64_id (by omega) (by omega)]; omega
theorem lt_of_at {β : Type} {l : List β} {j : Nat} {x : β} (h : l[j]? = some x) : j < l.length := (List.getElem?_eq_some_iff.1 h).1
theorem map_at {β : Type} {e : β → TV} {xs : List β} {j : Nat} {t : TV} (h : (xs.map e)[j]? = some t) : ∃ x, xs[j]? = some x ∧ t = e x := by
  rw [List.getElem?_map] at h
  obtain ⟨x, h1, h2⟩ := Option.map_eq_some_iff.1 h
  exact ⟨x, h1, h2.symm⟩
theorem mk_ok {n : Nat} {B : Int} (h : (n : Int) * B < 140737488355328) (hn : n ≤ 1073741824) : (decide ((0 : Int) ≤ (n : Int)) && decide ((n : Int) ≤ (n : Int)) && decide ((n : Int) * B < (lim : Int)) && decide ((n : Int) < 9223372036854775807) && true && true) = true := by
  have hl : (lim : Int) = 140737488355328 := rfl
  rw [hl, dT h, dT (show (0 : Int) ≤ n by omega), dT (Int.le_refl _), dT (show (n : Int) < 9223372036854775807 by omega)]
  rfl
theorem t50 (x : F) : tw cx 50 [eF x] = some ([eF x], []) := e50 rfl
theorem t38 (xs : List Int) (q : Bool) (hl : xs.length ≤ 1073741824) : tw cx 38 [rI true xs] = some ([rI false xs], []) := by
  refine e38 (ck_pos ?_ ?_)
  · exact mk_ok (by rw [List.length_map]; omega) (by rw [List.length_map]; omega)
  · rw [show (((xs.map i64).length : Nat) : Int).toNat = (xs.map i64).length by omega]
    refine copy_loop (H := fun out i => S cx 38 (H38_0 (xs.map i64) out i)) (fin := fun l => ([sl false ⟨1, false⟩ l], [])) _ (fun j t out hx hout h => ?_) ?_
    · obtain ⟨x, hx', rfl⟩ := map_at hx
      have hj := lt_of_at hx
      have hj' : j < xs.length := by simpa using hj
      refine eH38_0 (bif_pos (dT (by omega)) (ck_pos (dT2 (by omega)) ?_))
      rw [zN, getD_map' hx', S_int]
      refine ck_pos (dT2 (by omega)) (back_of ?_)
      rw [inc64 hj' hl]
      exact h
    · exact eH38_0 (bif_neg (dF (by omega)) rfl)
theorem t37 (xs : List F) (hl : xs.length ≤ 1073741824) : tw cx 37 [rF true xs] = some ([rF false xs], []) := by
  refine e37 (ck_pos ?_ ?_)
  · exact mk_ok (by rw [List.length_map]; omega) (by rw [List.length_map]; omega)
  · rw [show (((xs.map eF).length : Nat) : Int).toNat = (xs.map eF).length by omega]
    refine copy_loop (H := fun out i => S cx 37 (H37_0 (xs.map eF) out i)) (fin := fun l => ([sl false ⟨6, false⟩ l], [])) _ (fun j t out hx hout h => ?_) ?_
    · obtain ⟨x, hx', rfl⟩ := map_at hx
      have hj := lt_of_at hx
      have hj' : j < xs.length := by simpa using hj
      refine eH37_0 (bif_pos (dT (by omega)) (ck_pos (dT2 (by omega)) ?_))
      rw [zN, getD_map' hx', V6_S, C50_S (t50 x)]
      refine ck_pos (dT2 (by omega)) (back_of ?_)
      rw [inc64 hj' hl]
      exact h
    · exact eH37_0 (bif_neg (dF (by omega)) rfl)
theorem t19 (x : Bk) (h1 : x.code.length ≤ 1073741824) (h2 : x.next.length ≤ 1073741824) : tw cx 19 [eB true x] = some ([eB false x], []) := by
  refine e19 ?_
  rw [N19, C37_S (t37 x.code h1), C38_S (t38 x.next true h2), S_ret]
theorem t6 (xs : List Bk) (hl : xs.length ≤ 1073741824) (h : ∀ x ∈ xs, x.code.length ≤ 1073741824 ∧ x.next.length ≤ 1073741824) : tw cx 6 [rB true true xs] = some ([rB false false xs], []) := by
  refine e6 (ck_pos (mk_ok (by rw [List.length_map]; omega) (by rw [List.length_map]; omega)) ?_)
  rw [show (((xs.map (eB true)).length : Nat) : Int).toNat = (xs.map (eB false)).length by simp]
  refine copy_loop (H := fun out i => S cx 6 (H6_0 (xs.map (eB true)) out i)) (fin := fun l => ([sl false ⟨4, true⟩ l], [])) _ (fun j t out hx hout hh => ?_) ?_
  · obtain ⟨x, hx', rfl⟩ := map_at hx
    have hj := lt_of_at hx
    have hj' : j < xs.length := by simpa using hj
    obtain ⟨a1, a2⟩ := h x (List.mem_of_getElem? hx')
    have e1 : (xs.map (eB true)).length = xs.length := List.length_map _
    have e2 : (xs.map (eB false)).length = xs.length := List.length_map _
    refine eH6_0 (bif_pos (dT (by omega)) (ck_pos (dT2 (by omega)) ?_))
    rw [zN, getD_map' hx', V4_S, C19_S (t19 x a1 a2)]
    refine ck_pos (dT2 (by omega)) (back_of ?_)
    rw [inc64 hj' hl]
    exact hh
  · exact eH6_0 (bif_neg (dF (by simp)) rfl)
end Go.Tree.Q

/- Good flows and good states: what both programs answer. -/
namespace Go.Tree.Q
open Go.Proofs
set_option linter.unusedVariables false
set_option linter.unusedSimpArgs false
theorem leaf {b : Bool} {p : Prop} [Decidable p] (h : b = true ↔ p) : (some ([tb b], []) : Option Res) = some ([tb (decide p)], []) := by
  have : b = decide p := by
    cases b with
    | true => exact (decide_eq_true (h.1 rfl)).symm
    | false => exact (decide_eq_false (fun hp => by cases h.2 hp)).symm
  rw [this]
theorem t48 (n lo hi : Int) : tw cx 48 [i64 n, i64 lo, i64 hi] = some ([tb (decide (lo ≤ n ∧ n ≤ hi))], []) := by
  refine e48 ?_
  simp only [N48, S_bif, S_ret, decide_eq_true_eq]
  split <;> exact leaf (by simp <;> omega)
theorem t51 (n lo hi : Int) : tw cx 51 [i64 n, i64 lo, i64 hi] = some ([tb (decide (lo ≤ n ∧ n ≤ hi))], []) := by
  refine e51 ?_
  simp only [N51, S_bif, S_ret, decide_eq_true_eq]
  split <;> exact leaf (by simp <;> omega)
theorem t66 (n : Int) : tw cx 66 [i64 n] = some ([tb (decide (0 ≤ n ∧ n ≤ 11))], []) := by
  refine e66 ?_
  rw [N66, C48_S (t48 ..), S_ret]
theorem t81 (n : Int) : tw cx 81 [i64 n] = some ([tb (decide (0 ≤ n ∧ n ≤ 65535))], []) := by
  refine e81 ?_
  rw [N81, C51_S (t51 ..), S_ret]
theorem t82 (n : Int) : tw cx 82 [i64 n] = some ([tb (decide (4 ≤ n ∧ n ≤ 9))], []) := by
  refine e82 ?_
  rw [N82, C51_S (t51 ..), S_ret]
theorem t71 (n : Int) : tw cx 71 [i64 n] = some ([tb (decide (n = 2 ∨ n = 5))], []) := by
  refine e71 ?_
  simp only [N71, S_bif, S_ret, beq_iff_eq]
  split <;> exact leaf (by simp <;> omega)
/-- A good line. -/
def flatP (x : F) : Prop :=
  (x.op ≠ 3 → x.fdo = 0) ∧ (x.op ≠ 1 → x.n = 0) ∧
    ((x.op = 1 ∧ (0 ≤ x.dst ∧ x.dst ≤ 11) ∧ x.a = 0 ∧ x.b = 0 ∧ 0 ≤ x.n ∧ x.n ≤ 65535) ∨
      ((x.op = 2 ∨ x.op = 4) ∧ (0 ≤ x.dst ∧ x.dst ≤ 11) ∧ (0 ≤ x.a ∧ x.a ≤ 11) ∧ x.b = 0) ∨
      (x.op = 3 ∧ (0 ≤ x.dst ∧ x.dst ≤ 11) ∧ (0 ≤ x.a ∧ x.a ≤ 11) ∧ (0 ≤ x.b ∧ x.b ≤ 11) ∧ 4 ≤ x.fdo ∧ x.fdo ≤ 9) ∨
      (x.op = 5 ∧ x.dst = 0 ∧ (0 ≤ x.a ∧ x.a ≤ 11) ∧ (0 ≤ x.b ∧ x.b ≤ 11)) ∨
      (x.op = 6 ∧ x.dst = 0 ∧ (0 ≤ x.a ∧ x.a ≤ 11) ∧ x.b = 0))
instance (x : F) : Decidable (flatP x) := by unfold flatP; infer_instance
set_option maxHeartbeats 1000000 in
theorem t49 (x : F) : tw cx 49 [eF x] = some ([tb (decide (flatP x))], []) := by
  obtain ⟨op, fdo, dst, a, b, n⟩ := x
  refine e49 ?_
  have hG : ∀ v : Bool, op ≠ 1 → (v = true ↔ (op = 2 ∨ op = 4)) → (op ≠ 3 → fdo = 0) → (op ≠ 1 → n = 0) → S cx 49 (G49_0 op fdo dst a b n v) = some ([tb (decide (flatP ⟨op, fdo, dst, a, b, n⟩))], []) := fun v h1 hv h2 h3 => by
    refine eG49_0 ?_
    simp only [NG49_0, NG49_0_s0, C66_S (t66 _), C48_S (t48 _ _ _), S_bif, S_ret, decide_eq_true_eq, beq_iff_eq, hv]
    repeat' split
    all_goals exact leaf (by simp only [flatP, decide_eq_true_eq, beq_iff_eq, Bool.false_eq_true, false_iff, true_iff, eq_self]; omega)
  have h0 : (op ≠ 3 → fdo = 0) → (op ≠ 1 → n = 0) → S cx 49 (N49_s0 op fdo dst a b n) = some ([tb (decide (flatP ⟨op, fdo, dst, a, b, n⟩))], []) := fun h2 h3 => by
    simp only [N49_s0, C66_S (t66 _), C48_S (t48 _ _ _), S_bif, S_ret, decide_eq_true_eq, beq_iff_eq]
    repeat' split
    all_goals first
      | exact leaf (by simp only [flatP, decide_eq_true_eq, beq_iff_eq, Bool.false_eq_true, false_iff, true_iff, eq_self]; omega)
      | exact hG _ (by omega) (by simp <;> omega) h2 h3
  simp only [N49, N49_s1, S_bif, S_ret, bne_iff_ne, ne_eq]
  repeat' split
  all_goals first
    | exact leaf (by simp only [flatP, Bool.false_eq_true, false_iff, true_iff, eq_self]; omega)
    | exact h0 (by simp only [ne_eq]; omega) (by simp only [ne_eq]; omega)
theorem t80 (h : Bool) (n many : Int) (hm : 0 ≤ many ∧ many ≤ 1000) : tw cx 80 [tb h, i64 n, .pt true () (i64 many)] = some ([tb (decide ((h = false → n = 0) ∧ (h = true → 0 ≤ n ∧ n < many)))], []) := by
  refine e80 ?_
  simp only [N80, N80_s0, C51_S (t51 _ _ _), S_bif, S_ret, Bool.not_eq_true', beq_iff_eq]
  rw [w64_id (by omega) (by omega)]
  cases h <;> simp only [Bool.false_eq_true, if_false, if_true, Bool.true_eq_false]
  · split <;> exact leaf (by simp <;> omega)
  · exact leaf (by simp <;> omega)
theorem t79 (op : Int) : tw cx 79 [i64 op] = some ([.st [tb (decide (op = 1 ∨ op = 2 ∨ op = 4 ∨ op = 3)), tb (decide (op = 2 ∨ op = 4 ∨ op = 3 ∨ op = 5 ∨ op = 6)), tb (decide (op = 3 ∨ op = 5)), tb (decide (op = 1)), tb (decide (op = 3))], tb (decide (1 ≤ op ∧ op ≤ 6))], []) := by
  refine e79 ?_
  have hG : ∀ v : Bool, op ≠ 1 → (v = true ↔ (op = 2 ∨ op = 4)) → S cx 79 (G79_0 op v) = some ([.st [tb (decide (op = 1 ∨ op = 2 ∨ op = 4 ∨ op = 3)), tb (decide (op = 2 ∨ op = 4 ∨ op = 3 ∨ op = 5 ∨ op = 6)), tb (decide (op = 3 ∨ op = 5)), tb (decide (op = 1)), tb (decide (op = 3))], tb (decide (1 ≤ op ∧ op ≤ 6))], []) := fun v h1 hv => by
    refine eG79_0 ?_
    simp only [NG79_0, S_bif, S_ret, beq_iff_eq, hv]
    repeat' split
    all_goals
      simp only [Option.some.injEq, Prod.mk.injEq, List.cons.injEq, Tr.st.injEq, Tr.fl.injEq, Value.bool.injEq, and_true]
      simp only [eq_comm (a := true), eq_comm (a := false), decide_eq_true_eq, decide_eq_false_iff_not]
      omega
  simp only [N79, S_bif, S_ret, beq_iff_eq]
  repeat' split
  · simp only [Option.some.injEq, Prod.mk.injEq, List.cons.injEq, Tr.st.injEq, Tr.fl.injEq, Value.bool.injEq, and_true]
    simp only [eq_comm (a := true), eq_comm (a := false), decide_eq_true_eq, decide_eq_false_iff_not]
    omega
  · exact hG _ (by omega) (by simp <;> omega)
  · exact hG _ (by omega) (by simp <;> omega)
set_option maxHeartbeats 1000000 in
theorem t70 (x : F) : tw cx 70 [eF x, i64 12] = some ([tb (decide (flatP x))], []) := by
  obtain ⟨op, fdo, dst, a, b, n⟩ := x
  refine e70 ?_
  have h182 := fun (h : Bool) (n : Int) => t80 h n 12 (by omega)
  simp only [N70, C79_S (t79 _), N70_s0, N70_s1, C80_S (h182 _ _), C81_S (t81 _), C82_S (t82 _), S_bif, S_ret, decide_eq_true_eq, beq_iff_eq, Bool.not_eq_true', decide_eq_false_iff_not, ite_not]
  by_cases h0 : 1 ≤ op ∧ op ≤ 6
  · rw [if_pos h0]
    rcases (show op = 1 ∨ op = 2 ∨ op = 3 ∨ op = 4 ∨ op = 5 ∨ op = 6 by omega) with rfl | rfl | rfl | rfl | rfl | rfl <;> simp (config := { decide := true }) only [if_true, if_false, true_implies, false_implies, not_true_eq_false, not_false_eq_true, and_true, true_and]
    all_goals repeat' split
    all_goals exact leaf (by simp [flatP] <;> omega)
  · rw [if_neg h0]
    exact leaf (by simp only [flatP, Bool.false_eq_true, false_iff]; omega)
end Go.Tree.Q

/- Good flows and good states, whole. -/
namespace Go.Tree.Q
open Go.Proofs
set_option linter.unusedVariables false
set_option linter.unusedSimpArgs false
theorem all_list {β : Type} {xs : List β} {q : β → Bool} {H : Int → Option Res} {yes : Bool → Option Res} {no : Res}
    (hr : ∀ (j : Nat) (x : β), xs[j]? = some x → (q x = true → ∀ r, H ((j + 1 : Nat) : Int) = some r → H (j : Int) = some r) ∧ (q x = false → H (j : Int) = some no))
    {e : Res} (he : H (xs.length : Int) = some e) : H 0 = some (if xs.all q = true then e else no) := by
  have key : ∀ d j : Nat, xs.length - j = d → j ≤ xs.length → H (j : Int) = some (if (xs.drop j).all q = true then e else no) := by
    intro d
    induction d with
    | zero =>
      intro j hd hj
      have : j = xs.length := by omega
      subst this
      simpa using he
    | succ d ih =>
      intro j hd hj
      obtain ⟨x, hx⟩ := at_some (show j < xs.length by omega)
      obtain ⟨h1, h2⟩ := hr j x hx
      have e1 : xs.drop j = x :: xs.drop (j + 1) := by
        have hlt : j < xs.length := by omega
        rw [List.drop_eq_getElem_cons hlt]
        rw [List.getElem?_eq_getElem hlt] at hx
        rw [Option.some.inj hx]
      rw [e1, List.all_cons]
      cases hq : q x with
      | true => rw [Bool.true_and]; exact h1 hq _ (ih (j + 1) (by omega) (by omega))
      | false => rw [Bool.false_and]; exact h2 hq
  simpa using key xs.length 0 (by omega) (by omega)
theorem find_list {β : Type} {xs : List β} {q : β → Bool} {H : Int → Option Res}
    (hr : ∀ (j : Nat) (x : β), xs[j]? = some x → (q x = true → H (j : Int) = some ([i64 j], [])) ∧ (q x = false → ∀ r, H ((j + 1 : Nat) : Int) = some r → H (j : Int) = some r))
    (he : H (xs.length : Int) = some ([i64 (-1)], [])) : ∃ r : Int, H 0 = some ([i64 r], []) ∧ decide (r ≥ 0) = xs.any q := by
  have key : ∀ d j : Nat, xs.length - j = d → j ≤ xs.length → ∃ r : Int, H (j : Int) = some ([i64 r], []) ∧ decide (r ≥ 0) = (xs.drop j).any q := by
    intro d
    induction d with
    | zero =>
      intro j hd hj
      have : j = xs.length := by omega
      subst this
      exact ⟨-1, he, by simp⟩
    | succ d ih =>
      intro j hd hj
      obtain ⟨x, hx⟩ := at_some (show j < xs.length by omega)
      obtain ⟨h1, h2⟩ := hr j x hx
      have e1 : xs.drop j = x :: xs.drop (j + 1) := by
        have hlt : j < xs.length := by omega
        rw [List.drop_eq_getElem_cons hlt]
        rw [List.getElem?_eq_getElem hlt] at hx
        rw [Option.some.inj hx]
      rw [e1, List.any_cons]
      cases hq : q x with
      | true => exact ⟨j, h1 hq, by simp⟩
      | false =>
        obtain ⟨r, h3, h4⟩ := ih (j + 1) (by omega) (by omega)
        exact ⟨r, h2 hq _ h3, by rw [h4]; simp⟩
  simpa using key xs.length 0 (by omega) (by omega)
abbrev big : Nat := 1073741824
theorem getD_at {β : Type} {e : β → TV} {xs : List β} {j : Nat} {x : β} (h : xs[j]? = some x) : (xs.map e).getD (0 + ((j : Nat) : Int).toNat) (.dead ()) = e x := by
  rw [zN]; exact getD_map' h
theorem not_any {β : Type} {xs : List β} {p : β → Prop} [DecidablePred p] : (!xs.any fun x => !decide (p x)) = decide (∀ x ∈ xs, p x) := by
  induction xs with
  | nil => simp
  | cons x xs ih =>
    rw [List.any_cons, Bool.not_or, Bool.not_not, ih]
    simp
theorem all_dec {β : Type} {xs : List β} {p : β → Prop} [DecidablePred p] : xs.all (fun x => decide (p x)) = decide (∀ x ∈ xs, p x) := by
  induction xs with
  | nil => simp
  | cons x xs ih => rw [List.all_cons, ih]; simp
theorem t69 (x : F) : tw cx 69 [eF x, .pt true () (i64 12)] = some ([tb (!decide (flatP x))], []) := by
  refine e69 ?_
  rw [N69, C70_S (t70 x), S_ret]
theorem t78 (xs : List F) (hl : xs.length ≤ big) : ∃ r : Int, tw cx 78 [rF true xs, .cl 69 [.pt true () (i64 12)]] = some ([i64 r], []) ∧ decide (r ≥ 0) = xs.any fun x => !decide (flatP x) := by
  obtain ⟨r, h1, h2⟩ := find_list (xs := xs) (q := fun x => !decide (flatP x)) (H := fun i => S cx 78 (H78_0 (xs.map eF) 12 i)) (fun j x hx => by
    have hj := lt_of_at hx
    have e1 : (xs.map eF).length = xs.length := List.length_map _
    have hb : xs.length ≤ 1073741824 := hl
    refine ⟨fun hq => ?_, fun hq r h => ?_⟩
    · refine eH78_0 (bif_pos (dT (by omega)) (ck_pos (dT2 (by omega)) ?_))
      rw [getD_at hx, V6_S, C69_S (t69 x)]
      exact bif_pos hq rfl
    · refine eH78_0 (bif_pos (dT (by omega)) (ck_pos (dT2 (by omega)) ?_))
      rw [getD_at hx, V6_S, C69_S (t69 x)]
      refine bif_neg hq (back_of ?_)
      rw [inc64 hj hb]
      exact h) (eH78_0 (bif_neg (dF (by simp)) rfl))
  exact ⟨r, e78 h1, h2⟩
theorem t68 (xs : List F) (hl : xs.length ≤ big) : tw cx 68 [rF true xs, .cl 69 [.pt true () (i64 12)]] = some ([tb (xs.any fun x => !decide (flatP x))], []) := by
  obtain ⟨r, h1, h2⟩ := t78 xs hl
  refine e68 ?_
  rw [N68, C78_S h1, S_ret, h2]
theorem t54 (xs : List F) (hl : xs.length ≤ big) : tw cx 54 [rF true xs, i64 12] = some ([tb (decide (xs.length ≤ 60 ∧ ∀ x ∈ xs, flatP x))], []) := by
  refine e54 ?_
  rw [N54, S_bif, C68_S (t68 xs hl), S_ret, S_ret, not_any, List.length_map]
  by_cases c : xs.length ≤ 60
  · rw [if_pos (dT (by omega))]; simp [c]
  · rw [if_neg (by rw [dF (by omega)]; simp)]; simp [c]
def wordP (n : Int) : Prop := 0 ≤ n ∧ n ≤ 65535
instance (n : Int) : Decidable (wordP n) := by unfold wordP; infer_instance
/-- A good state. -/
def stateP (s : Sx) : Prop := s.loc.length = 8 ∧ s.mem.length = 16 ∧ s.told.length ≤ 100 ∧ (∀ x ∈ s.loc, wordP x) ∧ (∀ x ∈ s.mem, wordP x) ∧ (∀ x ∈ s.told, wordP x)
instance (s : Sx) : Decidable (stateP s) := by unfold stateP; infer_instance
end Go.Tree.Q

/- Good blocks and flows. -/
namespace Go.Tree.Q
open Go.Proofs
set_option linter.unusedVariables false
set_option linter.unusedSimpArgs false
def goP (b : Bk) : Prop :=
  (b.go = 1 ∧ b.next.length = 1 ∧ b.test = 0) ∨ (b.go = 2 ∧ b.next.length = 2 ∧ 0 ≤ b.test ∧ b.test ≤ 11) ∨
    (b.go = 5 ∧ (2 ≤ b.next.length ∧ b.next.length ≤ 6) ∧ 0 ≤ b.test ∧ b.test ≤ 11) ∨ ((b.go = 3 ∨ b.go = 4) ∧ b.next.length = 0 ∧ b.test = 0)
instance (b : Bk) : Decidable (goP b) := by unfold goP; infer_instance
/-- A good block. -/
def blockP (n : Int) (b : Bk) : Prop := (∀ x ∈ b.code, flatP x) ∧ b.code.length ≤ 60 ∧ (∀ k ∈ b.next, 0 ≤ k ∧ k < n) ∧ goP b
instance (n : Int) (b : Bk) : Decidable (blockP n b) := by unfold blockP; infer_instance
/-- A good flow. -/
def flowP (f : List Bk) : Prop := (∀ b ∈ f, blockP f.length b) ∧ 1 ≤ f.length ∧ f.length ≤ 64
instance (f : List Bk) : Decidable (flowP f) := by unfold flowP; infer_instance
def smallB (b : Bk) : Prop := b.code.length ≤ big ∧ b.next.length ≤ big
def smallF (f : List Bk) : Prop := f.length ≤ big ∧ ∀ b ∈ f, smallB b
theorem t73 (k many : Int) (hm : 0 ≤ many ∧ many ≤ 1073741824) : tw cx 73 [i64 k, .pt true () (i64 many)] = some ([tb (!decide (0 ≤ k ∧ k < many))], []) := by
  refine e73 ?_
  rw [N73, C51_S (t51 ..), S_ret, w64_id (by omega) (by omega)]
  have : (0 ≤ k ∧ k ≤ many - 1) ↔ (0 ≤ k ∧ k < many) := by omega
  simp only [this]
theorem t83b (xs : List Int) (many : Int) (hm : 0 ≤ many ∧ many ≤ 1073741824) (hl : xs.length ≤ big) : ∃ r : Int, tw cx 83 [rI true xs, .cl 73 [.pt true () (i64 many)]] = some ([i64 r], []) ∧ decide (r ≥ 0) = xs.any fun k => !decide (0 ≤ k ∧ k < many) := by
  obtain ⟨r, h1, h2⟩ := find_list (xs := xs) (q := fun k => !decide (0 ≤ k ∧ k < many)) (H := fun i => S cx 83 (H83_0 (xs.map i64) many i)) (fun j x hx => by
    have hj := lt_of_at hx
    have e1 : (xs.map i64).length = xs.length := List.length_map _
    have hb : xs.length ≤ 1073741824 := hl
    refine ⟨fun hq => ?_, fun hq r h => ?_⟩
    · refine eH83_0 (bif_pos (dT (by omega)) (ck_pos (dT2 (by omega)) ?_))
      rw [getD_at hx, S_int, C73_S (t73 x many hm)]
      exact bif_pos hq rfl
    · refine eH83_0 (bif_pos (dT (by omega)) (ck_pos (dT2 (by omega)) ?_))
      rw [getD_at hx, S_int, C73_S (t73 x many hm)]
      refine bif_neg hq (back_of ?_)
      rw [inc64 hj hb]
      exact h) (eH83_0 (bif_neg (dF (by simp)) rfl))
  exact ⟨r, e83 h1, h2⟩
theorem t72 (xs : List Int) (many : Int) (hm : 0 ≤ many ∧ many ≤ 1073741824) (hl : xs.length ≤ big) : tw cx 72 [rI true xs, .cl 73 [.pt true () (i64 many)]] = some ([tb (xs.any fun k => !decide (0 ≤ k ∧ k < many))], []) := by
  obtain ⟨r, h1, h2⟩ := t83b xs many hm hl
  refine e72 ?_
  rw [N72, C83_S h1, S_ret, h2]
theorem any_not {β : Type} {xs : List β} {p : β → Prop} [DecidablePred p] : ((xs.any fun x => !decide (p x)) = true) ↔ ¬ ∀ x ∈ xs, p x := by
  have := not_any (xs := xs) (p := p)
  cases h : (xs.any fun x => !decide (p x)) with
  | true => rw [h] at this; simp only [Bool.not_true] at this; simpa using (of_decide_eq_false this.symm)
  | false => rw [h] at this; simp only [Bool.not_false] at this; simpa using (of_decide_eq_true this.symm)
theorem t55 (b : Bk) (n : Int) (hn : 0 ≤ n ∧ n ≤ 1073741824) (h : smallB b) : tw cx 55 [i64 b.go, i64 b.test, rI true b.next, i64 12, i64 n] = some ([tb (decide ((∀ k ∈ b.next, 0 ≤ k ∧ k < n) ∧ goP b))], []) := by
  obtain ⟨code, go, test, next⟩ := b
  refine e55 ?_
  have h2 : next.length ≤ big := h.2
  have hw : w64 (12 - 1) = 11 := by rw [w64_id (by omega) (by omega)]; rfl
  simp only [N55, N55_s0, N55_s1, C71_S (t71 _), C51_S (t51 _ _ _), C72_S (t72 next n hn h2), S_bif, S_ret, decide_eq_true_eq, beq_iff_eq, bne_iff_ne, ne_eq, Bool.not_eq_true', decide_eq_false_iff_not, hw, any_not, List.length_map]
  have f1 : ((next.length : Nat) : Int) = 1 ↔ next.length = 1 := by omega
  have f2 : ((next.length : Nat) : Int) = 2 ↔ next.length = 2 := by omega
  have f0 : ((next.length : Nat) : Int) = 0 ↔ next.length = 0 := by omega
  have f3 : (2 ≤ ((next.length : Nat) : Int) ∧ ((next.length : Nat) : Int) ≤ 6) ↔ (2 ≤ next.length ∧ next.length ≤ 6) := by omega
  repeat' split
  all_goals exact leaf (by simp only [goP, decide_eq_true_eq, beq_iff_eq, Bool.false_eq_true, false_iff, true_iff, eq_self, f1, f2, f0, f3]; grind)
theorem t53 (b : Bk) (f : List Bk) (hn : f.length ≤ big) (h : smallB b) (q : Bool) : tw cx 53 [eB true b, .pt true () (rB true q f)] = some ([tb (!decide (blockP f.length b))], []) := by
  refine e53 ?_
  have hb : f.length ≤ 1073741824 := hn
  rw [N53, C54_S (t54 b.code h.1), List.length_map, S_bif, C55_S (t55 b f.length (by omega) h), S_ret, S_ret]
  have e : ∀ {x : Bool} {p : Prop} [Decidable p], (x = true ↔ ¬ p) → (some ([tb x], []) : Option Res) = some ([tb (!decide p)], []) := fun {x p} _ hx => by
    have : x = !decide p := by
      cases x with
      | true => simpa using hx
      | false => simpa using hx
    rw [this]
  split
  · rename_i c
    exact e (by simp only [blockP, Bool.not_eq_true', decide_eq_false_iff_not] at c ⊢; grind)
  · rename_i c
    exact e (by simp only [blockP, Bool.not_eq_true', decide_eq_false_iff_not] at c ⊢; grind)
theorem t67 (f : List Bk) (hf : smallF f) : ∃ r : Int, tw cx 67 [rB true false f, .cl 53 [.pt true () (rB true false f)]] = some ([i64 r], []) ∧ decide (r ≥ 0) = f.any fun b => !decide (blockP f.length b) := by
  obtain ⟨r, h1, h2⟩ := find_list (xs := f) (q := fun b => !decide (blockP f.length b)) (H := fun i => S cx 67 (H67_0 (f.map (eB false)) (f.map (eB false)) i)) (fun j x hx => by
    have hj := lt_of_at hx
    have e1 : (f.map (eB false)).length = f.length := List.length_map _
    have hb : f.length ≤ 1073741824 := hf.1
    have hs := hf.2 x (List.mem_of_getElem? hx)
    refine ⟨fun hq => ?_, fun hq r h => ?_⟩
    · refine eH67_0 (bif_pos (dT (by omega)) (ck_pos (dT2 (by omega)) ?_))
      rw [getD_at hx, V4_S, C53_S (t53 x f hf.1 hs false)]
      exact bif_pos hq rfl
    · refine eH67_0 (bif_pos (dT (by omega)) (ck_pos (dT2 (by omega)) ?_))
      rw [getD_at hx, V4_S, C53_S (t53 x f hf.1 hs false)]
      refine bif_neg hq (back_of ?_)
      rw [inc64 hj hb]
      exact h) (eH67_0 (bif_neg (dF (by simp)) rfl))
  exact ⟨r, e67 h1, h2⟩
theorem t39 (f : List Bk) (hf : smallF f) : tw cx 39 [rB true false f] = some ([tb (decide (flowP f))], []) := by
  refine e39 ?_
  obtain ⟨r, h1, h2⟩ := t67 f hf
  have h3 : tw cx 52 [rB true false f, .cl 53 [.pt true () (rB true false f)]] = some ([tb (f.any fun b => !decide (blockP f.length b))], []) := by
    refine e52 ?_
    rw [N52, C67_S h1, S_ret, h2]
  rw [N39, List.length_map, C51_S (t51 ..), S_bif, C52_S h3, S_ret, S_ret, not_any]
  split
  · rename_i c
    exact leaf (by simp only [flowP, Bool.not_eq_true', decide_eq_false_iff_not, Bool.false_eq_true, false_iff] at c ⊢; omega)
  · rename_i c
    exact leaf (by simp only [flowP, Bool.not_eq_true', decide_eq_false_iff_not, decide_eq_true_eq] at c ⊢; exact ⟨fun h => ⟨h, by omega, by omega⟩, fun h => h.1⟩)
theorem t47 (b : Bk) (n : Int) (h : smallB b) : tw cx 47 [eB true b, i64 n] = some ([tb (decide (blockP n b))], []) := by
  obtain ⟨code, go, test, next⟩ := b
  refine e47 ?_
  have h1 : code.length ≤ 1073741824 := h.1
  have h2 : next.length ≤ 1073741824 := h.2
  have f1 : ((next.length : Nat) : Int) = 1 ↔ next.length = 1 := by omega
  have f2 : ((next.length : Nat) : Int) = 2 ↔ next.length = 2 := by omega
  have f0 : ((next.length : Nat) : Int) = 0 ↔ next.length = 0 := by omega
  have f3 : (2 ≤ ((next.length : Nat) : Int) ∧ ((next.length : Nat) : Int) ≤ 6) ↔ (2 ≤ next.length ∧ next.length ≤ 6) := by omega
  have f6 : ((code.length : Nat) : Int) ≤ 60 ↔ code.length ≤ 60 := by omega
  have hend : S cx 47 (H47_1 n (code.map eF) go test (next.map i64) (next.length : Int)) = some ([tb (decide (code.length ≤ 60 ∧ goP ⟨code, go, test, next⟩))], []) := by
    refine eH47_1 (bif_neg (dF (by simp)) ?_)
    simp only [NH47_1_s0, C66_S (t66 _), C48_S (t48 _ _ _), S_bif, S_ret, decide_eq_true_eq, beq_iff_eq, List.length_map, f0, f1, f2, f3, f6]
    repeat' split
    all_goals exact leaf (by simp only [goP, decide_eq_true_eq, Bool.false_eq_true, false_iff, true_iff, eq_self]; grind)
  have hin := all_list (xs := next) (q := fun k => decide (0 ≤ k ∧ k < n)) (H := fun i => S cx 47 (H47_1 n (code.map eF) go test (next.map i64) i)) (yes := fun _ => none) (no := ([tb false], [])) (fun j x hx => by
    have hj := lt_of_at hx
    have e1 : (next.map i64).length = next.length := List.length_map _
    refine ⟨fun hq r h => ?_, fun hq => ?_⟩
    · refine eH47_1 (bif_pos (dT (by omega)) (ck_pos (dT2 (by omega)) ?_))
      have hq' := of_decide_eq_true hq
      rw [getD_at hx, S_int]
      refine bif_neg (dF (by omega)) (bif_neg (dF (by omega)) (back_of ?_))
      rw [inc64 hj h2]
      exact h
    · refine eH47_1 (bif_pos (dT (by omega)) (ck_pos (dT2 (by omega)) ?_))
      have hq' := of_decide_eq_false hq
      rw [getD_at hx, S_int]
      by_cases c : x < 0
      · exact bif_pos (dT c) rfl
      · exact bif_neg (dF c) (bif_pos (dT (by omega)) rfl)) hend
  have hout := all_list (xs := code) (q := fun x => decide (flatP x)) (H := fun i => S cx 47 (H47_0 n (code.map eF) go test (next.map i64) i)) (yes := fun _ => none) (no := ([tb false], [])) (fun j x hx => by
    have hj := lt_of_at hx
    have e1 : (code.map eF).length = code.length := List.length_map _
    refine ⟨fun hq r h => ?_, fun hq => ?_⟩
    · refine eH47_0 (bif_pos (dT (by omega)) (ck_pos (dT2 (by omega)) ?_))
      rw [getD_at hx, V6_S, C49_S (t49 x)]
      refine bif_neg (by rw [show decide (flatP x) = true from hq]; rfl) (back_of ?_)
      rw [inc64 hj h1]
      exact h
    · refine eH47_0 (bif_pos (dT (by omega)) (ck_pos (dT2 (by omega)) ?_))
      rw [getD_at hx, V6_S, C49_S (t49 x)]
      exact bif_pos (by rw [show decide (flatP x) = false from hq]; rfl) rfl) (eH47_0 (bif_neg (dF (by simp)) hin))
  refine Eq.trans hout ?_
  rw [all_dec, all_dec]
  by_cases c1 : ∀ x ∈ code, flatP x
  · rw [if_pos (by simpa using c1)]
    by_cases c2 : ∀ k ∈ next, 0 ≤ k ∧ k < n
    · rw [if_pos (by simpa using c2)]
      exact leaf (by simp only [blockP, decide_eq_true_eq]; exact ⟨fun h => ⟨c1, h.1, c2, h.2⟩, fun h => ⟨h.2.1, h.2.2.2⟩⟩)
    · rw [if_neg (by simpa using c2)]
      exact leaf (by simp only [blockP, Bool.false_eq_true, false_iff]; exact fun h => c2 h.2.2.1)
  · rw [if_neg (by simpa using c1)]
    exact leaf (by simp only [blockP, Bool.false_eq_true, false_iff]; exact fun h => c1 h.1)
theorem t28 (f : List Bk) (hf : smallF f) : tw cx 28 [rB true false f] = some ([tb (decide (flowP f))], []) := by
  refine e28 ?_
  have hend : S cx 28 (H28_0 (f.map (eB false)) (f.length : Int)) = some ([tb (decide (1 ≤ f.length ∧ f.length ≤ 64))], []) := by
    refine eH28_0 (bif_neg (dF (by simp)) ?_)
    rw [C48_S (t48 ..), S_ret, List.length_map]
    exact leaf (by simp only [decide_eq_true_eq]; omega)
  have hout := all_list (xs := f) (q := fun b => decide (blockP f.length b)) (H := fun i => S cx 28 (H28_0 (f.map (eB false)) i)) (yes := fun _ => none) (no := ([tb false], [])) (fun j x hx => by
    have hj := lt_of_at hx
    have e1 : (f.map (eB false)).length = f.length := List.length_map _
    have hb : f.length ≤ 1073741824 := hf.1
    have hs := hf.2 x (List.mem_of_getElem? hx)
    refine ⟨fun hq r h => ?_, fun hq => ?_⟩
    · refine eH28_0 (bif_pos (dT (by omega)) (ck_pos (dT2 (by omega)) ?_))
      rw [getD_at hx, V4_S, e1, C47_S (t47 x f.length hs)]
      refine bif_neg (by rw [show decide (blockP f.length x) = true from hq]; rfl) (back_of ?_)
      rw [inc64 hj hb]
      exact h
    · refine eH28_0 (bif_pos (dT (by omega)) (ck_pos (dT2 (by omega)) ?_))
      rw [getD_at hx, V4_S, e1, C47_S (t47 x f.length hs)]
      exact bif_pos (by rw [show decide (blockP f.length x) = false from hq]; rfl) rfl) hend
  refine Eq.trans hout ?_
  rw [all_dec]
  by_cases c1 : ∀ b ∈ f, blockP f.length b
  · rw [if_pos (by simpa using c1)]
    exact leaf (by simp only [flowP, decide_eq_true_eq]; exact ⟨fun h => ⟨c1, h⟩, fun h => h.2⟩)
  · rw [if_neg (by simpa using c1)]
    exact leaf (by simp only [flowP, Bool.false_eq_true, false_iff]; exact fun h => c1 h.1)
end Go.Tree.Q

/- Flat steps with names of locals alone; rows of what is so; what is there. -/
namespace Go.Tree.Q
open Go.Proofs
set_option linter.unusedVariables false
set_option linter.unusedSimpArgs false
def flat8 (x : F) : Prop := flatP x ∧ x.dst < 8 ∧ x.a < 8 ∧ x.b < 8
instance (x : F) : Decidable (flat8 x) := by unfold flat8; infer_instance
set_option maxHeartbeats 1000000 in
theorem t70e (x : F) : tw cx 70 [eF x, i64 8] = some ([tb (decide (flat8 x))], []) := by
  obtain ⟨op, fdo, dst, a, b, n⟩ := x
  refine e70 ?_
  have h182 := fun (h : Bool) (n : Int) => t80 h n 8 (by omega)
  simp only [N70, C79_S (t79 _), N70_s0, N70_s1, C80_S (h182 _ _), C81_S (t81 _), C82_S (t82 _), S_bif, S_ret, decide_eq_true_eq, beq_iff_eq, Bool.not_eq_true', decide_eq_false_iff_not, ite_not]
  by_cases h0 : 1 ≤ op ∧ op ≤ 6
  · rw [if_pos h0]
    rcases (show op = 1 ∨ op = 2 ∨ op = 3 ∨ op = 4 ∨ op = 5 ∨ op = 6 by omega) with rfl | rfl | rfl | rfl | rfl | rfl <;> simp (config := { decide := true }) only [if_true, if_false, true_implies, false_implies, not_true_eq_false, not_false_eq_true, and_true, true_and]
    all_goals repeat' split
    all_goals exact leaf (by simp [flat8, flatP] <;> omega)
  · rw [if_neg h0]
    exact leaf (by simp only [flat8, flatP, Bool.false_eq_true, false_iff]; omega)
theorem t69e (x : F) : tw cx 69 [eF x, .pt true () (i64 8)] = some ([tb (!decide (flat8 x))], []) := by
  refine e69 ?_
  rw [N69, C70_S (t70e x), S_ret]
theorem t78e (xs : List F) (hl : xs.length ≤ big) : ∃ r : Int, tw cx 78 [rF true xs, .cl 69 [.pt true () (i64 8)]] = some ([i64 r], []) ∧ decide (r ≥ 0) = xs.any fun x => !decide (flat8 x) := by
  obtain ⟨r, h1, h2⟩ := find_list (xs := xs) (q := fun x => !decide (flat8 x)) (H := fun i => S cx 78 (H78_0 (xs.map eF) 8 i)) (fun j x hx => by
    have hj := lt_of_at hx
    have e1 : (xs.map eF).length = xs.length := List.length_map _
    have hb : xs.length ≤ 1073741824 := hl
    refine ⟨fun hq => ?_, fun hq r h => ?_⟩
    · refine eH78_0 (bif_pos (dT (by omega)) (ck_pos (dT2 (by omega)) ?_))
      rw [getD_at hx, V6_S, C69_S (t69e x)]
      exact bif_pos hq rfl
    · refine eH78_0 (bif_pos (dT (by omega)) (ck_pos (dT2 (by omega)) ?_))
      rw [getD_at hx, V6_S, C69_S (t69e x)]
      refine bif_neg hq (back_of ?_)
      rw [inc64 hj hb]
      exact h) (eH78_0 (bif_neg (dF (by simp)) rfl))
  exact ⟨r, e78 h1, h2⟩
theorem t68e (xs : List F) (hl : xs.length ≤ big) : tw cx 68 [rF true xs, .cl 69 [.pt true () (i64 8)]] = some ([tb (xs.any fun x => !decide (flat8 x))], []) := by
  obtain ⟨r, h1, h2⟩ := t78e xs hl
  refine e68 ?_
  rw [N68, C78_S h1, S_ret, h2]
def low8 (xs : List F) : Prop := xs.length ≤ 60 ∧ ∀ x ∈ xs, flat8 x
instance (xs : List F) : Decidable (low8 xs) := by unfold low8; infer_instance
theorem t58 (xs : List F) (hl : xs.length ≤ big) : tw cx 58 [rF true xs] = some ([tb (decide (low8 xs))], []) := by
  refine e58 ?_
  have h36 : xs.length ≤ 60 → tw cx 54 [rF true xs, i64 8] = some ([tb (decide (low8 xs))], []) := fun c => by
    refine e54 ?_
    rw [N54, S_bif, C68_S (t68e xs hl), S_ret, S_ret, not_any, List.length_map, if_pos (dT (by omega))]
    simp [c, low8]
  rw [N58, List.length_map]
  by_cases c : xs.length ≤ 60
  · refine bif_pos (dT (by omega)) ?_
    rw [C54_S (h36 c), S_ret]
  · refine bif_neg (dF (by omega)) ?_
    rw [S_ret, dF (p := low8 xs) (fun h => c h.1)]
theorem dropd {β : Type} {xs : List β} {j : Nat} {x : β} (h : xs[j]? = some x) : xs.drop j = x :: xs.drop (j + 1) := by
  have hlt := lt_of_at h
  rw [List.drop_eq_getElem_cons hlt]
  rw [List.getElem?_eq_getElem hlt] at h
  rw [Option.some.inj h]
theorem t30 (xs : List F) (hl : xs.length ≤ big) : tw cx 30 [rF true xs] = some ([tb (decide (low8 xs))], []) := by
  have hb : xs.length ≤ 1073741824 := hl
  have e1 : (xs.map eF).length = xs.length := List.length_map _
  have key : ∀ d j : Nat, xs.length - j = d → j ≤ xs.length → S cx 30 (H30_0 (xs.map eF) (j : Int)) = some ([tb (decide (xs.length ≤ 60) && (xs.drop j).all fun x => decide (flat8 x))], []) := by
    intro d
    induction d with
    | zero =>
      intro j hd hj
      refine eH30_0 (bif_neg (dF (by omega)) ?_)
      have e2 : ((xs.length : Int) ≤ 60) ↔ xs.length ≤ 60 := by omega
      rw [S_ret, List.drop_eq_nil_of_le (by omega), List.length_map, List.all_nil, Bool.and_true, decide_eq_decide.mpr e2]
    | succ d ih =>
      intro j hd hj
      obtain ⟨x, hx⟩ := at_some (show j < xs.length by omega)
      refine eH30_0 (bif_pos (dT (by omega)) (ck_pos (dT2 (by omega)) ?_))
      rw [getD_at hx, V6_S, C49_S (t49 x), dropd hx, List.all_cons]
      have no : ¬ flat8 x → S cx 30 (.ret [tb false] []) = some ([tb (decide (xs.length ≤ 60) && (decide (flat8 x) && (xs.drop (j + 1)).all fun x => decide (flat8 x)))], []) := fun h => by
        rw [S_ret, dF h, Bool.false_and, Bool.and_false]
      by_cases h1 : flatP x
      · refine bif_neg (by rw [dT h1]; rfl) ?_
        by_cases h2 : x.dst ≥ 8
        · exact bif_pos (dT h2) (no fun h => by have := h.2; omega)
        · refine bif_neg (dF h2) ?_
          by_cases h3 : x.a ≥ 8
          · exact bif_pos (dT h3) (no fun h => by have := h.2; omega)
          · refine bif_neg (dF h3) ?_
            by_cases h4 : x.b ≥ 8
            · exact bif_pos (dT h4) (no fun h => by have := h.2; omega)
            · refine bif_neg (dF h4) (back_of ?_)
              have h8 : flat8 x := ⟨h1, by omega, by omega, by omega⟩
              rw [inc64 (n := xs.length) (by omega) hb, ih (j + 1) (by omega) (by omega), dT h8, Bool.true_and]
      · exact bif_pos (by rw [dF h1]; rfl) (no fun h => h1 h.1)
  refine e30 ?_
  have := key xs.length 0 (by omega) (by omega)
  rw [N30]
  rw [Int.natCast_zero, List.drop_zero, all_dec, ← Bool.decide_and] at this
  exact this
theorem t35 (xs : List Int) (n : Int) (hl : xs.length ≤ big) : tw cx 35 [rI true xs, i64 n] = some ([tb (decide (n ∈ xs))], []) := by
  have hb : xs.length ≤ 1073741824 := hl
  have e1 : (xs.map i64).length = xs.length := List.length_map _
  have key : ∀ d j : Nat, xs.length - j = d → j ≤ xs.length → S cx 35 (H35_0 n (xs.map i64) (j : Int)) = some ([tb (decide (n ∈ xs.drop j))], []) := by
    intro d
    induction d with
    | zero =>
      intro j hd hj
      refine eH35_0 (bif_neg (dF (by omega)) ?_)
      rw [S_ret, List.drop_eq_nil_of_le (by omega)]
      simp
    | succ d ih =>
      intro j hd hj
      obtain ⟨x, hx⟩ := at_some (show j < xs.length by omega)
      have hdr : xs.drop j = x :: xs.drop (j + 1) := by
        rw [List.drop_eq_getElem_cons (by omega)]
        rw [List.getElem?_eq_getElem (by omega)] at hx
        rw [Option.some.inj hx]
      refine eH35_0 (bif_pos (dT (by omega)) (ck_pos (dT2 (by omega)) ?_))
      rw [getD_at hx, S_int, hdr]
      by_cases c : x = n
      · refine bif_pos (by simp [c]) ?_
        rw [S_ret]
        simp [c]
      · refine bif_neg (by simp [c]) (back_of ?_)
        rw [inc64 (n := xs.length) (by omega) hb, ih (j + 1) (by omega) (by omega)]
        have : ¬ n = x := fun h => c h.symm
        simp [this]
  refine e35 ?_
  have := key xs.length 0 (by omega) (by omega)
  simpa [N35] using this
theorem t84 (xs : List Int) (n : Int) (hl : xs.length ≤ big) : ∃ r : Int, tw cx 84 [rI true xs, i64 n] = some ([i64 r], []) ∧ decide (r ≥ 0) = decide (n ∈ xs) := by
  have hb : xs.length ≤ 1073741824 := hl
  have e1 : (xs.map i64).length = xs.length := List.length_map _
  obtain ⟨r, h1, h2⟩ := find_list (xs := xs) (q := fun x => n == x) (H := fun i => S cx 84 (H84_0 (xs.map i64) n i)) (fun j x hx => by
    have hj := lt_of_at hx
    refine ⟨fun hq => ?_, fun hq r h => ?_⟩
    · refine eH84_0 (bif_pos (dT (by omega)) (ck_pos (dT2 (by omega)) ?_))
      rw [getD_at hx, S_int]
      exact bif_pos hq rfl
    · refine eH84_0 (bif_pos (dT (by omega)) (ck_pos (dT2 (by omega)) ?_))
      rw [getD_at hx, S_int]
      refine bif_neg hq (back_of ?_)
      rw [inc64 hj hb]
      exact h) (eH84_0 (bif_neg (dF (by simp)) rfl))
  refine ⟨r, e84 h1, h2.trans ?_⟩
  rw [Bool.eq_iff_iff, List.any_eq_true, decide_eq_true_iff]
  exact ⟨fun ⟨x, hx, e⟩ => by rw [eq_of_beq e]; exact hx, fun h => ⟨n, h, by simp⟩⟩
theorem t75 (xs : List Int) (n : Int) (hl : xs.length ≤ big) : tw cx 75 [rI true xs, i64 n] = some ([tb (decide (n ∈ xs))], []) := by
  obtain ⟨r, h1, h2⟩ := t84 xs n hl
  refine e75 ?_
  rw [N75, C84_S h1, S_ret, h2]
abbrev rT (q : Bool) (bs : List Bool) : TV := sl q ⟨1, false⟩ (bs.map tb)
theorem t74 (xs : List Bool) (b : Bool) (hl : xs.length ≤ big) : ∃ r : Int, tw cx 74 [rT true xs, tb b] = some ([i64 r], []) ∧ decide (r ≥ 0) = decide (b ∈ xs) := by
  have hb : xs.length ≤ 1073741824 := hl
  have e1 : (xs.map fun b => tb b).length = xs.length := List.length_map _
  obtain ⟨r, h1, h2⟩ := find_list (xs := xs) (q := fun x => b == x) (H := fun i => S cx 74 (H74_0 (xs.map fun b => tb b) b i)) (fun j x hx => by
    have hj := lt_of_at hx
    refine ⟨fun hq => ?_, fun hq r h => ?_⟩
    · refine eH74_0 (bif_pos (dT (by omega)) (ck_pos (dT2 (by omega)) ?_))
      rw [getD_at (e := fun b => tb b) hx, S_bool]
      exact bif_pos hq rfl
    · refine eH74_0 (bif_pos (dT (by omega)) (ck_pos (dT2 (by omega)) ?_))
      rw [getD_at (e := fun b => tb b) hx, S_bool]
      refine bif_neg hq (back_of ?_)
      rw [inc64 hj hb]
      exact h) (eH74_0 (bif_neg (dF (by simp)) rfl))
  refine ⟨r, e74 h1, h2.trans ?_⟩
  rw [Bool.eq_iff_iff, List.any_eq_true, decide_eq_true_iff]
  exact ⟨fun ⟨x, hx, e⟩ => by rw [eq_of_beq e]; exact hx, fun h => ⟨b, h, by simp⟩⟩
theorem t56 (xs : List Bool) (b : Bool) (hl : xs.length ≤ big) : tw cx 56 [rT true xs, tb b] = some ([tb (decide (b ∈ xs))], []) := by
  obtain ⟨r, h1, h2⟩ := t74 xs b hl
  refine e56 ?_
  rw [N56, C74_S h1, S_ret, h2]
end Go.Tree.Q

/- Rows that are sorted, made compact, copied: what lies in them stays. -/
namespace Go.Tree.Q
open Go.Proofs
set_option linter.unusedVariables false
set_option linter.unusedSimpArgs false
/-- A loop with what it holds. -/
theorem st_loop {σ : Type} {n : Nat} {H : σ → Int → Option Res} (I : Nat → σ → Prop) {Q : Res → Prop}
    (hr : ∀ (j : Nat) (a : σ), j < n → I j a → ∃ a', I (j + 1) a' ∧ ∀ r, H a' ((j + 1 : Nat) : Int) = some r → H a (j : Int) = some r)
    (he : ∀ a, I n a → ∃ r, H a (n : Int) = some r ∧ Q r) : ∀ a, I 0 a → ∃ r, H a 0 = some r ∧ Q r := by
  have key : ∀ d (j : Nat) (a : σ), n - j = d → j ≤ n → I j a → ∃ r, H a (j : Int) = some r ∧ Q r := by
    intro d
    induction d with
    | zero =>
      intro j a hd hj hI
      obtain rfl : j = n := by omega
      exact he a hI
    | succ d ih =>
      intro j a hd hj hI
      obtain ⟨a', h1, h2⟩ := hr j a (by omega) hI
      obtain ⟨r, h3, h4⟩ := ih (j + 1) a' (by omega) (by omega) h1
      exact ⟨r, h2 r h3, h4⟩
  intro a h
  simpa using key n 0 a (by omega) (by omega) h
theorem len_i {xs : List Int} : (xs.map i64).length = xs.length := List.length_map _
theorem i64_at {xs : List Int} {j : Nat} (h : j < xs.length) : (xs.map i64).getD (0 + ((j : Nat) : Int).toNat) (.dead ()) = i64 xs[j] := getD_at (List.getElem?_eq_getElem h)
theorem set_i {xs : List Int} {j : Nat} {v : Int} : (xs.map i64).set (0 + ((j : Nat) : Int).toNat) (i64 v) = (xs.set j v).map i64 := by
  rw [zN, set_map']
theorem t60 (xs : List Int) (hl : xs.length ≤ big) : tw cx 60 [rI true xs] = some ([rI false xs], []) := by
  have hb : xs.length ≤ 1073741824 := hl
  have hk : decide ((0 + (xs.map i64).length) * 8 < lim) = true := by
    rw [len_i]
    exact decide_eq_true (by have : lim = 140737488355328 := rfl; omega)
  refine e60 (S_isNil (fun h => S_amb2 ?_ ?_) fun _ => ck_pos hk rfl)
  · rw [S_ret, rI, h]
  · exact ck_pos hk (by rw [S_ret, rI, h]; rfl)
theorem t95 (x : Int) (h0 : 0 ≤ x) (h1 : x < 256) : ∃ n, tw cx 95 [.fl (.int .u64 x)] = some ([i64 n], []) := by
  have hw : IntKind.u8.wrap x = x := by rw [IntKind.wrap_u8]; omega
  refine ⟨_, e95 (bif_neg (dF (by omega)) (eG95_0 (bif_neg (dF (by omega)) (eG95_1 (bif_neg (dF (by omega)) (eG95_2 (ck_pos ?_ rfl)))))))⟩
  rw [hw]
  exact dT2 ⟨h0, by have : tab8.size = 256 := by kernel_rfl
                    omega⟩
theorem t77 (x : Int) (h0 : 0 ≤ x) (h1 : x < 256) : ∃ n, tw cx 77 [.fl (.int .u64 x)] = some ([i64 n], []) := by
  obtain ⟨n, h⟩ := t95 x h0 h1
  exact ⟨n, e77 (by rw [N77, C95_S h, S_ret])⟩
theorem t101 (x : Int) : tw cx 101 [i64 x] = some ([tb false], []) := e101 (by rw [N101, S_ret]; simp)
theorem t91 (x y : Int) : tw cx 91 [i64 x, i64 y] = some ([tb (decide (x < y))], []) := e91 (by rw [N91, C101_S (t101 x), S_bif, if_neg (by simp), S_ret])
/-- The same things, however they lie. -/
def Same (xs ys : List Int) : Prop := ys.length = xs.length ∧ ∀ v, v ∈ ys ↔ v ∈ xs
theorem Same.refl (xs : List Int) : Same xs xs := ⟨rfl, fun _ => Iff.rfl⟩
theorem Same.trans {xs ys zs : List Int} (h : Same xs ys) (k : Same ys zs) : Same xs zs := ⟨k.1.trans h.1, fun v => (k.2 v).trans (h.2 v)⟩
theorem same_swap (xs : List Int) (i j : Nat) (hi : i < xs.length) (hj : j < xs.length) : Same xs ((xs.set j xs[i]).set i xs[j]) := by
  refine ⟨by simp, fun v => ?_⟩
  rw [List.mem_iff_getElem?, List.mem_iff_getElem?]
  constructor
  · rintro ⟨k, hk⟩
    rw [List.getElem?_set] at hk
    split at hk
    · split at hk
      · exact ⟨j, by rw [List.getElem?_eq_getElem hj]; exact hk⟩
      · cases hk
    · rw [List.getElem?_set] at hk
      split at hk
      · exact ⟨i, by rw [List.getElem?_eq_getElem hi]; simpa [hj] using hk⟩
      · exact ⟨k, hk⟩
  · rintro ⟨k, hk⟩
    by_cases c1 : k = j
    · subst c1
      refine ⟨i, ?_⟩
      rw [List.getElem?_set, if_pos rfl, if_pos (by simpa using hi)]
      rw [List.getElem?_eq_getElem hj] at hk
      exact hk
    · by_cases c2 : k = i
      · subst c2
        refine ⟨j, ?_⟩
        rw [List.getElem?_set, if_neg c1, List.getElem?_set, if_pos rfl, if_pos hj]
        rw [List.getElem?_eq_getElem hi] at hk
        exact hk
      · refine ⟨k, ?_⟩
        rw [List.getElem?_set, if_neg (fun h => c2 h.symm), List.getElem?_set, if_neg (fun h => c1 h.symm)]
        exact hk
/-- Sorted, but for what stands at j. -/
def Od (ys : List Int) (i j : Nat) : Prop := ∀ a b, a < b → b ≤ i → b ≠ j → ys.getD a 0 ≤ ys.getD b 0
def Sd (ys : List Int) : Prop := ∀ a b, a < b → b < ys.length → ys.getD a 0 ≤ ys.getD b 0
theorem swap_at (ys : List Int) (j : Nat) (h1 : j + 1 < ys.length) (a : Nat) : ((ys.set (j + 1) (ys[j]'(by omega))).set j ys[j + 1]).getD a 0 = if a = j then ys.getD (j + 1) 0 else if a = j + 1 then ys.getD j 0 else ys.getD a 0 := by
  simp only [List.getD_eq_getElem?_getD, List.getElem?_set, List.length_set]
  by_cases c : j = a
  · subst c
    rw [if_pos rfl, if_pos (by omega), if_pos rfl, List.getElem?_eq_getElem h1]
  · rw [if_neg c]
    by_cases c2 : j + 1 = a
    · subst c2
      rw [if_pos rfl, if_pos h1, if_neg (by omega), if_pos rfl, List.getElem?_eq_getElem (show j < ys.length by omega)]
    · rw [if_neg c2, if_neg (fun h => c h.symm), if_neg (fun h => c2 h.symm)]
theorem Od.swap {ys : List Int} {i j : Nat} (h : Od ys i (j + 1)) (h1 : j + 1 < ys.length) (c : ys[j + 1] < ys[j]'(by omega)) (hj : j + 1 ≤ i) : Od ((ys.set (j + 1) (ys[j]'(by omega))).set j ys[j + 1]) i j := by
  have hc : ys.getD (j + 1) 0 < ys.getD j 0 := by
    rw [List.getD_eq_getElem?_getD, List.getD_eq_getElem?_getD, List.getElem?_eq_getElem h1, List.getElem?_eq_getElem (show j < ys.length by omega)]
    exact c
  intro a b hab hb hbj
  rw [swap_at ys j h1, swap_at ys j h1]
  rw [if_neg hbj]
  by_cases b1 : b = j + 1
  · subst b1
    rw [if_pos rfl]
    by_cases a0 : a = j
    · rw [if_pos a0]; omega
    · rw [if_neg a0, if_neg (by omega)]
      exact h a j (by omega) (by omega) (by omega)
  · rw [if_neg b1]
    by_cases a0 : a = j
    · rw [if_pos a0]; exact h (j + 1) b (by omega) hb b1
    · rw [if_neg a0]
      by_cases a1 : a = j + 1
      · rw [if_pos a1]; exact h j b (by omega) hb b1
      · rw [if_neg a1]; exact h a b hab hb b1
theorem Od.done {ys : List Int} {i j : Nat} (h : Od ys i (j + 1)) (h1 : j + 1 < ys.length) (c : ¬ ys[j + 1] < ys[j]'(by omega)) : ∀ a b, a < b → b ≤ i → ys.getD a 0 ≤ ys.getD b 0 := by
  have hc : ys.getD j 0 ≤ ys.getD (j + 1) 0 := by
    rw [List.getD_eq_getElem?_getD, List.getD_eq_getElem?_getD, List.getElem?_eq_getElem h1, List.getElem?_eq_getElem (show j < ys.length by omega)]
    exact Int.not_lt.1 c
  intro a b hab hb
  by_cases b1 : b = j + 1
  · subst b1
    by_cases a0 : a = j
    · rw [a0]; exact hc
    · exact Int.le_trans (h a j (by omega) (by omega) (by omega)) hc
  · exact h a b hab hb b1
theorem t85 (xs : List Int) (hn : xs.length ≤ 1000) : ∃ ys, tw cx 85 [rI false xs, i64 0, i64 xs.length] = some ([], [rI false ys]) ∧ Same xs ys ∧ Sd ys := by
  have inner : ∀ (i : Nat), i < xs.length → ∀ (j : Nat) (ys : List Int), j ≤ i → Same xs ys → Od ys i j → ∃ zs, (Same xs zs ∧ ∀ a b, a < b → b ≤ i → zs.getD a 0 ≤ zs.getD b 0) ∧ ∀ r, S cx 85 (H85_0 0 xs.length ((i + 1 : Nat) : Int) (zs.map i64)) = some r → S cx 85 (H85_1 0 xs.length i j (ys.map i64)) = some r := by
    intro i hi j
    have hi1 : w64 ((i : Int) + 1) = ((i + 1 : Nat) : Int) := inc64 (n := xs.length) hi (by omega)
    induction j with
    | zero =>
      intro ys hj hs ho
      refine ⟨ys, ⟨hs, fun a b hab hb => ho a b hab hb (by omega)⟩, fun r h => eH85_1 (bif_neg (dF (by omega)) (back_of ?_))⟩
      rw [hi1]; exact h
    | succ j ih =>
      intro ys hj hs ho
      have hl := hs.1
      have hjl : j + 1 < ys.length := by omega
      have hj2 : j < ys.length := by omega
      have hw : w64 (((j + 1 : Nat) : Int) - 1) = (j : Int) := by rw [w64_id (by omega) (by omega)]; omega
      by_cases c : ys[j + 1] < ys[j]
      · obtain ⟨zs, h1, h2⟩ := ih ((ys.set (j + 1) ys[j]).set j ys[j + 1]) (by omega) (hs.trans (same_swap ys j (j + 1) hj2 hjl)) (ho.swap hjl c hj)
        refine ⟨zs, h1, fun r h => eH85_1 (bif_pos (dT (by omega)) (ck_pos (dT2 (by rw [len_i]; omega)) ?_))⟩
        rw [hw, i64_at hjl, S_int]
        refine ck_pos (dT2 (by rw [len_i]; omega)) ?_
        rw [i64_at hj2, S_int, C91_S (t91 _ _)]
        refine bif_pos (dT c) (ck_pos (dT2 (by rw [len_i]; omega)) ?_)
        rw [S_int]
        refine ck_pos (dT2 (by rw [len_i]; omega)) ?_
        rw [S_int]
        refine ck_pos (dT2 (by rw [len_i]; omega)) (ck_pos (dT2 (by rw [List.length_set, len_i]; omega)) (back_of ?_))
        rw [set_i, set_i]
        exact h2 r h
      · refine ⟨ys, ⟨hs, ho.done hjl c⟩, fun r h => eH85_1 (bif_pos (dT (by omega)) (ck_pos (dT2 (by rw [len_i]; omega)) ?_))⟩
        rw [hw, i64_at hjl, S_int]
        refine ck_pos (dT2 (by rw [len_i]; omega)) ?_
        rw [i64_at hj2, S_int, C91_S (t91 _ _)]
        refine bif_neg (dF c) (back_of ?_)
        rw [hi1]; exact h
  have outer : ∀ d (i : Nat) (ys : List Int), xs.length - i = d → Same xs ys → (1 ≤ i ∧ ∀ a b, a < b → b < i → ys.getD a 0 ≤ ys.getD b 0) → ∃ zs, S cx 85 (H85_0 0 xs.length i (ys.map i64)) = some ([], [rI false zs]) ∧ Same xs zs ∧ Sd zs := by
    intro d
    induction d with
    | zero =>
      intro i ys hd hs ho
      exact ⟨ys, eH85_0 (bif_neg (dF (by omega)) rfl), hs, fun a b hab hb => ho.2 a b hab (by have := hs.1; omega)⟩
    | succ d ih =>
      intro i ys hd hs ho
      obtain ⟨zs, h1, h2⟩ := inner i (by omega) i ys (Nat.le_refl _) hs (fun a b hab hb hne => ho.2 a b hab (by omega))
      obtain ⟨us, h3, h4⟩ := ih (i + 1) zs (by omega) h1.1 ⟨by omega, fun a b hab hb => h1.2 a b hab (by omega)⟩
      exact ⟨us, eH85_0 (bif_pos (dT (by omega)) (h2 _ h3)), h4⟩
  obtain ⟨zs, h1, h2⟩ := outer (xs.length - 1) 1 xs rfl (Same.refl _) ⟨Nat.le_refl _, fun a b hab hb => by omega⟩
  exact ⟨zs, e85 h1, h2⟩
theorem t76 (xs : List Int) (lim : Int) (hn : xs.length ≤ 12) : ∃ ys, tw cx 76 [rI false xs, i64 0, i64 xs.length, i64 lim] = some ([], [rI false ys]) ∧ Same xs ys ∧ Sd ys := by
  obtain ⟨ys, h1, h2⟩ := t85 xs (by omega)
  refine ⟨ys, e76 (eH76_0 (bif_pos (dT ?_) ?_)), h2⟩
  · rw [w64_id (by omega) (by omega)]; omega
  · rw [C85_S h1, S_ret]
theorem t61 (xs : List Int) (hn : xs.length ≤ 12) : ∃ ys, tw cx 61 [rI false xs] = some ([], [rI false ys]) ∧ Same xs ys ∧ Sd ys := by
  obtain ⟨n, h0⟩ := t77 (xs.length : Int) (by omega) (by omega)
  obtain ⟨ys, h1, h2⟩ := t76 xs n hn
  refine ⟨ys, e61 ?_, h2⟩
  have hw : IntKind.u64.wrap ((xs.map i64).length : Int) = (xs.length : Int) := by
    have e : ∀ n : Int, IntKind.u64.wrap n = n % 18446744073709551616 := fun n => by simp [IntKind.wrap, IntKind.bits, IntKind.signed]
    rw [e, len_i]; omega
  rw [N61, hw, C77_S h0, len_i, C76_S h1, S_ret]
theorem take_succ_mem {xs : List Int} {p : Nat} (hp : p < xs.length) (v : Int) : v ∈ xs.take (p + 1) ↔ v ∈ xs.take p ∨ v = xs[p] := by
  rw [List.take_add_one, List.getElem?_eq_getElem hp, List.mem_append]
  simp
theorem cpy_take {β : Type} (s ys : List β) (k n : Nat) (hk : k ≤ s.length) : ((cpyS (some (k, n)) s ys).drop 0).take k = s.take k := by
  rw [List.drop_zero]
  simp only [cpyS]
  rw [List.take_append_of_le_length (by rw [List.length_take]; omega), List.take_take, Nat.min_self]
theorem cpy_len {β : Type} (s ys : List β) (k n : Nat) (hk : k + n ≤ s.length) (hy : ys.length = n) : (cpyS (some (k, n)) s ys).length = s.length := by
  simp only [cpyS, cpyT, List.length_append, List.length_take, List.length_drop, hy]
  omega
/-- Like things side by side become one. -/
def cmpS (acc : List Int) (x : Int) : List Int := if acc.getLast? = some x then acc else acc ++ [x]
def cmpV (xs : List Int) : List Int := xs.foldl cmpS []
theorem cmpV_snoc (l : List Int) (x : Int) : cmpV (l ++ [x]) = cmpS (cmpV l) x := by rw [cmpV, List.foldl_append]; rfl
theorem cmpV_last (l : List Int) (x : Int) : (cmpV (l ++ [x])).getLast? = some x := by
  rw [cmpV_snoc, cmpS]
  split
  · assumption
  · simp
theorem cmpV_take {xs : List Int} {p : Nat} (h1 : 1 ≤ p) (hp : p < xs.length) : cmpV (xs.take (p + 1)) = if xs[p] = xs[p - 1]'(by omega) then cmpV (xs.take p) else cmpV (xs.take p) ++ [xs[p]] := by
  have e : xs.take (p + 1) = xs.take p ++ [xs[p]] := by rw [List.take_add_one, List.getElem?_eq_getElem hp]; rfl
  have e2 : xs.take p = xs.take (p - 1) ++ [xs[p - 1]'(by omega)] := by
    have : p = p - 1 + 1 := by omega
    rw [show xs.take p = xs.take (p - 1 + 1) by rw [← this], List.take_add_one, List.getElem?_eq_getElem (show p - 1 < xs.length by omega)]; rfl
  rw [e, cmpV_snoc, cmpS, e2, cmpV_last]
  by_cases c : xs[p] = xs[p - 1]'(by omega)
  · rw [if_pos c, if_pos (by rw [c])]
  · rw [if_neg c, if_neg (fun h => c (Option.some.inj h).symm)]
theorem cmpV_short {xs : List Int} (h : xs.length < 2) : cmpV xs = xs := by
  match xs, h with
  | [], _ => rfl
  | [x], _ => simp [cmpV, cmpS]
theorem t62 (xs : List Int) (hn : xs.length ≤ 1000) : ∃ zs, tw cx 62 [rI false xs] = some ([rI false zs], []) ∧ zs.length ≤ xs.length ∧ (∀ v, v ∈ zs ↔ v ∈ xs) ∧ zs = cmpV xs := by
  by_cases c2 : xs.length < 2
  · exact ⟨xs, e62 (bif_pos (dT (by rw [len_i]; omega)) rfl), Nat.le_refl _, fun _ => Iff.rfl, (cmpV_short c2).symm⟩
  -- behind the first pair that is alike
  have inner : ∀ k0 : Nat, 1 ≤ k0 → k0 < xs.length → ∀ d p k (s : List Int), xs.length - p = d → p ≤ xs.length → k0 + 1 ≤ p → k < p → s.length = xs.length → s.drop k = xs.drop k → (∀ v, v ∈ s.take k ↔ v ∈ xs.take p) → s.take k = cmpV (xs.take p) →
      ∃ zs, S cx 62 (H62_1 k k0 (xs.length - k0) ((p - k0 : Nat) : Int) (s.map i64)) = some ([rI false zs], []) ∧ zs.length ≤ xs.length ∧ (∀ v, v ∈ zs ↔ v ∈ xs) ∧ zs = cmpV xs := by
    intro k0 h1 h2 d
    induction d with
    | zero =>
      intro p k s hd hp hkp hk hl hdr hm hcm
      obtain rfl : p = xs.length := by omega
      refine ⟨s.take k, eH62_1 (bif_neg (dF (by omega)) (ck_pos ?_ (ck_pos ?_ ?_))), by rw [List.length_take]; omega, fun v => by rw [hm v, List.take_length], by rw [hcm, List.take_length]⟩
      · rw [len_i]; simp; omega
      · have hq : ((((s.map i64).length : Nat) : Int) - (k : Int)).toNat = s.length - k := by rw [len_i]; omega
        rw [zN, hq, cpy_len _ _ _ _ (by rw [len_i]; omega) (by simp), len_i]
        exact dT2 (by omega)
      · have hq : ((((s.map i64).length : Nat) : Int) - (k : Int)).toNat = s.length - k := by rw [len_i]; omega
        have hq2 : ((k : Int) - 0).toNat = k := by omega
        rw [S_ret, zN, hq, hq2, cpy_take _ _ _ _ (by rw [len_i]; omega), rI, List.map_take]
    | succ d ih =>
      intro p k s hd hp hkp hk hl hdr hm hcm
      have hpl : p < xs.length := by omega
      have hps : p < s.length := by omega
      have hp1 : p - 1 < s.length := by omega
      have at_ : ∀ q (hq : q < s.length), k ≤ q → s[q] = xs[q]'(by omega) := fun q hq hkq => by
        have e1 : (s.drop k)[q - k]? = some s[q] := by rw [List.getElem?_drop, show k + (q - k) = q by omega, List.getElem?_eq_getElem hq]
        have e2 : (xs.drop k)[q - k]? = some (xs[q]'(by omega)) := by rw [List.getElem?_drop, show k + (q - k) = q by omega, List.getElem?_eq_getElem]
        rw [hdr, e2] at e1
        exact (Option.some.inj e1).symm
      have a0 := at_ p hps (by omega)
      have a1 := at_ (p - 1) hp1 (by omega)
      have g0 : (s.map i64).getD (k0 + (((p - k0 : Nat) : Int)).toNat) (.dead ()) = i64 xs[p] := by
        rw [show k0 + (((p - k0 : Nat) : Int)).toNat = 0 + ((p : Nat) : Int).toNat by omega, i64_at hps, a0]
      have hw : w64 (((p - k0 : Nat) : Int) - 1) = ((p - 1 - k0 : Nat) : Int) := by rw [w64_id (by omega) (by omega)]; omega
      have g1 : (s.map i64).getD (k0 + (((p - 1 - k0 : Nat) : Int)).toNat) (.dead ()) = i64 (xs[p - 1]'(by omega)) := by
        rw [show k0 + (((p - 1 - k0 : Nat) : Int)).toNat = 0 + ((p - 1 : Nat) : Int).toNat by omega, i64_at hp1, a1]
      have hi2 : w64 (((p - k0 : Nat) : Int) + 1) = ((p + 1 - k0 : Nat) : Int) := by rw [w64_id (by omega) (by omega)]; omega
      by_cases c : xs[p] = xs[p - 1]'(by omega)
      · obtain ⟨zs, h3, h4⟩ := ih (p + 1) k s (by omega) (by omega) (by omega) (by omega) hl hdr (fun v => by
          rw [hm v, take_succ_mem hpl]
          refine ⟨.inl, fun h => h.elim id fun e => ?_⟩
          rw [e, c, List.mem_iff_getElem?]
          exact ⟨p - 1, by rw [List.getElem?_take, if_pos (by omega), List.getElem?_eq_getElem]⟩) (by rw [cmpV_take (by omega) hpl, if_pos c]; exact hcm)
        refine ⟨zs, eH62_1 (bif_pos (dT (by omega)) (ck_pos (dT2 (by omega)) ?_)), h4⟩
        rw [g0, S_int]
        refine ck_pos (dT2 (by rw [hw]; omega)) ?_
        rw [hw, g1, S_int]
        refine bif_neg (by simp [c]) (back_of ?_)
        rw [hi2]; exact h3
      · have hki : w64 ((k : Int) + 1) = ((k + 1 : Nat) : Int) := by rw [w64_id (by omega) (by omega)]; omega
        obtain ⟨zs, h3, h4⟩ := ih (p + 1) (k + 1) (s.set k xs[p]) (by omega) (by omega) (by omega) (by omega) (by rw [List.length_set]; exact hl) (by
            rw [List.drop_set_of_lt (by omega), ← List.drop_drop, hdr, List.drop_drop]) (fun v => by
          rw [take_succ_mem hpl, List.take_add_one, List.getElem?_set, if_pos rfl, if_pos (by omega), List.take_set_of_le (Nat.le_refl _), List.mem_append, hm v]
          simp) (by rw [cmpV_take (by omega) hpl, if_neg c, ← hcm, List.take_add_one, List.getElem?_set, if_pos rfl, if_pos (by omega), List.take_set_of_le (Nat.le_refl _)]; rfl)
        refine ⟨zs, eH62_1 (bif_pos (dT (by omega)) (ck_pos (dT2 (by omega)) ?_)), h4⟩
        rw [g0, S_int]
        refine ck_pos (dT2 (by rw [hw]; omega)) ?_
        rw [hw, g1, S_int]
        refine bif_pos (by simp [c]) (ck_pos (dT2 (by omega)) ?_)
        rw [S_int]
        refine ck_pos (dT2 (by rw [len_i]; omega)) (back_of ?_)
        rw [hki, hi2, set_i]
        exact h3
  have outer : ∀ d k : Nat, xs.length - k = d → 1 ≤ k → k ≤ xs.length → cmpV (xs.take k) = xs.take k → ∃ zs, S cx 62 (H62_0 k (xs.map i64)) = some ([rI false zs], []) ∧ zs.length ≤ xs.length ∧ (∀ v, v ∈ zs ↔ v ∈ xs) ∧ zs = cmpV xs := by
    intro d
    induction d with
    | zero =>
      intro k hd hk hkl hcm
      obtain rfl : k = xs.length := by omega
      exact ⟨xs, eH62_0 (bif_neg (dF (by rw [len_i]; omega)) rfl), Nat.le_refl _, fun _ => Iff.rfl, by rw [List.take_length] at hcm; exact hcm.symm⟩
    | succ d ih =>
      intro k hd hk hkl0 hcm
      have hkl : k < xs.length := by omega
      have hk1 : k - 1 < xs.length := by omega
      have hw : w64 ((k : Int) - 1) = ((k - 1 : Nat) : Int) := by rw [w64_id (by omega) (by omega)]; omega
      by_cases c : xs[k] = xs[k - 1]
      · obtain ⟨zs, h3, h4⟩ := inner k hk hkl (xs.length - (k + 1)) (k + 1) k xs rfl (by omega) (Nat.le_refl _) (by omega) rfl rfl (fun v => by
          rw [take_succ_mem hkl]
          refine ⟨.inl, fun h => h.elim id fun e => ?_⟩
          rw [e, c, List.mem_iff_getElem?]
          exact ⟨k - 1, by rw [List.getElem?_take, if_pos (by omega), List.getElem?_eq_getElem]⟩) (by rw [cmpV_take hk hkl, if_pos c, hcm])
        refine ⟨zs, eH62_0 (bif_pos (dT (by rw [len_i]; omega)) (ck_pos (dT2 (by rw [len_i]; omega)) ?_)), h4⟩
        rw [i64_at hkl, S_int]
        refine ck_pos (dT2 (by rw [len_i, hw]; omega)) ?_
        rw [hw, i64_at hk1, S_int]
        refine bif_pos (by simp [c]) (ck_pos (by rw [len_i]; simp; omega) ?_)
        have hq : ((((xs.map i64).length : Nat) : Int) - (k : Int)).toNat = xs.length - k := by rw [len_i]; omega
        rw [zN, hq]
        rw [show ((k + 1 - k : Nat) : Int) = 1 by omega] at h3
        exact h3
      · obtain ⟨zs, h3, h4⟩ := ih (k + 1) (by omega) (by omega) (by omega) (by rw [cmpV_take hk hkl, if_neg c, hcm, List.take_add_one, List.getElem?_eq_getElem hkl]; rfl)
        refine ⟨zs, eH62_0 (bif_pos (dT (by rw [len_i]; omega)) (ck_pos (dT2 (by rw [len_i]; omega)) ?_)), h4⟩
        rw [i64_at hkl, S_int]
        refine ck_pos (dT2 (by rw [len_i, hw]; omega)) ?_
        rw [hw, i64_at hk1, S_int]
        refine bif_neg (by simp [c]) (back_of ?_)
        rw [inc64 (n := xs.length) hkl (by omega)]
        exact h3
  obtain ⟨zs, h1, h2⟩ := outer (xs.length - 1) 1 rfl (Nat.le_refl _) (by omega) (cmpV_short (by rw [List.length_take]; omega))
  exact ⟨zs, e62 (bif_neg (dF (by rw [len_i]; omega)) h1), h2⟩
end Go.Tree.Q

/- Graphs: what is come to, and when a way leads round. Plain Lean: no program in sight. -/
namespace Go.Tree.Cg
set_option linter.unusedVariables false
variable {E E' : Nat → Nat → Prop}
/-- One comes to another by edges. -/
inductive Star (E : Nat → Nat → Prop) : Nat → Nat → Prop
  | refl (a : Nat) : Star E a a
  | tail {a b c : Nat} (h : Star E a b) (k : E b c) : Star E a c
theorem Star.trans {a b c : Nat} (h : Star E a b) (k : Star E b c) : Star E a c := by
  induction k with
  | refl => exact h
  | tail _ e ih => exact .tail ih e
theorem Star.head {a b c : Nat} (e : E a b) (k : Star E b c) : Star E a c := (Star.tail (.refl a) e).trans k
theorem Star.mono (H : ∀ a b, E a b → E' a b) {a b : Nat} (h : Star E a b) : Star E' a b := by
  induction h with
  | refl => exact .refl _
  | tail _ e ih => exact .tail ih (H _ _ e)
theorem Star.cases_head {a c : Nat} (h : Star E a c) : a = c ∨ ∃ b, E a b ∧ Star E b c := by
  induction h with
  | refl => exact .inl rfl
  | tail h e ih =>
    rcases ih with rfl | ⟨b, h1, h2⟩
    · exact .inr ⟨_, e, .refl _⟩
    · exact .inr ⟨b, h1, .tail h2 e⟩
/-- A set that holds the first one, and with each one what it leads to, holds all that is come to. -/
theorem Star.closed {S : Nat → Prop} {a : Nat} (h0 : S a) (H : ∀ x y, S x → E x y → S y) {b : Nat} (h : Star E a b) : S b := by
  induction h with
  | refl => exact h0
  | tail _ e ih => exact H _ _ ih e
open Classical in
theorem count_lt {α : Type} {p q : α → Prop} : ∀ (l : List α) (x : α), x ∈ l → (∀ y, p y → q y) → q x → ¬ p x → (l.filter fun y => decide (p y)).length < (l.filter fun y => decide (q y)).length
  | [], x, hx, _, _, _ => by simp at hx
  | z :: l, x, hx, hpq, hq, hp => by
    have mono : ∀ m : List α, (m.filter fun y => decide (p y)).length ≤ (m.filter fun y => decide (q y)).length := by
      intro m
      induction m with
      | nil => simp
      | cons w m ih =>
        simp only [List.filter_cons]
        by_cases h1 : p w
        · have h2 := hpq w h1
          simp [h1, h2, ih]
        · by_cases h2 : q w
          · simp [h1, h2]; omega
          · simp [h1, h2, ih]
    simp only [List.filter_cons]
    by_cases e : z = x
    · subst e
      have := mono l
      simp [hp, hq]; omega
    · have hx' : x ∈ l := by rcases List.mem_cons.1 hx with h | h; exact absurd h.symm e; exact h
      have := count_lt l x hx' hpq hq hp
      by_cases h1 : p z
      · have h2 := hpq z h1
        simp [h1, h2, this]
      · by_cases h2 : q z
        · simp [h1, h2]; omega
        · simp [h1, h2, this]
/-- Where each one leads to one of them, some way leads round. -/
theorem round_of {L : List Nat} (hL : ∀ k ∈ L, ∃ x ∈ L, E k x) (h0 : L ≠ []) : ∃ k ∈ L, ∃ x, E k x ∧ Star E x k := by
  classical
  apply Classical.byContradiction
  intro hn
  have main : ∀ m k, k ∈ L → (L.filter fun y => decide (Star E k y)).length = m → False := by
    intro m
    induction m using Nat.strongRecOn with
    | _ m ih =>
      intro k hk hm
      obtain ⟨x, hx, e⟩ := hL k hk
      have hlt := count_lt (p := fun y => Star E x y) (q := fun y => Star E k y) L k hk (fun y hy => .head e hy) (.refl k) (fun hy => hn ⟨k, hk, x, e, hy⟩)
      exact ih _ (by omega) x hx rfl
  cases L with
  | nil => exact h0 rfl
  | cons k L => exact main _ k (by simp) rfl
/-- A way that leads round stays, however often those that lead to none are dropped. -/
theorem round_in {S : Nat → Prop} {k x : Nat} (e : E k x) (h : Star E x k) : ∀ y, Star E x y ∧ Star E y k → ∃ z, E y z ∧ (Star E x z ∧ Star E z k) := by
  rintro y ⟨h1, h2⟩
  rcases h2.cases_head with rfl | ⟨z, h3, h4⟩
  · exact ⟨x, e, .refl x, h⟩
  · exact ⟨z, h3, .tail h1 h3, h4⟩
/-- Once and again: those that lead to one of them. -/
def lead (s : Nat → List Nat) (L : List Nat) : List Nat := L.filter fun k => (s k).any fun x => L.contains x
def drops (s : Nat → List Nat) : Nat → List Nat → List Nat
  | 0, L => L
  | n + 1, L => if (lead s L).length = L.length then L else drops s n (lead s L)
theorem lead_len (s : Nat → List Nat) (L : List Nat) : (lead s L).length ≤ L.length := List.length_filter_le _ _
theorem lead_eq {s : Nat → List Nat} {L : List Nat} (h : (lead s L).length = L.length) : ∀ k ∈ L, ∃ x ∈ L, x ∈ s k := by
  intro k hk
  have := List.length_filter_eq_length_iff.1 h k hk
  obtain ⟨x, hx, hc⟩ := List.any_eq_true.1 this
  exact ⟨x, by simpa using hc, hx⟩
theorem drops_fix (s : Nat → List Nat) : ∀ (n : Nat) (L : List Nat), L.length ≤ n → ∀ k ∈ drops s n L, ∃ x ∈ drops s n L, x ∈ s k
  | 0, L, h, k, hk => by
    have : L = [] := List.eq_nil_of_length_eq_zero (by omega)
    subst this
    simp [drops] at hk
  | n + 1, L, h, k, hk => by
    unfold drops at hk ⊢
    by_cases c : (lead s L).length = L.length
    · rw [if_pos c] at hk ⊢
      exact lead_eq c k hk
    · rw [if_neg c] at hk ⊢
      have := lead_len s L
      exact drops_fix s n _ (by omega) k hk
theorem drops_sub (s : Nat → List Nat) : ∀ (n : Nat) (L : List Nat) (k : Nat), k ∈ drops s n L → k ∈ L
  | 0, L, k, hk => hk
  | n + 1, L, k, hk => by
    unfold drops at hk
    split at hk
    · exact hk
    · exact (List.mem_filter.1 (drops_sub s n _ k hk)).1
theorem drops_in (s : Nat → List Nat) {C : Nat → Prop} (hC : ∀ y, C y → ∃ z, z ∈ s y ∧ C z) : ∀ (n : Nat) (L : List Nat), (∀ y, C y → y ∈ L) → ∀ y, C y → y ∈ drops s n L
  | 0, L, h, y, hy => h y hy
  | n + 1, L, h, y, hy => by
    unfold drops
    split
    · exact h y hy
    · refine drops_in s hC n _ (fun w hw => ?_) y hy
      obtain ⟨z, h1, h2⟩ := hC w hw
      exact List.mem_filter.2 ⟨h w hw, List.any_eq_true.2 ⟨z, h1, by simpa using h z h2⟩⟩
/-- The two ways to ask whether a way leads round. -/
theorem drops_iff (s : Nat → List Nat) (L : List Nat) (hL : ∀ k ∈ L, ∀ x ∈ s k, x ∈ L) (n : Nat) (hn : L.length ≤ n) : drops s n L ≠ [] ↔ ∃ k ∈ L, ∃ x ∈ s k, Star (fun a b => b ∈ s a) x k := by
  constructor
  · intro h
    obtain ⟨k, hk, x, e, hs⟩ := round_of (E := fun a b => b ∈ s a) (drops_fix s n L hn) h
    exact ⟨k, drops_sub s n L k hk, x, e, hs⟩
  · rintro ⟨k, hk, x, e, hs⟩ h
    have hx : x ∈ L := hL k hk x e
    have := drops_in s (C := fun y => Star (fun a b => b ∈ s a) x y ∧ Star (fun a b => b ∈ s a) y k) (round_in (S := fun _ => True) e hs) n L (fun y hy => Star.closed (S := fun y => y ∈ L) hx (fun a b ha hb => hL a ha b hb) hy.1) k ⟨hs, .refl k⟩
    rw [h] at this
    simp at this
end Go.Tree.Cg

/- What is come to in a graph: the program's way. -/
namespace Go.Tree.Q
open Go.Proofs Go.Tree.Cg
set_option linter.unusedVariables false
set_option linter.unusedSimpArgs false
abbrev nI (ts : List Nat) : List Int := ts.map fun (a : Nat) => (a : Int)
theorem len_n {ts : List Nat} : ((nI ts).map i64).length = ts.length := by simp
theorem n_at {ts : List Nat} {j : Nat} (h : j < ts.length) : ((nI ts).map i64).getD (0 + ((j : Nat) : Int).toNat) (.dead ()) = i64 ((ts[j] : Nat) : Int) := by
  rw [i64_at (by simpa using h)]
  simp
theorem mem_nI {a : Nat} {ts : List Nat} : (a : Int) ∈ nI ts ↔ a ∈ ts := by
  rw [List.mem_map]
  constructor
  · rintro ⟨b, hb, e⟩
    obtain rfl : b = a := by omega
    exact hb
  · exact fun h => ⟨a, h, rfl⟩
theorem app_n {ts : List Nat} {a : Nat} : (nI ts).map i64 ++ [i64 (a : Int)] = (nI (ts ++ [a])).map i64 := by simp
/-- A graph: each node's next ones. -/
def Gr (n : Nat) (N : List (List Nat)) : Prop := N.length = n ∧ n ≤ 12 ∧ ∀ l ∈ N, l.length ≤ 12 ∧ ∀ x ∈ l, x < n
/-- Rows of numbers, whosever memory they are. -/
def Rows (next : List TV) (N : List (List Nat)) : Prop := next.length = N.length ∧ ∀ (j : Nat) (h : j < N.length), ∃ q, next[j]? = some (rI q (nI N[j]))
theorem Rows.at_ {next : List TV} {N : List (List Nat)} (h : Rows next N) {j : Nat} (hj : j < N.length) : ∃ q, next.getD (0 + ((j : Nat) : Int).toNat) (.dead ()) = rI q (nI N[j]) := by
  obtain ⟨q, hq⟩ := h.2 j hj
  exact ⟨q, by rw [zN, List.getD_eq_getElem?_getD, hq, Option.getD_some]⟩
def Ed (N : List (List Nat)) (but : List Nat) (a b : Nat) : Prop := ∃ h : a < N.length, b ∈ N[a] ∧ b ∉ but
theorem Gr.row {n : Nat} {N : List (List Nat)} (h : Gr n N) {a : Nat} (ha : a < N.length) : N[a].length ≤ 12 ∧ ∀ x ∈ N[a], x < n := h.2.2 _ (List.getElem_mem ha)
theorem Gr.ed {n : Nat} {N : List (List Nat)} (h : Gr n N) {but : List Nat} {a b : Nat} (e : Ed N but a b) : b < n := by
  obtain ⟨ha, hb, _⟩ := e
  exact (h.row ha).2 b hb
theorem Gr.star {n : Nat} {N : List (List Nat)} (h : Gr n N) {but : List Nat} {a b : Nat} (ha : a < n) (e : Star (Ed N but) a b) : b < n := Star.closed (S := fun b => b < n) ha (fun x y _ e => h.ed e) e
def cntF (bs : List Bool) : Nat := (bs.filter fun b => !b).length
theorem cnt_set : ∀ (bs : List Bool) (k : Nat), bs[k]? = some false → cntF (bs.set k true) + 1 = cntF bs
  | [], k, h => by simp at h
  | b :: bs, 0, h => by
    simp only [List.getElem?_cons_zero, Option.some.injEq] at h
    subst h
    simp [cntF]
  | b :: bs, k + 1, h => by
    have := cnt_set bs k (by simpa using h)
    simp only [cntF, List.set_cons_succ, List.filter_cons] at this ⊢
    cases b <;> simp <;> omega
theorem len_b {bs : List Bool} : (bs.map fun b => tb b).length = bs.length := List.length_map _
theorem b_at {bs : List Bool} {j : Nat} (h : j < bs.length) : (bs.map fun b => tb b).getD (0 + ((j : Nat) : Int).toNat) (.dead ()) = tb bs[j] := getD_at (e := fun b => tb b) (List.getElem?_eq_getElem h)
theorem set_b {bs : List Bool} {j : Nat} {v : Bool} : (bs.map fun b => tb b).set (0 + ((j : Nat) : Int).toNat) (tb v) = (bs.set j v).map fun b => tb b := by
  rw [zN, List.map_set]
/-- What holds while one goes on. -/
structure Go_ (n : Nat) (N : List (List Nat)) (but : List Nat) (a0 : Nat) (bs : List Bool) (ts : List Nat) : Prop where
  len : bs.length = n
  todo : ∀ t ∈ ts, bs[t]? = some true
  way : ∀ a, bs[a]? = some true → Star (Ed N but) a0 a
  start : bs[a0]? = some true
theorem true_lt {bs : List Bool} {a : Nat} (h : bs[a]? = some true) : a < bs.length := (List.getElem?_eq_some_iff.1 h).1
theorem t57 {n : Nat} {N : List (List Nat)} {next : List TV} (hg : Gr n N) (hr : Rows next N) (but : List Nat) (hbl : but.length ≤ 12) (a0 : Nat) (ha0 : a0 < n) :
    ∃ bs : List Bool, tw cx 57 [sl true ⟨1, true⟩ next, i64 a0, rI true (nI but)] = some ([rT false bs], []) ∧ bs.length = n ∧ ∀ k, bs[k]? = some true ↔ (a0 ∉ but ∧ Star (Ed N but) a0 k) := by
  obtain ⟨hN, hn, _⟩ := id hg
  have hbut : ∀ x : Nat, tw cx 75 [rI true (nI but), i64 (x : Int)] = some ([tb (decide (x ∈ but))], []) := fun x => by
    rw [t75 (nI but) (x : Int) (by show _ ≤ 1073741824; simp; omega)]
    simp only [mem_nI]
  have lim1 : ∀ m : Nat, m ≤ 1000 → decide (m * 8 < lim) = true := fun m hm => decide_eq_true (by have : lim = 140737488355328 := rfl; omega)
  -- one node's next ones
  have inner : ∀ (x : Nat) (hx : x < N.length) (ts0 : List Nat), ∀ d j (bs : List Bool) (ts : List Nat), N[x].length - j = d → j ≤ N[x].length → Go_ n N but a0 bs (x :: ts) → bs[x]? = some true → cntF bs + ts.length ≤ 100 → (∀ i (hi : i < N[x].length), i < j → N[x][i] ∉ but → bs[N[x][i]]? = some true) →
      (∀ a b, bs[a]? = some true → a ∉ x :: ts → Ed N but a b → bs[b]? = some true) →
      ∃ bs' ts', Go_ n N but a0 bs' ts' ∧ (∀ a b, bs'[a]? = some true → a ∉ ts' → Ed N but a b → bs'[b]? = some true) ∧ cntF bs' + ts'.length = cntF bs + ts.length ∧
        ∀ r, S cx 57 (H57_0 next ((nI but).map i64) (bs'.map fun b => tb b) ((nI ts').map i64)) = some r → S cx 57 (H57_1 next ((nI but).map i64) (bs.map fun b => tb b) ((nI (x :: ts)).map i64) ((nI N[x]).map i64) (j : Int)) = some r := by
    intro x hx ts0 d
    induction d with
    | zero =>
      intro j bs ts hd hj hI hxb hc hdone hcl
      refine ⟨bs, ts, ⟨hI.len, fun t ht => hI.todo t (by simp [ht]), hI.way, hI.start⟩, fun a b h1 h2 h3 => ?_, rfl, fun r h => eH57_1 (bif_neg (dF (by rw [len_n]; omega)) (ck_pos ?_ (back_of ?_)))⟩
      · by_cases c : a = x
        · subst c
          obtain ⟨_, h4, h5⟩ := h3
          obtain ⟨i, hi, rfl⟩ := List.mem_iff_getElem.1 h4
          exact hdone i hi (by omega) h5
        · exact hcl a b h1 (by simp [c, h2]) h3
      · exact dT2 (by rw [len_n, List.length_cons]; omega)
      · have e : (((nI (x :: ts)).map i64).drop 1).take ((((nI (x :: ts)).map i64).length : Int) - 1).toNat = (nI ts).map i64 := by
          rw [len_n, show (((x :: ts).length : Int) - 1).toNat = ts.length by rw [List.length_cons]; omega]
          simp only [List.map_cons, List.drop_succ_cons, List.drop_zero]
          exact List.take_of_length_le (by simp)
        rw [e]
        exact h
    | succ d ih =>
      intro j bs ts hd hj hI hxb hc hdone hcl
      have hjl : j < N[x].length := by omega
      have hb := (hg.row hx).2 _ (List.getElem_mem hjl)
      have hl := (hg.row hx).1
      have hbl : N[x][j] < bs.length := by rw [hI.len]; exact hb
      have hinc : w64 ((j : Int) + 1) = ((j + 1 : Nat) : Int) := inc64 (n := N[x].length) hjl (by omega)
      have next_ : (N[x][j] ∉ but → bs[N[x][j]]? = some true) → (∀ i (hi : i < N[x].length), i < j + 1 → N[x][i] ∉ but → bs[N[x][i]]? = some true) := fun h i hi hij hn => by
        by_cases c : i = j
        · subst c; exact h hn
        · exact hdone i hi (by omega) hn
      cases hv : bs[N[x][j]] with
      | true =>
        have hv' : bs[N[x][j]]? = some true := by rw [List.getElem?_eq_getElem hbl, hv]
        obtain ⟨bs', ts', h1, h2, h3, h4⟩ := ih (j + 1) bs ts (by omega) (by omega) hI hxb hc (next_ fun _ => hv') hcl
        refine ⟨bs', ts', h1, h2, h3, fun r h => eH57_1 (bif_pos (dT (by rw [len_n]; omega)) (ck_pos (dT2 (by rw [len_n]; omega)) ?_))⟩
        rw [n_at hjl, S_int]
        refine ck_pos (dT2 (by rw [len_b]; omega)) ?_
        rw [b_at hbl, S_bool, hv]
        refine bif_neg rfl (eG57_2 (bif_neg rfl (back_of ?_)))
        rw [hinc]
        exact h4 r h
      | false =>
        have hv' : bs[N[x][j]]? = some false := by rw [List.getElem?_eq_getElem hbl, hv]
        by_cases cb : N[x][j] ∈ but
        · obtain ⟨bs', ts', h1, h2, h3, h4⟩ := ih (j + 1) bs ts (by omega) (by omega) hI hxb hc (next_ fun h => absurd cb h) hcl
          refine ⟨bs', ts', h1, h2, h3, fun r h => eH57_1 (bif_pos (dT (by rw [len_n]; omega)) (ck_pos (dT2 (by rw [len_n]; omega)) ?_))⟩
          rw [n_at hjl, S_int]
          refine ck_pos (dT2 (by rw [len_b]; omega)) ?_
          rw [b_at hbl, S_bool, hv]
          refine bif_pos rfl ?_
          rw [C75_S (hbut _), dT cb]
          refine eG57_2 (bif_neg rfl (back_of ?_))
          rw [hinc]
          exact h4 r h
        · have hset : ∀ a, (bs.set N[x][j] true)[a]? = some true ↔ (a = N[x][j] ∨ bs[a]? = some true) := fun a => by
            rw [List.getElem?_set]
            by_cases c : N[x][j] = a
            · rw [if_pos c, if_pos (by omega)]; simp [c]
            · rw [if_neg c]
              exact ⟨.inr, fun h => h.elim (fun e => absurd e.symm c) id⟩
          have hcn := cnt_set bs _ hv'
          have hed : Ed N but x N[x][j] := ⟨hx, List.getElem_mem hjl, cb⟩
          obtain ⟨bs', ts', h1, h2, h3, h4⟩ := ih (j + 1) (bs.set N[x][j] true) (ts ++ [N[x][j]]) (by omega) (by omega)
            ⟨by rw [List.length_set]; exact hI.len, fun t ht => by
              rw [hset]
              rcases List.mem_cons.1 ht with rfl | ht
              · exact .inr hxb
              · rcases List.mem_append.1 ht with ht | ht
                · exact .inr (hI.todo t (by simp [ht]))
                · exact .inl (by simpa using ht), fun a h => by
              rcases (hset a).1 h with rfl | h
              · exact .tail (hI.way x hxb) hed
              · exact hI.way a h, (hset _).2 (.inr hI.start)⟩ ((hset _).2 (.inr hxb)) (by rw [List.length_append, List.length_singleton]; omega)
            (fun i hi hij hn => by
              by_cases c : i = j
              · subst c; exact (hset _).2 (.inl rfl)
              · exact (hset _).2 (.inr (hdone i hi (by omega) hn)))
            (fun a b h1 h2 h3 => by
              rcases (hset a).1 h1 with rfl | h1
              · exact absurd (by simp) h2
              · exact (hset b).2 (.inr (hcl a b h1 (fun hm => h2 (by
                  rcases List.mem_cons.1 hm with rfl | hm
                  · simp
                  · simp [hm])) h3)))
          refine ⟨bs', ts', h1, h2, by rw [h3, List.length_append, List.length_singleton]; omega, fun r h => eH57_1 (bif_pos (dT (by rw [len_n]; omega)) (ck_pos (dT2 (by rw [len_n]; omega)) ?_))⟩
          rw [n_at hjl, S_int]
          refine ck_pos (dT2 (by rw [len_b]; omega)) ?_
          rw [b_at hbl, S_bool, hv]
          refine bif_pos rfl ?_
          rw [C75_S (hbut _), dF cb]
          refine eG57_2 (bif_pos rfl (ck_pos (dT2 (by rw [len_b]; omega)) (ck_pos (lim1 _ (by rw [len_n]; simp; omega)) (back_of ?_))))
          rw [hinc, set_b, app_n]
          exact h4 r h
  have outer : ∀ m (bs : List Bool) (ts : List Nat), cntF bs + ts.length ≤ m → m ≤ 100 → Go_ n N but a0 bs ts → (∀ a b, bs[a]? = some true → a ∉ ts → Ed N but a b → bs[b]? = some true) →
      ∃ bs', S cx 57 (H57_0 next ((nI but).map i64) (bs.map fun b => tb b) ((nI ts).map i64)) = some ([rT false bs'], []) ∧ bs'.length = n ∧ ∀ k, bs'[k]? = some true ↔ Star (Ed N but) a0 k := by
    intro m
    induction m with
    | zero =>
      intro bs ts hm _ hI hcl
      have : ts = [] := List.eq_nil_of_length_eq_zero (by omega)
      subst this
      exact ⟨bs, eH57_0 (bif_neg (dF (by simp)) rfl), hI.len, fun k => ⟨hI.way k, fun h => Star.closed (S := fun k => bs[k]? = some true) hI.start (fun x y hx e => hcl x y hx (by simp) e) h⟩⟩
    | succ m ih =>
      intro bs ts hm hm2 hI hcl
      cases ts with
      | nil => exact ⟨bs, eH57_0 (bif_neg (dF (by simp)) rfl), hI.len, fun k => ⟨hI.way k, fun h => Star.closed (S := fun k => bs[k]? = some true) hI.start (fun x y hx e => hcl x y hx (by simp) e) h⟩⟩
      | cons x ts =>
        have hxb := hI.todo x (by simp)
        have hx : x < N.length := by have := true_lt hxb; rw [hI.len] at this; omega
        obtain ⟨bs', ts', h1, h2, h3, h4⟩ := inner x hx ts _ 0 bs ts rfl (Nat.zero_le _) hI hxb (by simp at hm; omega) (fun i _ h => absurd h (Nat.not_lt_zero _)) hcl
        obtain ⟨bs'', h5, h6⟩ := ih bs' ts' (by simp at hm; omega) (by omega) h1 h2
        refine ⟨bs'', eH57_0 (bif_pos (dT (by rw [len_n, List.length_cons]; omega)) (ck_pos (dT (by rw [len_n, List.length_cons]; omega)) ?_)), h6⟩
        have e0 : ((nI (x :: ts)).map i64).getD 0 (.dead ()) = i64 (x : Int) := by simp
        rw [e0, S_int]
        refine ck_pos (dT2 (by rw [hr.1]; omega)) ?_
        obtain ⟨q, hq⟩ := hr.at_ hx
        rw [hq, S_slR]
        exact h4 _ h5
  have hlen : (next.length : Int).toNat = n := by rw [hr.1, hN]; omega
  have hrep : ∀ m, (List.replicate m (tb false) : List TV) = (List.replicate m false).map fun b => tb b := fun m => by simp
  have hmk : (decide ((0 : Int) ≤ (next.length : Int)) && decide ((next.length : Int) ≤ (next.length : Int)) && decide ((next.length : Int) * 1 < (lim : Int)) && decide ((next.length : Int) < 9223372036854775807) && true && true) = true := by
    have : (lim : Int) = 140737488355328 := rfl
    have := hr.1
    simp
    omega
  by_cases cb : a0 ∈ but
  · refine ⟨List.replicate n false, e57 (ck_pos hmk ?_), by simp, fun k => ⟨fun h => ?_, fun h => absurd cb h.1⟩⟩
    · rw [C75_S (hbut a0), hlen, hrep]
      exact bif_pos (dT cb) rfl
    · rw [List.getElem?_replicate] at h
      split at h <;> cases h
  · have hst : ∀ a, ((List.replicate n false).set a0 true)[a]? = some true ↔ a = a0 := fun a => by
      rw [List.getElem?_set]
      by_cases c : a0 = a
      · rw [if_pos c, if_pos (by simpa using ha0)]; simp [c]
      · rw [if_neg c, List.getElem?_replicate]
        constructor
        · intro h
          split at h <;> cases h
        · exact fun h => absurd h.symm c
    obtain ⟨bs, h1, h2, h3⟩ := outer 100 ((List.replicate n false).set a0 true) [a0] (by
        have : cntF ((List.replicate n false).set a0 true) ≤ n := by
          refine Nat.le_trans (List.length_filter_le _ _) ?_
          simp
        simp; omega) (Nat.le_refl _) ⟨by simp, fun t ht => (hst t).2 (by simpa using ht), fun a h => by rw [(hst a).1 h]; exact .refl _, (hst a0).2 rfl⟩ (fun a b h1 h2 => absurd ((hst a).1 h1) (by simpa using h2))
    refine ⟨bs, e57 (ck_pos hmk ?_), h2, fun k => (h3 k).trans ⟨fun h => ⟨cb, h⟩, And.right⟩⟩
    rw [C75_S (hbut a0), hlen, hrep]
    refine bif_neg (dF cb) (ck_pos (dT2 (by rw [len_b]; simp; omega)) ?_)
    rw [set_b]
    exact h1
end Go.Tree.Q

/- The law FnExactRunFlow: what it comes to. -/
namespace Go.Tree.Q
open Go.Proofs
set_option linter.unusedVariables false
set_option linter.unusedSimpArgs false
theorem drop_at {β : Type} {xs : List β} {j : Nat} {x : β} (h : xs[j]? = some x) : xs.drop j = x :: xs.drop (j + 1) := by
  have hlt := lt_of_at h
  rw [List.drop_eq_getElem_cons hlt]
  rw [List.getElem?_eq_getElem hlt] at h
  rw [Option.some.inj h]
theorem t26 (xs : List F) (left : Int) (hx : xs.length ≤ 9223372036854775807) (h0 : 0 ≤ left ∧ left ≤ 1048576) : tw cx 26 [rF true xs, i64 left] = some ([i64 (if left - xs.length < 0 then -1 else left - xs.length)], []) := by
  refine e26 ?_
  rw [N26, List.length_map, S_bif, w64_id (by omega) (by omega), S_ret, S_ret]
  by_cases c : left - (xs.length : Int) < 0
  · rw [if_pos (dT c), if_pos c]
  · rw [if_neg (by rw [dF c]; simp), if_neg c]
theorem t27 (xs : List Int) (left : Int) (hx : xs.length ≤ 9223372036854775807) (h0 : 0 ≤ left ∧ left ≤ 1048576) : tw cx 27 [rI true xs, i64 left] = some ([i64 (if left - xs.length < 0 then -1 else left - xs.length)], []) := by
  refine e27 ?_
  rw [N27, List.length_map, S_bif, w64_id (by omega) (by omega), S_ret, S_ret]
  by_cases c : left - (xs.length : Int) < 0
  · rw [if_pos (dT c), if_pos c]
  · rw [if_neg (by rw [dF c]; simp), if_neg c]
theorem t13 (b : Bk) (left : Int) (h1 : b.code.length ≤ 9223372036854775807) (h2 : b.next.length ≤ 9223372036854775807) (h0 : 0 ≤ left ∧ left ≤ 1048576) :
    ∃ r : Int, tw cx 13 [eB true b, i64 left] = some ([i64 r], []) ∧ r ≤ 1048576 ∧ (0 ≤ r → b.code.length ≤ 1048576 ∧ b.next.length ≤ 1048576) := by
  by_cases c : left - (b.code.length : Int) < 0
  · refine ⟨-1, e13 ?_, by omega, fun h => by omega⟩
    have := t26 b.code left h1 h0
    rw [if_pos c] at this
    rw [N13, C26_S this]
    exact bif_pos rfl rfl
  · have := t26 b.code left h1 h0
    rw [if_neg c] at this
    have h84 := t27 b.next (left - b.code.length) h2 ⟨by omega, by omega⟩
    by_cases c2 : left - (b.code.length : Int) - (b.next.length : Int) < 0
    · refine ⟨-1, e13 ?_, by omega, fun h => by omega⟩
      rw [if_pos c2] at h84
      rw [N13, C26_S this]
      refine bif_neg (dF c) ?_
      rw [C27_S h84]
      exact bif_pos rfl rfl
    · refine ⟨left - b.code.length - b.next.length, e13 ?_, ?_, fun h => ⟨by omega, by omega⟩⟩
      · rw [if_neg c2] at h84
        rw [N13, C26_S this]
        refine bif_neg (dF c) ?_
        rw [C27_S h84]
        exact bif_neg (dF c2) rfl
      · omega
theorem t4 (f : List Bk) (hx : f.length ≤ 9223372036854775807) (hb : ∀ b ∈ f, b.code.length ≤ 9223372036854775807 ∧ b.next.length ≤ 9223372036854775807) :
    ∃ r : Int, tw cx 4 [rB true true f, i64 1048576] = some ([i64 r], []) ∧ r ≤ 1048576 ∧ (0 ≤ r → f.length ≤ 1048576 ∧ ∀ b ∈ f, b.code.length ≤ 1048576 ∧ b.next.length ≤ 1048576) := by
  have e1 : (f.map (eB true)).length = f.length := List.length_map _
  by_cases c : (1048576 : Int) - (f.length : Int) < 0
  · refine ⟨-1, e4 ?_, by omega, fun h => by omega⟩
    rw [N4, e1, w64_id (by omega) (by omega)]
    exact bif_pos (dT c) rfl
  · have key : ∀ d j : Nat, f.length - j = d → j ≤ f.length → ∀ left : Int, 0 ≤ left ∧ left ≤ 1048576 →
        ∃ r : Int, S cx 4 (H4_0 (f.map (eB true)) left j) = some ([i64 r], []) ∧ r ≤ 1048576 ∧ (0 ≤ r → ∀ b ∈ f.drop j, b.code.length ≤ 1048576 ∧ b.next.length ≤ 1048576) := by
      intro d
      induction d with
      | zero =>
        intro j hd hj left hl
        have : j = f.length := by omega
        subst this
        exact ⟨left, eH4_0 (bif_neg (dF (by omega)) rfl), hl.2, fun _ b hb => by simp at hb⟩
      | succ d ih =>
        intro j hd hj left hl
        obtain ⟨b, hbj⟩ := at_some (show j < f.length by omega)
        have hbm := hb b (List.mem_of_getElem? hbj)
        obtain ⟨r1, h1, h2, h3⟩ := t13 b left hbm.1 hbm.2 hl
        by_cases c1 : r1 < 0
        · refine ⟨-1, eH4_0 (bif_pos (dT (by omega)) (ck_pos (dT2 (by omega)) ?_)), by omega, fun h => by omega⟩
          rw [getD_at hbj, V4_S, C13_S h1]
          exact bif_pos (dT c1) rfl
        · obtain ⟨r, g1, g2, g3⟩ := ih (j + 1) (by omega) (by omega) r1 ⟨by omega, h2⟩
          refine ⟨r, eH4_0 (bif_pos (dT (by omega)) (ck_pos (dT2 (by omega)) ?_)), g2, fun h => ?_⟩
          · rw [getD_at hbj, V4_S, C13_S h1]
            refine bif_neg (dF c1) (back_of ?_)
            rw [inc64 (n := f.length) (by omega) (by omega)]
            exact g1
          · rw [drop_at hbj]
            intro b' hb'
            rcases List.mem_cons.1 hb' with rfl | hb'
            · exact h3 (by omega)
            · exact g3 h b' hb'
    obtain ⟨r, g1, g2, g3⟩ := key f.length 0 (by omega) (by omega) (1048576 - f.length) ⟨by omega, by omega⟩
    refine ⟨r, e4 ?_, g2, fun h => ⟨by omega, by simpa using g3 h⟩⟩
    rw [N4, e1, w64_id (by omega) (by omega)]
    exact bif_neg (dF c) g1
theorem t65 (x : F) : tw cx 65 [eF x, eF x] = some ([tb true], []) := by
  refine e65 ?_
  simp only [N65, S_bif, S_ret, bne_self_eq_false, Bool.false_eq_true, if_false]
theorem t21 (xs : List Int) (hl : xs.length ≤ big) : tw cx 21 [rI true xs, rI true xs] = some ([tb true], []) := by
  have hb : xs.length ≤ 1073741824 := hl
  have e1 : (xs.map i64).length = xs.length := List.length_map _
  have := all_list (xs := xs) (q := fun _ => true) (H := fun i => S cx 21 (H21_0 (xs.map i64) (xs.map i64) i)) (yes := fun _ => none) (no := ([tb false], [])) (fun j x hx => by
    have hj := lt_of_at hx
    refine ⟨fun _ r h => ?_, fun hq => by cases hq⟩
    refine eH21_0 (bif_pos (dT (by omega)) (ck_pos (dT2 (by omega)) ?_))
    rw [getD_at hx, S_int]
    refine ck_pos (dT2 (by omega)) ?_
    rw [S_int]
    refine bif_neg (by simp) (back_of ?_)
    rw [inc64 hj hb]
    exact h) (eH21_0 (bif_neg (dF (by omega)) rfl))
  refine e21 (bif_neg (by simp) ?_)
  refine Eq.trans this ?_
  simp
theorem t46 (xs : List F) (hl : xs.length ≤ big) : tw cx 46 [rF true xs, rF true xs] = some ([tb true], []) := by
  have hb : xs.length ≤ 1073741824 := hl
  have e1 : (xs.map eF).length = xs.length := List.length_map _
  have := all_list (xs := xs) (q := fun _ => true) (H := fun i => S cx 46 (H46_0 (xs.map eF) (xs.map eF) i)) (yes := fun _ => none) (no := ([tb false], [])) (fun j x hx => by
    have hj := lt_of_at hx
    refine ⟨fun _ r h => ?_, fun hq => by cases hq⟩
    refine eH46_0 (bif_pos (dT (by omega)) (ck_pos (dT2 (by omega)) ?_))
    rw [getD_at hx, V6_S]
    refine ck_pos (dT2 (by omega)) ?_
    rw [V6_S, C65_S (t65 x)]
    refine bif_neg rfl (back_of ?_)
    rw [inc64 hj hb]
    exact h) (eH46_0 (bif_neg (dF (by omega)) rfl))
  refine e46 (bif_neg (by simp) ?_)
  refine Eq.trans this ?_
  simp
theorem t22 (b : Bk) (h : smallB b) : tw cx 22 [eB true b, eB true b] = some ([tb true], []) := by
  refine e22 ?_
  rw [N22, C46_S (t46 b.code h.1)]
  refine bif_neg rfl (bif_neg (by simp) (bif_neg (by simp) ?_))
  rw [C21_S (t21 b.next h.2)]
  exact bif_neg rfl rfl
theorem t9 (f : List Bk) (hf : smallF f) : tw cx 9 [rB true false f, rB true false f] = some ([tb true], []) := by
  have hb : f.length ≤ 1073741824 := hf.1
  have e1 : (f.map (eB false)).length = f.length := List.length_map _
  have := all_list (xs := f) (q := fun _ => true) (H := fun i => S cx 9 (H9_0 (f.map (eB false)) (f.map (eB false)) i)) (yes := fun _ => none) (no := ([tb false], [])) (fun j x hx => by
    have hj := lt_of_at hx
    refine ⟨fun _ r h => ?_, fun hq => by cases hq⟩
    refine eH9_0 (bif_pos (dT (by omega)) (ck_pos (dT2 (by omega)) ?_))
    rw [getD_at hx, V4_S]
    refine ck_pos (dT2 (by omega)) ?_
    rw [V4_S, C22_S (t22 x (hf.2 x (List.mem_of_getElem? hx)))]
    refine bif_neg rfl (back_of ?_)
    rw [inc64 hj hb]
    exact h) (eH9_0 (bif_neg (dF (by omega)) rfl))
  refine e9 (bif_neg (by simp) ?_)
  refine Eq.trans this ?_
  simp
end Go.Tree.Q

/- What is come to in a graph: the reference's way. -/
namespace Go.Tree.Q
open Go.Proofs Go.Tree.Cg
set_option linter.unusedVariables false
set_option linter.unusedSimpArgs false
/-- As many as there are, at most. -/
theorem nd_len : ∀ (n : Nat) (l : List Nat), l.Nodup → (∀ x ∈ l, x < n) → l.length ≤ n
  | 0, l, _, h => by
    cases l with
    | nil => simp
    | cons x l => exact absurd (h x (by simp)) (Nat.not_lt_zero _)
  | n + 1, l, hd, h => by
    by_cases c : n ∈ l
    · have h1 := nd_len n (l.erase n) (hd.erase n) (fun x hx => by
        have := (List.Nodup.mem_erase_iff hd).1 hx
        have := h x this.2
        omega)
      rw [List.length_erase_of_mem c] at h1
      omega
    · have h1 := nd_len n l hd (fun x hx => by
        have := h x hx
        have : x ≠ n := fun e => c (e ▸ hx)
        omega)
      omega
theorem nd_full {n : Nat} {l : List Nat} (hd : l.Nodup) (h : ∀ x ∈ l, x < n) (he : l.length = n) : ∀ k, k < n → k ∈ l := by
  intro k hk
  apply Classical.byContradiction
  intro c
  have h1 := nd_len n (k :: l) (List.nodup_cons.2 ⟨c, hd⟩) (fun x hx => by
    rcases List.mem_cons.1 hx with rfl | hx
    · exact hk
    · exact h x hx)
  simp at h1
  omega
theorem has (ts : List Nat) (x : Nat) (hl : ts.length ≤ 1000) : tw cx 35 [rI true (nI ts), i64 (x : Int)] = some ([tb (decide (x ∈ ts))], []) := by
  rw [t35 (nI ts) (x : Int) (by show _ ≤ 1073741824; simp; omega)]
  simp only [mem_nI]
/-- Distinct, all there, all come to. -/
structure Se (n : Nat) (N : List (List Nat)) (but : List Nat) (ts : List Nat) : Prop where
  nd : ts.Nodup
  lt : ∀ t ∈ ts, t < n
  way : ∀ t ∈ ts, Star (Ed N but) 0 t
  zero : 0 ∈ ts
theorem Se.len {n : Nat} {N : List (List Nat)} {but ts : List Nat} (h : Se n N but ts) : ts.length ≤ n := nd_len n ts h.nd h.lt
theorem Se.add {n : Nat} {N : List (List Nat)} {but ts : List Nat} (hg : Gr n N) (h : Se n N but ts) {a b : Nat} (ha : a ∈ ts) (e : Ed N but a b) (hb : b ∉ ts) : Se n N but (ts ++ [b]) := by
  refine ⟨?_, fun t ht => ?_, fun t ht => ?_, by simp [h.zero]⟩
  · rw [List.nodup_append]
    refine ⟨h.nd, by simp, fun x hx y hy => ?_⟩
    rw [List.mem_singleton.1 hy]
    exact fun e => hb (e ▸ hx)
  · rcases List.mem_append.1 ht with ht | ht
    · exact h.lt t ht
    · rw [List.mem_singleton.1 ht]; exact hg.ed e
  · rcases List.mem_append.1 ht with ht | ht
    · exact h.way t ht
    · rw [List.mem_singleton.1 ht]; exact .tail (h.way a ha) e
/-- How a list grows by what its parts lead to, one after the other. -/
theorem grow {n : Nat} {N : List (List Nat)} (hg : Gr n N) (h0 : 0 < n) (but : List Nat) {H0 : List Nat → Int → Option Res} {H1 : List Nat → Nat → Nat → Option Res} {fin : List Nat → Option Res}
    (go0 : ∀ (ts : List Nat) (i : Nat) (hi : i < ts.length), ts[i] < n → ts.length ≤ n → ∀ r, H1 ts i 0 = some r → H0 ts (i : Int) = some r)
    (end0 : ∀ (ts : List Nat), ts.length ≤ n → ∀ r, fin ts = some r → H0 ts (ts.length : Int) = some r)
    (go1 : ∀ (ts : List Nat) (i j : Nat) (hi : i < ts.length) (hx : ts[i] < N.length) (hj : j < N[ts[i]].length), ts.length ≤ n → ∀ r, (if N[ts[i]][j] ∈ but ∨ N[ts[i]][j] ∈ ts then H1 ts i (j + 1) else H1 (ts ++ [N[ts[i]][j]]) i (j + 1)) = some r → H1 ts i j = some r)
    (end1 : ∀ (ts : List Nat) (i : Nat) (hi : i < ts.length) (hx : ts[i] < N.length), ts.length ≤ n → ∀ r, H0 ts ((i + 1 : Nat) : Int) = some r → H1 ts i N[ts[i]].length = some r)
    {r : List Nat → Res} (hfin : ∀ ts, ts.length ≤ n → ts.Nodup → (∀ t ∈ ts, t < n) → fin ts = some (r ts)) :
    ∃ ts, H0 [0] 0 = some (r ts) ∧ ts.Nodup ∧ ∀ k, k ∈ ts ↔ Star (Ed N but) 0 k := by
  obtain ⟨hN, _, _⟩ := id hg
  have inner : ∀ d (ts : List Nat) (i j : Nat) (hi : i < ts.length) (hx : ts[i] < N.length), N[ts[i]].length - j = d → j ≤ N[ts[i]].length → Se n N but ts → (∀ q (hq : q < N[ts[i]].length), q < j → N[ts[i]][q] ∉ but → N[ts[i]][q] ∈ ts) → (∀ (q : Nat) (hq : q < ts.length), q < i → ∀ b, Ed N but ts[q] b → b ∈ ts) →
      ∃ ts', ts <+: ts' ∧ Se n N but ts' ∧ (∀ (q : Nat) (hq : q < ts'.length), q < i + 1 → ∀ b, Ed N but ts'[q] b → b ∈ ts') ∧ ∀ r, H0 ts' ((i + 1 : Nat) : Int) = some r → H1 ts i j = some r := by
    intro d
    induction d with
    | zero =>
      intro ts i j hi hx hd hj hS hdone hcl
      obtain rfl : j = N[ts[i]].length := by omega
      refine ⟨ts, List.prefix_refl _, hS, fun q hq hqi b e => ?_, end1 ts i hi hx hS.len⟩
      by_cases c : q = i
      · subst c
        obtain ⟨h1, h2, h3⟩ := e
        obtain ⟨p, hp, rfl⟩ := List.mem_iff_getElem.1 h2
        exact hdone p hp hp h3
      · exact hcl q hq (by omega) b e
    | succ d ih =>
      intro ts i j hi hx hd hj hS hdone hcl
      have hjl : j < N[ts[i]].length := by omega
      have h1 := go1 ts i j hi hx hjl hS.len
      by_cases c : N[ts[i]][j] ∈ but ∨ N[ts[i]][j] ∈ ts
      · obtain ⟨ts', h2, h3, h4, h5⟩ := ih ts i (j + 1) hi hx (by omega) (by omega) hS (fun q hq hqj hb => by
          by_cases e : q = j
          · subst e; exact c.elim (fun h => absurd h hb) id
          · exact hdone q hq (by omega) hb) hcl
        exact ⟨ts', h2, h3, h4, fun r h => h1 r (by rw [if_pos c]; exact h5 r h)⟩
      · have c1 : N[ts[i]][j] ∉ but := fun h => c (.inl h)
        have c2 : N[ts[i]][j] ∉ ts := fun h => c (.inr h)
        have hS2 := hS.add hg (List.getElem_mem hi) ⟨hx, List.getElem_mem hjl, c1⟩ c2
        have hi2 : i < (ts ++ [N[ts[i]][j]]).length := by simp; omega
        have ei : (ts ++ [N[ts[i]][j]])[i] = ts[i] := List.getElem_append_left hi
        have hx2 : (ts ++ [N[ts[i]][j]])[i] < N.length := by rw [ei]; exact hx
        have eN : N[(ts ++ [N[ts[i]][j]])[i]] = N[ts[i]] := by simp only [ei]
        obtain ⟨ts', h2, h3, h4, h5⟩ := ih (ts ++ [N[ts[i]][j]]) i (j + 1) hi2 hx2 (by rw [eN]; omega) (by rw [eN]; omega) hS2 (fun q hq hqj hb => by
          have hq' : q < N[ts[i]].length := by rw [eN] at hq; exact hq
          have e2 : N[(ts ++ [N[ts[i]][j]])[i]][q] = N[ts[i]][q] := by simp only [eN]
          rw [e2] at hb ⊢
          by_cases e : q = j
          · subst e; simp
          · exact List.mem_append.2 (.inl (hdone q hq' (by omega) hb))) (fun q hq hqi b e => by
          have hql : q < ts.length := by omega
          have e3 : (ts ++ [N[ts[i]][j]])[q] = ts[q] := List.getElem_append_left hql
          rw [e3] at e
          exact List.mem_append.2 (.inl (hcl q hql hqi b e)))
        exact ⟨ts', (List.prefix_append _ _).trans h2, h3, h4, fun r h => h1 r (by rw [if_neg c]; exact h5 r h)⟩
  have outer : ∀ d (ts : List Nat) (i : Nat), n - i = d → i ≤ ts.length → Se n N but ts → (∀ (q : Nat) (hq : q < ts.length), q < i → ∀ b, Ed N but ts[q] b → b ∈ ts) →
      ∃ ts', H0 ts (i : Int) = some (r ts') ∧ ts'.Nodup ∧ ∀ k, k ∈ ts' ↔ Star (Ed N but) 0 k := by
    intro d
    induction d with
    | zero =>
      intro ts i hd hi hS hcl
      have hl := hS.len
      obtain rfl : i = ts.length := by omega
      refine ⟨ts, end0 ts hl _ (hfin ts hl hS.nd hS.lt), hS.nd, fun k => ⟨hS.way k, fun h => Star.closed (S := fun k => k ∈ ts) hS.zero (fun x y hx e => ?_) h⟩⟩
      obtain ⟨q, hq, rfl⟩ := List.mem_iff_getElem.1 hx
      exact hcl q hq hq y e
    | succ d ih =>
      intro ts i hd hi hS hcl
      have hl := hS.len
      by_cases c : i = ts.length
      · subst c
        refine ⟨ts, end0 ts hl _ (hfin ts hl hS.nd hS.lt), hS.nd, fun k => ⟨hS.way k, fun h => Star.closed (S := fun k => k ∈ ts) hS.zero (fun x y hx e => ?_) h⟩⟩
        obtain ⟨q, hq, rfl⟩ := List.mem_iff_getElem.1 hx
        exact hcl q hq hq y e
      · have hil : i < ts.length := by omega
        have hx := hS.lt _ (List.getElem_mem hil)
        obtain ⟨ts', h1, h2, h3, h4⟩ := inner _ ts i 0 hil (by omega) rfl (Nat.zero_le _) hS (fun q _ h => absurd h (Nat.not_lt_zero _)) hcl
        obtain ⟨ts'', h5, h6⟩ := ih ts' (i + 1) (by omega) (by have := h1.length_le; omega) h2 h3
        exact ⟨ts'', go0 ts i hil hx hl _ (h4 _ h5), h6⟩
  exact outer n [0] 0 rfl (by simp) ⟨by simp, fun t ht => by rw [List.mem_singleton.1 ht]; exact h0, fun t ht => by rw [List.mem_singleton.1 ht]; exact .refl _, by simp⟩ (fun q _ h => absurd h (Nat.not_lt_zero _))
/-- What is come to without a node. -/
theorem t34 {n : Nat} {N : List (List Nat)} {next : List TV} (hg : Gr n N) (hr : Rows next N) (h0 : 0 < n) (gone : Int) (but : List Nat) (hb : ∀ x : Nat, (x : Int) = gone ↔ x ∈ but) :
    ∃ ts : List Nat, tw cx 34 [.st [sl true ⟨1, true⟩ next], i64 gone] = some ([rI false (nI ts)], []) ∧ ts.Nodup ∧ ∀ k, k ∈ ts ↔ (0 ∉ but ∧ Star (Ed N but) 0 k) := by
  obtain ⟨hN, hn, _⟩ := id hg
  by_cases c : gone = 0
  · have : (0 : Nat) ∈ but := (hb 0).1 (by omega)
    exact ⟨[], e34 (bif_pos (by simp [c]) rfl), by simp, fun k => ⟨fun h => (by cases h), fun h => absurd this h.1⟩⟩
  · have h0b : (0 : Nat) ∉ but := fun h => c (by have := (hb 0).2 h; omega)
    have lim1 : ∀ m : Nat, m ≤ 1000 → decide (m * 8 < lim) = true := fun m hm => decide_eq_true (by have : lim = 140737488355328 := rfl; omega)
    obtain ⟨ts, h1, h2, h3⟩ := grow hg h0 but (H0 := fun ts i => S cx 34 (H34_0 gone next ((nI ts).map i64) i)) (H1 := fun ts i j => S cx 34 (H34_1 gone next ((nI ts).map i64) i ((nI (N.getD (ts.getD i 0) [])).map i64) j)) (fin := fun ts => some ([rI false (nI ts)], [])) (r := fun ts => ([rI false (nI ts)], []))
      (fun ts i hi hx hl r h => by
        refine eH34_0 (bif_pos (dT (by rw [len_n]; omega)) (ck_pos (dT2 (by rw [len_n]; omega)) ?_))
        rw [n_at hi, S_int]
        refine ck_pos (dT2 (by rw [hr.1]; omega)) ?_
        obtain ⟨q, hq⟩ := hr.at_ (j := ts[i]) (by omega)
        rw [hq, S_slR]
        have e1 : ts.getD i 0 = ts[i] := by rw [List.getD_eq_getElem?_getD, List.getElem?_eq_getElem hi]; rfl
        have e2 : N.getD ts[i] [] = N[ts[i]]'(by omega) := by rw [List.getD_eq_getElem?_getD, List.getElem?_eq_getElem]; rfl
        rw [e1, e2] at h
        exact h)
      (fun ts hl r h => eH34_0 (bif_neg (dF (by rw [len_n]; omega)) h))
      (fun ts i j hi hx hj hl r h => by
        have e1 : ts.getD i 0 = ts[i] := by rw [List.getD_eq_getElem?_getD, List.getElem?_eq_getElem hi]; rfl
        have e2 : N.getD ts[i] [] = N[ts[i]] := by rw [List.getD_eq_getElem?_getD, List.getElem?_eq_getElem hx]; rfl
        have e3 : (ts ++ [N[ts[i]][j]]).getD i 0 = ts[i] := by rw [List.getD_eq_getElem?_getD, List.getElem?_append_left hi, List.getElem?_eq_getElem hi]; rfl
        have hl12 := (hg.row hx).1
        have hinc : w64 ((j : Int) + 1) = ((j + 1 : Nat) : Int) := inc64 (n := N[ts[i]].length) hj (by omega)
        rw [e1, e2, e3, e2] at h
        rw [e1, e2]
        refine eH34_1 (bif_pos (dT (by rw [len_n]; omega)) (ck_pos (dT2 (by rw [len_n]; omega)) ?_))
        rw [n_at hj, S_int]
        by_cases c1 : N[ts[i]][j] ∈ but
        · rw [if_pos (.inl c1)] at h
          refine bif_neg (by have := (hb _).2 c1; simp [this]) (back_of ?_)
          rw [hinc]; exact h
        · refine bif_pos (by have : ¬ ((N[ts[i]][j] : Nat) : Int) = gone := fun h => c1 ((hb _).1 h)
                             simp [this]) ?_
          rw [C35_S (has ts _ (by omega))]
          by_cases c2 : N[ts[i]][j] ∈ ts
          · rw [if_pos (.inr c2)] at h
            refine bif_neg (by rw [dT c2]; rfl) (back_of ?_)
            rw [hinc]; exact h
          · rw [if_neg (by simp [c1, c2])] at h
            refine bif_pos (by rw [dF c2]; rfl) (ck_pos (lim1 _ (by rw [len_n]; simp; omega)) (back_of ?_))
            rw [hinc, app_n]; exact h)
      (fun ts i hi hx hl r h => by
        have e1 : ts.getD i 0 = ts[i] := by rw [List.getD_eq_getElem?_getD, List.getElem?_eq_getElem hi]; rfl
        have e2 : N.getD ts[i] [] = N[ts[i]] := by rw [List.getD_eq_getElem?_getD, List.getElem?_eq_getElem hx]; rfl
        rw [e1, e2]
        refine eH34_1 (bif_neg (dF (by rw [len_n]; omega)) (back_of ?_))
        rw [inc64 (n := ts.length) hi (by omega)]
        exact h)
      (fun ts _ _ _ => rfl)
    refine ⟨ts, e34 (bif_neg (by simp [c]) h1), h2, fun k => (h3 k).trans ⟨fun h => ⟨h0b, h⟩, And.right⟩⟩
end Go.Tree.Q

/- Graphs of a flow: both ways. -/
namespace Go.Tree.Q
open Go.Proofs Go.Tree.Cg
set_option linter.unusedVariables false
set_option linter.unusedSimpArgs false
theorem lim8 {m : Nat} (hm : m ≤ 100000) : decide (m * 8 < lim) = true := decide_eq_true (by have : lim = 140737488355328 := rfl; omega)
/-- A number put to its place, once. -/
def putV : List Int → Int → List Int
  | [], n => [n]
  | x :: l, n => if x < n then x :: putV l n else if x = n then x :: l else n :: x :: l
theorem putV_mem : ∀ (l : List Int) (n v : Int), v ∈ putV l n ↔ v ∈ l ∨ v = n
  | [], n, v => by simp [putV]
  | x :: l, n, v => by
    unfold putV
    split
    · rw [List.mem_cons, putV_mem l n v, List.mem_cons, or_assoc]
    · split
      · rename_i h1 h2
        subst h2
        simp only [List.mem_cons]
        exact ⟨.inl, fun h => h.elim id .inl⟩
      · simp only [List.mem_cons]
        exact ⟨fun h => h.elim .inr .inl, fun h => h.elim .inr .inl⟩
theorem putV_len : ∀ (l : List Int) (n : Int), (putV l n).length ≤ l.length + 1 ∧ (n ∉ l → (putV l n).length = l.length + 1)
  | [], n => by simp [putV]
  | x :: l, n => by
    have h := putV_len l n
    unfold putV
    split
    · refine ⟨by simp; omega, fun hn => ?_⟩
      have := h.2 (fun hm => hn (by simp [hm]))
      simp; omega
    · split
      · rename_i h1 h2
        exact ⟨by simp, fun hn => absurd (by simp [h2]) hn⟩
      · exact ⟨by simp, fun _ => by simp⟩
theorem t32 (xs : List Int) (n : Int) (hl : xs.length ≤ 1000) : tw cx 32 [rI false xs, i64 n] = some ([rI false (putV xs n)], []) := by
  have s0 : ∀ k : Nat, k ≤ xs.length → S cx 32 (NH32_0_s0 n k (xs.map i64)) = some ([rI false (xs.take k ++ n :: xs.drop k)], []) := fun k hk => by
    have e1 : ((k : Int) - 0).toNat = k := by omega
    have e2 : (((xs.map i64).length : Int) - (k : Int)).toNat = xs.length - k := by rw [len_i]; omega
    have e3 : ((xs.map i64).drop 0).take k = (xs.take k).map i64 := by rw [List.drop_zero, List.map_take]
    have e4 : ((xs.map i64).drop (0 + ((k : Nat) : Int).toNat)).take (xs.length - k) = (xs.drop k).map i64 := by
      rw [zN, List.map_drop, List.take_of_length_le (by simp)]
    unfold NH32_0_s0
    rw [e1, e2, e3, e4]
    refine ck_pos (dT2 (by rw [len_i]; omega)) (ck_pos (lim8 (by simp; omega)) (ck_pos (lim8 (by simp; omega)) (ck_pos ?_ (ck_pos (lim8 (by simp; omega)) ?_))))
    · rw [len_i]; simp; omega
    · rw [S_ret]
      simp
  have key : ∀ d k : Nat, xs.length - k = d → k ≤ xs.length → S cx 32 (H32_0 n k (xs.map i64)) = some ([rI false (xs.take k ++ putV (xs.drop k) n)], []) := by
    intro d
    induction d with
    | zero =>
      intro k hd hk
      obtain rfl : k = xs.length := by omega
      refine eH32_0 (bif_neg (dF (by rw [len_i]; omega)) (bif_neg (dF (by rw [len_i]; omega)) ?_))
      rw [s0 _ (Nat.le_refl _), List.drop_length]
      rfl
    | succ d ih =>
      intro k hd hk
      have hkl : k < xs.length := by omega
      have hdr : xs.drop k = xs[k] :: xs.drop (k + 1) := List.drop_eq_getElem_cons hkl
      have hp : decide ((k : Int) < ((xs.map i64).length : Int)) = true := dT (by rw [len_i]; omega)
      have hp2 : (decide (0 ≤ (k : Int)) && decide ((k : Int) < ((xs.map i64).length : Int))) = true := dT2 (by rw [len_i]; omega)
      refine eH32_0 (bif_pos hp (ck_pos hp2 ?_))
      rw [i64_at hkl, S_int, hdr]
      by_cases c : xs[k] < n
      · refine bif_pos (dT c) (back_of ?_)
        rw [inc64 (n := xs.length) hkl (by omega), ih (k + 1) (by omega) (by omega)]
        simp only [putV, if_pos c]
        have : xs.take (k + 1) = xs.take k ++ [xs[k]] := by rw [List.take_add_one, List.getElem?_eq_getElem hkl]; rfl
        rw [this, List.append_assoc]
        rfl
      · refine bif_neg (dF c) (bif_pos hp (ck_pos hp2 ?_))
        rw [S_int]
        by_cases c2 : xs[k] = n
        · refine bif_pos (by simp [c2]) ?_
          rw [S_ret]
          simp only [putV, if_neg c, if_pos c2]
          rw [← hdr, List.take_append_drop]
        · refine bif_neg (by simp [c2]) ?_
          rw [s0 k hk, hdr]
          simp only [putV, if_neg c, if_neg c2]
  refine e32 ?_
  have := key xs.length 0 (by omega) (by omega)
  simpa [N32] using this
theorem pick_rows {n : Nat} {out : List TV} {P : Nat → List Nat → Prop} (hl : out.length = n) (h : ∀ i, i < n → ∃ q g, out[i]? = some (rI q (nI g)) ∧ P i g) : ∃ G : List (List Nat), G.length = n ∧ Rows out G ∧ ∀ (i : Nat) (hi : i < G.length), P i G[i] := by
  classical
  have h2 : ∀ i : Nat, ∃ g : List Nat, i < n → ∃ q, out[i]? = some (rI q (nI g)) ∧ P i g := fun i => by
    by_cases c : i < n
    · obtain ⟨q, g, h1, h2⟩ := h i c
      exact ⟨g, fun _ => ⟨q, h1, h2⟩⟩
    · exact ⟨[], fun h => absurd h c⟩
  refine ⟨(List.range n).map fun i => Classical.choose (h2 i), by simp, ⟨by simp [hl], fun j hj => ?_⟩, fun i hi => ?_⟩
  · obtain ⟨q, h3, _⟩ := Classical.choose_spec (h2 j) (by simpa using hj)
    refine ⟨q, ?_⟩
    rw [List.getElem_map, List.getElem_range]
    exact h3
  · obtain ⟨q, _, h4⟩ := Classical.choose_spec (h2 i) (by simpa using hi)
    rw [List.getElem_map, List.getElem_range]
    exact h4
theorem nI_of {zs : List Int} (h : ∀ v ∈ zs, 0 ≤ v) : nI (zs.map Int.toNat) = zs := by
  show (zs.map Int.toNat).map (fun (a : Nat) => (a : Int)) = zs
  rw [List.map_map]
  conv => rhs; rw [← List.map_id zs]
  refine List.map_congr_left fun v hv => ?_
  have := h v hv
  simp; omega
/-- What each block leads to. -/
def N0 (f : List Bk) : List (List Nat) := f.map fun b => b.next.map Int.toNat
theorem N0_len (f : List Bk) : (N0 f).length = f.length := List.length_map _
theorem N0_at (f : List Bk) {i : Nat} (h : i < (N0 f).length) : (N0 f)[i] = (f[i]'(by simpa [N0] using h)).next.map Int.toNat := by
  show (f.map fun b => b.next.map Int.toNat)[i] = _
  exact List.getElem_map ..
theorem goP_len {b : Bk} (h : goP b) : b.next.length ≤ 6 := by
  unfold goP at h
  omega
theorem nI_next {f : List Bk} (hf : flowP f) {i : Nat} (h : i < f.length) : nI (f[i].next.map Int.toNat) = f[i].next := nI_of fun v hv => ((hf.1 _ (List.getElem_mem h)).2.2.1 v hv).1
theorem gr_flow {f : List Bk} (hf : flowP f) (h12 : f.length ≤ 12) : Gr f.length (N0 f) := by
  refine ⟨N0_len f, h12, fun l hl => ?_⟩
  obtain ⟨b, hb, rfl⟩ := List.mem_map.1 hl
  obtain ⟨_, _, h3, h4⟩ := hf.1 b hb
  refine ⟨by rw [List.length_map]; have := goP_len h4; omega, fun x hx => ?_⟩
  obtain ⟨v, hv, rfl⟩ := List.mem_map.1 hx
  have := h3 v hv
  omega
theorem fb_at {f : List Bk} {q : Bool} {j : Nat} (h : j < f.length) : (f.map (eB q)).getD (0 + ((j : Nat) : Int).toNat) (.dead ()) = eB q f[j] := getD_at (List.getElem?_eq_getElem h)
theorem mk24 {n : Nat} (h : n ≤ 12) : (decide ((0 : Int) ≤ (n : Int)) && decide ((n : Int) ≤ (n : Int)) && decide ((n : Int) * 24 < (lim : Int)) && decide ((n : Int) < 9223372036854775807) && true && true) = true := by
  have : (lim : Int) = 140737488355328 := rfl
  simp
  omega
/-- The program's rows of what each block leads to. -/
theorem t42 {f : List Bk} (hf : flowP f) (h12 : f.length ≤ 12) (q : Bool) : ∃ out, tw cx 42 [rB true q f] = some ([sl false ⟨1, true⟩ out], []) ∧ Rows out (N0 f) := by
  have e1 : (f.map (eB q)).length = f.length := List.length_map _
  obtain ⟨r, h1, out, rfl, h2⟩ := st_loop (n := f.length) (H := fun out j => S cx 42 (H42_0 out (f.map (eB q)) j)) (fun j out => out.length = f.length ∧ ∀ i (hi : i < f.length), i < j → ∃ q, out[i]? = some (rI q f[i].next)) (Q := fun r => ∃ out, r = ([sl false ⟨1, true⟩ out], []) ∧ Rows out (N0 f))
    (fun j out hj hI => by
      refine ⟨out.set (0 + ((j : Nat) : Int).toNat) (rI true f[j].next), ⟨by rw [List.length_set]; exact hI.1, fun i hi hij => ?_⟩, fun r h => eH42_0 (bif_pos (dT (by rw [e1]; omega)) (ck_pos (dT2 (by rw [e1]; omega)) ?_))⟩
      · rw [zN, List.getElem?_set]
        by_cases c : j = i
        · subst c
          exact ⟨true, by rw [if_pos rfl, if_pos (by rw [hI.1]; exact hj)]⟩
        · rw [if_neg c]
          exact hI.2 i hi (by omega)
      · rw [fb_at hj, V4_S]
        refine ck_pos (dT2 (by rw [hI.1]; omega)) (back_of ?_)
        rw [inc64 hj (by omega)]
        exact h)
    (fun out hI => ⟨_, eH42_0 (bif_neg (dF (by rw [e1]; omega)) rfl), out, rfl, by rw [hI.1, N0_len], fun j hj => by
      have hj' : j < f.length := by rw [← N0_len]; exact hj
      obtain ⟨q, h⟩ := hI.2 j hj' hj'
      exact ⟨q, by rw [h, N0_at f hj, nI_next hf hj']⟩⟩)
    (List.replicate f.length (sl false ⟨1, false⟩ [])) ⟨by simp, fun i _ h => absurd h (Nat.not_lt_zero _)⟩
  refine ⟨out, e42 (ck_pos (by rw [e1]; exact mk24 h12) ?_), h2⟩
  rw [e1, Int.toNat_natCast]
  exact h1
/-- Strictly rising. -/
def Up (l : List Nat) : Prop := l.Pairwise (· < ·)
theorem up_eq : ∀ {l l' : List Nat}, Up l → Up l' → (∀ v, v ∈ l ↔ v ∈ l') → l = l'
  | [], [], _, _, _ => rfl
  | [], b :: l', _, _, h => absurd ((h b).2 List.mem_cons_self) (by simp)
  | a :: l, [], _, _, h => absurd ((h a).1 List.mem_cons_self) (by simp)
  | a :: l, b :: l', h1, h2, h => by
    obtain ⟨a1, a2⟩ := List.pairwise_cons.1 h1
    obtain ⟨b1, b2⟩ := List.pairwise_cons.1 h2
    have e : a = b := by
      rcases List.mem_cons.1 ((h a).1 List.mem_cons_self) with e | e
      · exact e
      · rcases List.mem_cons.1 ((h b).2 List.mem_cons_self) with e2 | e2
        · exact e2.symm
        · have := b1 a e; have := a1 b e2; omega
    subst e
    rw [up_eq a2 b2 fun v => ?_]
    have := h v
    rw [List.mem_cons, List.mem_cons] at this
    constructor
    · intro hv
      have h3 := a1 v hv
      rcases this.1 (.inr hv) with e | e
      · omega
      · exact e
    · intro hv
      have h3 := b1 v hv
      rcases this.2 (.inr hv) with e | e
      · omega
      · exact e
/-- What is sorted, without like things side by side, rises. -/
theorem cmpV_up {xs : List Int} (h : Sd xs) : (cmpV xs).Pairwise (· < ·) := by
  have key : ∀ p, p ≤ xs.length → (cmpV (xs.take p)).Pairwise (· < ·) ∧ ∀ v ∈ cmpV (xs.take p), ∃ a, a < p ∧ v = xs.getD a 0 := by
    intro p
    induction p with
    | zero => intro _; exact ⟨List.Pairwise.nil, fun v hv => by cases hv⟩
    | succ p ih =>
      intro hp
      have hpl : p < xs.length := by omega
      obtain ⟨i1, i2⟩ := ih (by omega)
      have e : xs.take (p + 1) = xs.take p ++ [xs[p]] := by rw [List.take_add_one, List.getElem?_eq_getElem hpl]; rfl
      have eg : xs.getD p 0 = xs[p] := by rw [List.getD_eq_getElem?_getD, List.getElem?_eq_getElem hpl]; rfl
      rw [e, cmpV_snoc, cmpS]
      split
      · exact ⟨i1, fun v hv => by obtain ⟨a, h1, h2⟩ := i2 v hv; exact ⟨a, by omega, h2⟩⟩
      · rename_i hne
        refine ⟨List.pairwise_append.2 ⟨i1, List.pairwise_singleton _ _, fun u hu w hw => ?_⟩, fun v hv => ?_⟩
        · rw [List.mem_singleton.1 hw]
          obtain ⟨a, h1, h2⟩ := i2 u hu
          have hle : u ≤ xs[p] := by rw [h2, ← eg]; exact h a p h1 hpl
          refine Int.lt_iff_le_and_ne.2 ⟨hle, fun he => hne ?_⟩
          -- the last one is the greatest
          have hlast : ∀ (l : List Int), l.Pairwise (· < ·) → (∀ v ∈ l, v ≤ xs[p]) → xs[p] ∈ l → l.getLast? = some xs[p] := by
            intro l
            induction l with
            | nil => intro _ _ h; cases h
            | cons y l ihl =>
              intro hp1 hle1 hm
              obtain ⟨q1, q2⟩ := List.pairwise_cons.1 hp1
              cases l with
              | nil =>
                rw [List.mem_singleton.1 hm]; rfl
              | cons z l =>
                rw [List.getLast?_cons_cons]
                refine ihl q2 (fun v hv => hle1 v (List.mem_cons_of_mem _ hv)) ?_
                rcases List.mem_cons.1 hm with e1 | e1
                · have h5 := q1 z List.mem_cons_self
                  have h6 := hle1 z (List.mem_cons_of_mem _ List.mem_cons_self)
                  omega
                · exact e1
          exact hlast _ i1 (fun v hv => by obtain ⟨a, h1, h2⟩ := i2 v hv; rw [h2, ← eg]; exact h a p h1 hpl) (he ▸ hu)
        · rcases List.mem_append.1 hv with hv | hv
          · obtain ⟨a, h1, h2⟩ := i2 v hv; exact ⟨a, by omega, h2⟩
          · exact ⟨p, by omega, by rw [List.mem_singleton.1 hv, eg]⟩
  have := (key xs.length (Nat.le_refl _)).1
  rwa [List.take_length] at this
theorem up_of {zs : List Int} {g : List Nat} (e : nI g = zs) (h : zs.Pairwise (· < ·)) : Up g := by
  subst e
  unfold Up
  rw [List.pairwise_map] at h
  exact h.imp fun h => by omega
/-- The program's graph: the same next ones, sorted, each once. -/
theorem t41s {n : Nat} {N : List (List Nat)} {next : List TV} (hg : Gr n N) (hr : Rows next N) : ∃ out G, tw cx 41 [sl true ⟨1, true⟩ next] = some ([.st [sl false ⟨1, true⟩ out]], []) ∧ Rows out G ∧ Gr n G ∧ (∀ (i : Nat) (hi : i < N.length) (hi2 : i < G.length) (v : Nat), v ∈ G[i] ↔ v ∈ N[i]) ∧ ∀ l ∈ G, Up l := by
  obtain ⟨hN, hn, _⟩ := id hg
  have e1 : next.length = n := by rw [hr.1, hN]
  have hP : ∀ out : List TV, out.length = n → (∀ i, i < n → ∃ q g, out[i]? = some (rI q (nI g)) ∧ (∀ hi : i < N.length, g.length ≤ 12 ∧ (∀ v, v ∈ g ↔ v ∈ N[i]) ∧ Up g)) → ∃ G, Rows out G ∧ Gr n G ∧ (∀ (i : Nat) (hi : i < N.length) (hi2 : i < G.length) (v : Nat), v ∈ G[i] ↔ v ∈ N[i]) ∧ ∀ l ∈ G, Up l := fun out hl h => by
    obtain ⟨G, h1, h2, h3⟩ := pick_rows hl h
    refine ⟨G, h2, ⟨h1, hn, fun l hl => ?_⟩, fun i hi hi2 v => (h3 i hi2 hi).2.1 v, fun l hl => ?_⟩
    obtain ⟨i, hi, rfl⟩ := List.mem_iff_getElem.1 hl
    have hi' : i < N.length := by omega
    have h4 := h3 i hi hi'
    exact ⟨h4.1, fun x hx => (hg.row hi').2 x ((h4.2.1 x).1 hx)⟩
    obtain ⟨i, hi, rfl⟩ := List.mem_iff_getElem.1 hl
    exact (h3 i hi (by omega)).2.2
  obtain ⟨r, h1, out, rfl, h2⟩ := st_loop (n := n) (H := fun out j => S cx 41 (H41_0 out next j)) (fun j out => out.length = n ∧ ∀ i, i < j → ∃ q g, out[i]? = some (rI q (nI g)) ∧ (∀ hi : i < N.length, g.length ≤ 12 ∧ (∀ v, v ∈ g ↔ v ∈ N[i]) ∧ Up g)) (Q := fun r => ∃ out, r = ([.st [sl false ⟨1, true⟩ out]], []) ∧ ∃ G, Rows out G ∧ Gr n G ∧ (∀ (i : Nat) (hi : i < N.length) (hi2 : i < G.length) (v : Nat), v ∈ G[i] ↔ v ∈ N[i]) ∧ ∀ l ∈ G, Up l)
    (fun j out hj hI => by
      have hjN : j < N.length := by omega
      have hl := (hg.row hjN).1
      obtain ⟨ys, a1, a2, aS⟩ := t61 (nI N[j]) (by simpa using hl)
      have hyl : ys.length ≤ 12 := by rw [a2.1]; simpa using hl
      obtain ⟨zs, b1, b2, b3, b4⟩ := t62 ys (by omega)
      have hz : ∀ v, v ∈ zs ↔ v ∈ nI N[j] := fun v => (b3 v).trans (a2.2 v)
      have hzn : nI (zs.map Int.toNat) = zs := nI_of fun v hv => by
        obtain ⟨a, _, rfl⟩ := List.mem_map.1 ((hz v).1 hv)
        omega
      refine ⟨out.set (0 + ((j : Nat) : Int).toNat) (rI true zs), ⟨by rw [List.length_set]; exact hI.1, fun i hij => ?_⟩, fun r h => eH41_0 (bif_pos (dT (by rw [e1]; omega)) (ck_pos (dT2 (by rw [e1]; omega)) ?_))⟩
      · rw [zN, List.getElem?_set]
        by_cases c : j = i
        · subst c
          refine ⟨true, zs.map Int.toNat, by rw [if_pos rfl, if_pos (by rw [hI.1]; exact hj), hzn], fun hi => ⟨by rw [List.length_map]; omega, fun v => ?_, up_of hzn (b4 ▸ cmpV_up aS)⟩⟩
          rw [← mem_nI, hzn, hz, mem_nI]
        · rw [if_neg c]
          exact hI.2 i (by omega)
      · obtain ⟨q, hq⟩ := hr.at_ hjN
        rw [hq, S_slR, C60_S (t60 (nI N[j]) (by show _ ≤ 1073741824; simp; omega)), C61_S a1]
        have fin : S cx 41 (NH41_0_s0 out next j (ys.map i64)) = some r := by
          unfold NH41_0_s0
          rw [C62_S b1]
          refine ck_pos (dT2 (by rw [hI.1]; omega)) (back_of ?_)
          rw [inc64 hj (by omega)]
          exact h
        exact S_amb2 fin fin)
    (fun out hI => ⟨_, eH41_0 (bif_neg (dF (by rw [e1]; omega)) rfl), out, rfl, hP out hI.1 hI.2⟩)
    (List.replicate n (sl false ⟨1, false⟩ [])) ⟨by simp, fun i h => absurd h (Nat.not_lt_zero _)⟩
  obtain ⟨G, h3⟩ := h2
  refine ⟨out, G, e41 (ck_pos (by rw [e1]; exact mk24 hn) ?_), h3⟩
  rw [e1, Int.toNat_natCast]
  exact h1
theorem t41 {n : Nat} {N : List (List Nat)} {next : List TV} (hg : Gr n N) (hr : Rows next N) : ∃ out G, tw cx 41 [sl true ⟨1, true⟩ next] = some ([.st [sl false ⟨1, true⟩ out]], []) ∧ Rows out G ∧ Gr n G ∧ ∀ (i : Nat) (hi : i < N.length) (hi2 : i < G.length) (v : Nat), v ∈ G[i] ↔ v ∈ N[i] := by
  obtain ⟨out, G, a, b, c, d, _⟩ := t41s hg hr
  exact ⟨out, G, a, b, c, d⟩
/-- What is so, as numbers. -/
theorem t45 (bs : List Bool) (hl : bs.length ≤ 1000) : ∃ ts : List Nat, tw cx 45 [rT true bs] = some ([rI false (nI ts)], []) ∧ ts.length ≤ bs.length ∧ ∀ k, k ∈ ts ↔ bs[k]? = some true := by
  obtain ⟨r, h1, ts, rfl, h2⟩ := st_loop (n := bs.length) (H := fun (ts : List Nat) j => S cx 45 (H45_0 ((nI ts).map i64) (bs.map fun b => tb b) j)) (fun j ts => ts.length ≤ j ∧ ∀ k, k ∈ ts ↔ k < j ∧ bs[k]? = some true) (Q := fun r => ∃ ts : List Nat, r = ([rI false (nI ts)], []) ∧ ts.length ≤ bs.length ∧ ∀ k, k ∈ ts ↔ bs[k]? = some true)
    (fun j ts hj hI => by
      have hinc : w64 ((j : Int) + 1) = ((j + 1 : Nat) : Int) := inc64 hj (by omega)
      cases hv : bs[j] with
      | true =>
        have hv' : bs[j]? = some true := by rw [List.getElem?_eq_getElem hj, hv]
        refine ⟨ts ++ [j], ⟨by simp; omega, fun k => ?_⟩, fun r h => eH45_0 (bif_pos (dT (by rw [len_b]; omega)) (ck_pos (dT2 (by rw [len_b]; omega)) ?_))⟩
        · rw [List.mem_append, List.mem_singleton, hI.2 k]
          constructor
          · rintro (⟨h1, h2⟩ | rfl)
            · exact ⟨by omega, h2⟩
            · exact ⟨by omega, hv'⟩
          · rintro ⟨h1, h2⟩
            by_cases c : k = j
            · exact .inr c
            · exact .inl ⟨by omega, h2⟩
        · rw [b_at hj, S_bool, hv]
          refine bif_pos rfl (ck_pos (lim8 (by rw [len_n]; simp; omega)) (back_of ?_))
          rw [hinc, app_n]; exact h
      | false =>
        refine ⟨ts, ⟨by omega, fun k => ?_⟩, fun r h => eH45_0 (bif_pos (dT (by rw [len_b]; omega)) (ck_pos (dT2 (by rw [len_b]; omega)) ?_))⟩
        · rw [hI.2 k]
          refine and_congr_left fun h2 => ⟨fun h => by omega, fun h => ?_⟩
          by_cases c : k = j
          · subst c
            rw [List.getElem?_eq_getElem hj, hv] at h2
            cases h2
          · omega
        · rw [b_at hj, S_bool, hv]
          refine bif_neg rfl (back_of ?_)
          rw [hinc]; exact h)
    (fun ts hI => ⟨_, eH45_0 (bif_neg (dF (by rw [len_b]; omega)) rfl), ts, rfl, hI.1, fun k => (hI.2 k).trans ⟨And.right, fun h => ⟨true_lt h, h⟩⟩⟩)
    [] ⟨by simp, fun k => by simp⟩
  exact ⟨ts, e45 h1, h2⟩
end Go.Tree.Q

/- The reference's graph and what is come to in a flow. -/
namespace Go.Tree.Q
open Go.Proofs Go.Tree.Cg
set_option linter.unusedVariables false
set_option linter.unusedSimpArgs false
theorem fold_mem : ∀ (xs acc : List Int) (v : Int), v ∈ xs.foldl putV acc ↔ v ∈ acc ∨ v ∈ xs
  | [], acc, v => by simp
  | x :: xs, acc, v => by
    rw [List.foldl_cons, fold_mem xs (putV acc x) v, putV_mem, List.mem_cons, or_assoc]
theorem fold_len : ∀ (xs acc : List Int), (xs.foldl putV acc).length ≤ acc.length + xs.length
  | [], acc => by simp
  | x :: xs, acc => by
    have h1 := fold_len xs (putV acc x)
    have h2 := (putV_len acc x).1
    rw [List.foldl_cons, List.length_cons]
    omega
theorem fold_nd : ∀ (xs acc : List Int), xs.Nodup → (∀ x ∈ xs, x ∉ acc) → (xs.foldl putV acc).length = acc.length + xs.length
  | [], acc, _, _ => by simp
  | x :: xs, acc, hd, h => by
    obtain ⟨h1, h2⟩ := List.nodup_cons.1 hd
    have h3 := fold_nd xs (putV acc x) h2 (fun y hy hm => by
      rcases (putV_mem acc x y).1 hm with hm | rfl
      · exact h y (by simp [hy]) hm
      · exact h1 hy)
    have h4 := (putV_len acc x).2 (h x (by simp))
    rw [List.foldl_cons, List.length_cons, h3, h4]
    omega
abbrev nextV (b : Bk) : List Int := b.next.foldl putV []
theorem putV_up : ∀ {l : List Int} {n : Int}, l.Pairwise (· < ·) → (putV l n).Pairwise (· < ·)
  | [], n, _ => List.pairwise_singleton _ _
  | x :: l, n, h => by
    obtain ⟨h1, h2⟩ := List.pairwise_cons.1 h
    unfold putV
    split
    · refine List.pairwise_cons.2 ⟨fun v hv => ?_, putV_up h2⟩
      rcases (putV_mem l n v).1 hv with e | e
      · exact h1 v e
      · rw [e]; assumption
    · split
      · exact h
      · refine List.pairwise_cons.2 ⟨fun v hv => ?_, h⟩
        rcases List.mem_cons.1 hv with e | e
        · rw [e]; omega
        · have := h1 v e; omega
theorem fold_up : ∀ (xs acc : List Int), acc.Pairwise (· < ·) → (xs.foldl putV acc).Pairwise (· < ·)
  | [], acc, h => h
  | x :: xs, acc, h => by rw [List.foldl_cons]; exact fold_up xs _ (putV_up h)
/-- The reference's graph: the same next ones, put to their places. -/
theorem t15s {f : List Bk} (hf : flowP f) (h12 : f.length ≤ 12) : ∃ out G, tw cx 15 [rB true false f] = some ([.st [sl false ⟨1, true⟩ out]], []) ∧ Rows out G ∧ Gr f.length G ∧ (∀ (i : Nat) (hi : i < (N0 f).length) (hi2 : i < G.length) (v : Nat), v ∈ G[i] ↔ v ∈ (N0 f)[i]) ∧ ∀ l ∈ G, Up l := by
  have e1 : (f.map (eB false)).length = f.length := List.length_map _
  have inner : ∀ (j : Nat) (hj : j < f.length) (g : List TV), g.length = j → ∀ d i (acc : List Int), f[j].next.length - i = d → i ≤ f[j].next.length → acc.length ≤ i → ∀ r, S cx 15 (H15_0 (g ++ [rI false ((f[j].next.drop i).foldl putV acc)]) (f.map (eB false)) ((j + 1 : Nat) : Int)) = some r → S cx 15 (H15_1 g (acc.map i64) (f.map (eB false)) j (f[j].next.map i64) (i : Int)) = some r := by
    intro j hj g hgl d
    have h6 := goP_len (hf.1 _ (List.getElem_mem hj)).2.2.2
    induction d with
    | zero =>
      intro i acc hd hi ha r h
      obtain rfl : i = f[j].next.length := by omega
      refine eH15_1 (bif_neg (dF (by rw [len_i]; omega)) (ck_pos ?_ (back_of ?_)))
      · refine decide_eq_true ?_
        have : lim = 140737488355328 := rfl
        simp; omega
      · rw [inc64 hj (by omega)]
        rw [List.drop_length] at h
        exact h
    | succ d ih =>
      intro i acc hd hi ha r h
      have hil : i < f[j].next.length := by omega
      refine eH15_1 (bif_pos (dT (by rw [len_i]; omega)) (ck_pos (dT2 (by rw [len_i]; omega)) ?_))
      rw [i64_at hil, S_int, C32_S (t32 acc _ (by omega))]
      refine back_of ?_
      rw [inc64 (n := f[j].next.length) hil (by omega)]
      have h2 := (putV_len acc f[j].next[i]).1
      refine ih (i + 1) (putV acc f[j].next[i]) (by omega) (by omega) (by omega) r ?_
      rw [List.drop_eq_getElem_cons hil, List.foldl_cons] at h
      exact h
  have outer : ∀ d j, f.length - j = d → j ≤ f.length → S cx 15 (H15_0 ((f.take j).map fun b => rI false (nextV b)) (f.map (eB false)) (j : Int)) = some ([.st [sl false ⟨1, true⟩ (f.map fun b => rI false (nextV b))]], []) := by
    intro d
    induction d with
    | zero =>
      intro j hd hj
      obtain rfl : j = f.length := by omega
      refine eH15_0 (bif_neg (dF (by rw [e1]; omega)) ?_)
      rw [List.take_length]
      rfl
    | succ d ih =>
      intro j hd hj
      have hjl : j < f.length := by omega
      refine eH15_0 (bif_pos (dT (by rw [e1]; omega)) (ck_pos (dT2 (by rw [e1]; omega)) ?_))
      rw [fb_at hjl, V4_S]
      have := inner j hjl ((f.take j).map fun b => rI false (nextV b)) (by simp; omega) _ 0 [] rfl (Nat.zero_le _) (by simp) _ (by
        rw [List.drop_zero]
        have e2 : ((f.take j).map fun b => rI false (nextV b)) ++ [rI false (f[j].next.foldl putV [])] = (f.take (j + 1)).map fun b => rI false (nextV b) := by
          rw [List.take_add_one, List.getElem?_eq_getElem hjl, List.map_append]
          rfl
        rw [e2]
        exact ih (j + 1) (by omega) (by omega))
      exact this
  have h0 := outer f.length 0 rfl (Nat.zero_le _)
  have hrow : ∀ (i : Nat) (hi : i < f.length), nI ((nextV f[i]).map Int.toNat) = nextV f[i] := fun i hi => nI_of fun v hv => by
    have := (fold_mem _ _ v).1 hv
    exact ((hf.1 _ (List.getElem_mem hi)).2.2.1 v (by simpa using this)).1
  refine ⟨f.map fun b => rI false (nextV b), f.map fun b => (nextV b).map Int.toNat, e15 h0, ⟨by simp, fun j hj => ⟨false, ?_⟩⟩, ⟨by simp, h12, fun l hl => ?_⟩, fun i hi hi2 v => ?_, fun l hl => ?_⟩
  · have hj' : j < f.length := by simpa using hj
    rw [List.getElem_map, List.getElem?_map, List.getElem?_eq_getElem hj', Option.map_some, hrow j hj']
  · obtain ⟨b, hb, rfl⟩ := List.mem_map.1 hl
    obtain ⟨_, _, h3, h4⟩ := hf.1 b hb
    have := fold_len b.next []
    have := goP_len h4
    refine ⟨by
      rw [List.length_map]
      show (b.next.foldl putV []).length ≤ 12
      have h5 := fold_len b.next []
      simp only [List.length_nil] at h5
      omega, fun x hx => ?_⟩
    obtain ⟨v, hv, rfl⟩ := List.mem_map.1 hx
    have := h3 v (by simpa using (fold_mem _ _ v).1 hv)
    omega
  · have hi' : i < f.length := by rw [← N0_len]; exact hi
    have e := mem_nI (a := v) (ts := f[i].next.map Int.toNat)
    rw [nI_next hf hi'] at e
    rw [List.getElem_map, N0_at f hi, ← e, ← mem_nI, hrow i hi', fold_mem]
    simp only [List.not_mem_nil, false_or]
  · obtain ⟨b, hb, rfl⟩ := List.mem_map.1 hl
    obtain ⟨i, hi, rfl⟩ := List.mem_iff_getElem.1 hb
    exact up_of (hrow i hi) (fold_up _ _ List.Pairwise.nil)
theorem t15 {f : List Bk} (hf : flowP f) (h12 : f.length ≤ 12) : ∃ out G, tw cx 15 [rB true false f] = some ([.st [sl false ⟨1, true⟩ out]], []) ∧ Rows out G ∧ Gr f.length G ∧ ∀ (i : Nat) (hi : i < (N0 f).length) (hi2 : i < G.length) (v : Nat), v ∈ G[i] ↔ v ∈ (N0 f)[i] := by
  obtain ⟨out, G, a, b, c, d, _⟩ := t15s hf h12
  exact ⟨out, G, a, b, c, d⟩
/-- As many as are come to. -/
theorem t29 {f : List Bk} (hf : flowP f) (h12 : f.length ≤ 12) : ∃ (xs : List Int) (ts : List Nat), tw cx 29 [rB true false f] = some ([rI false xs], []) ∧ xs.length = ts.length ∧ ts.Nodup ∧ ∀ k, k ∈ ts ↔ Star (Ed (N0 f) []) 0 k := by
  have hg := gr_flow hf h12
  have hN : (N0 f).length = f.length := N0_len f
  have h0 : 0 < f.length := hf.2.1
  have e1 : (f.map (eB false)).length = f.length := List.length_map _
  have fin_ : ∀ (ts : List Nat), ts.length ≤ 12 → S cx 29 (H29_2 ((nI ts).map i64) [] (ts.length : Int) 0) = some ([rI false ((nI ts).foldl putV [])], []) := fun ts hl => by
    have key : ∀ d (i : Nat) (acc : List Int), ts.length - i = d → i ≤ ts.length → acc.length ≤ i → S cx 29 (H29_2 ((nI ts).map i64) (acc.map i64) (ts.length : Int) (i : Int)) = some ([rI false (((nI ts).drop i).foldl putV acc)], []) := by
      intro d
      induction d with
      | zero =>
        intro i acc hd hi ha
        obtain rfl : i = ts.length := by omega
        refine eH29_2 (bif_neg (dF (by omega)) ?_)
        rw [List.drop_of_length_le (by simp)]
        rfl
      | succ d ih =>
        intro i acc hd hi ha
        have hil : i < ts.length := by omega
        refine eH29_2 (bif_pos (dT (by omega)) (ck_pos (dT2 (by rw [len_n]; omega)) ?_))
        rw [n_at hil, S_int, C32_S (t32 acc _ (by omega))]
        refine back_of ?_
        have h2 := (putV_len acc ((ts[i] : Nat) : Int)).1
        rw [inc64 (n := ts.length) hil (by omega), ih (i + 1) _ (by omega) (by omega) (by omega)]
        rw [List.drop_eq_getElem_cons (show i < (nI ts).length by simpa using hil), List.foldl_cons]
        simp
    have := key ts.length 0 [] rfl (Nat.zero_le _) (by simp)
    simpa using this
  obtain ⟨ts, h1, h2, h3⟩ := grow hg h0 [] (H0 := fun ts i => S cx 29 (H29_0 (f.map (eB false)) ((nI ts).map i64) i)) (H1 := fun ts i j => S cx 29 (H29_1 (f.map (eB false)) ((nI ts).map i64) i ((nI ((N0 f).getD (ts.getD i 0) [])).map i64) j)) (fin := fun ts => S cx 29 (H29_2 ((nI ts).map i64) [] (ts.length : Int) 0)) (r := fun ts => ([rI false ((nI ts).foldl putV [])], []))
    (fun ts i hi hx hl r h => by
      refine eH29_0 (bif_pos (dT (by rw [len_n]; omega)) (ck_pos (dT2 (by rw [len_n]; omega)) ?_))
      rw [n_at hi, S_int]
      refine ck_pos (dT2 (by rw [e1]; omega)) ?_
      rw [fb_at hx, V4_S]
      have e1 : ts.getD i 0 = ts[i] := by rw [List.getD_eq_getElem?_getD, List.getElem?_eq_getElem hi]; rfl
      have e2 : (N0 f).getD ts[i] [] = (N0 f)[ts[i]]'(by omega) := by rw [List.getD_eq_getElem?_getD, List.getElem?_eq_getElem]; rfl
      rw [e1, e2, N0_at f (by omega), nI_next hf hx] at h
      exact h)
    (fun ts hl r h => eH29_0 (bif_neg (dF (by rw [len_n]; omega)) (by rw [len_n]; exact h)))
    (fun ts i j hi hx hj hl r h => by
      have e1 : ts.getD i 0 = ts[i] := by rw [List.getD_eq_getElem?_getD, List.getElem?_eq_getElem hi]; rfl
      have e2 : (N0 f).getD ts[i] [] = (N0 f)[ts[i]] := by rw [List.getD_eq_getElem?_getD, List.getElem?_eq_getElem hx]; rfl
      have e3 : (ts ++ [(N0 f)[ts[i]][j]]).getD i 0 = ts[i] := by rw [List.getD_eq_getElem?_getD, List.getElem?_append_left hi, List.getElem?_eq_getElem hi]; rfl
      have hl12 := (hg.row hx).1
      have hinc : w64 ((j : Int) + 1) = ((j + 1 : Nat) : Int) := inc64 (n := (N0 f)[ts[i]].length) hj (by omega)
      rw [e1, e2, e3, e2] at h
      rw [e1, e2]
      refine eH29_1 (bif_pos (dT (by rw [len_n]; omega)) (ck_pos (dT2 (by rw [len_n]; omega)) ?_))
      rw [n_at hj, S_int, C35_S (has ts _ (by omega))]
      by_cases c2 : (N0 f)[ts[i]][j] ∈ ts
      · rw [if_pos (.inr c2)] at h
        refine bif_neg (by rw [dT c2]; rfl) (back_of ?_)
        rw [hinc]; exact h
      · rw [if_neg (by simp [c2])] at h
        refine bif_pos (by rw [dF c2]; rfl) (ck_pos (lim8 (by rw [len_n]; simp; omega)) (back_of ?_))
        rw [hinc, app_n]; exact h)
    (fun ts i hi hx hl r h => by
      have e1 : ts.getD i 0 = ts[i] := by rw [List.getD_eq_getElem?_getD, List.getElem?_eq_getElem hi]; rfl
      have e2 : (N0 f).getD ts[i] [] = (N0 f)[ts[i]] := by rw [List.getD_eq_getElem?_getD, List.getElem?_eq_getElem hx]; rfl
      rw [e1, e2]
      refine eH29_1 (bif_neg (dF (by rw [len_n]; omega)) (back_of ?_))
      rw [inc64 (n := ts.length) hi (by omega)]
      exact h)
    (fun ts hl _ _ => fin_ ts (by omega))
  refine ⟨_, ts, e29 h1, ?_, h2, h3⟩
  rw [fold_nd _ _ (by
    rw [List.nodup_iff_pairwise_ne, List.pairwise_map]
    exact (List.nodup_iff_pairwise_ne.1 h2).imp fun h e => h (by omega)) (fun x _ h => by cases h)]
  simp
end Go.Tree.Q

/- Dominators: the program's and the reference's. -/
namespace Go.Tree.Q
open Go.Proofs Go.Tree.Cg
set_option linter.unusedVariables false
set_option linter.unusedSimpArgs false
/-- One lies on each way to another. -/
def Dm (N : List (List Nat)) (b k : Nat) : Prop := Star (Ed N []) 0 k ∧ Star (Ed N []) 0 b ∧ ¬ (0 ∉ [k] ∧ Star (Ed N [k]) 0 b)
theorem bb_at {DB : List (List Bool)} {b : Nat} (h : b < DB.length) : (DB.map fun r => rT false r).getD (0 + ((b : Nat) : Int).toNat) (.dead ()) = rT false DB[b] := getD_at (e := fun r => rT false r) (List.getElem?_eq_getElem h)
theorem set_bb {DB : List (List Bool)} {b : Nat} {r : List Bool} : (DB.map fun r => rT false r).set (0 + ((b : Nat) : Int).toNat) (rT false r) = (DB.set b r).map fun r => rT false r := by
  rw [zN, List.map_set]
theorem len_bb {DB : List (List Bool)} : (DB.map fun r => rT false r).length = DB.length := List.length_map _
theorem deep_rows (DB : List (List Bool)) : deepL (DB.map fun r => rT false r) = true := by
  induction DB with
  | nil => rfl
  | cons r DB ih => rw [List.map_cons, deepL, ih]; rfl
theorem deep_bb (DB : List (List Bool)) : deepL [sl false ⟨1, true⟩ (DB.map fun r => rT false r)] = true := by
  rw [deepL, deep, deep_rows]; rfl
theorem mk1 {n : Nat} (h : n ≤ 12) : (decide ((0 : Int) ≤ (n : Int)) && decide ((n : Int) ≤ (n : Int)) && decide ((n : Int) * 1 < (lim : Int)) && decide ((n : Int) < 9223372036854775807) && true && true) = true := by
  have : (lim : Int) = 140737488355328 := rfl
  simp
  omega
theorem t44 {n : Nat} {N : List (List Nat)} {next : List TV} (hg : Gr n N) (h0 : 0 < n) (hr : Rows next N) : ∃ DB : List (List Bool), tw cx 44 [sl true ⟨1, true⟩ next] = some ([sl false ⟨1, true⟩ (DB.map fun r => rT false r)], []) ∧ DB.length = n ∧ ∀ (b : Nat) (hb : b < DB.length), DB[b].length = n ∧ ∀ k, DB[b][k]? = some true ↔ Dm N b k := by
  obtain ⟨hN, hn, _⟩ := id hg
  have e1 : next.length = n := by rw [hr.1, hN]
  obtain ⟨aw, a1, a2, a3⟩ := t57 hg hr [] (by simp) 0 h0
  have a3' : ∀ k, aw[k]? = some true ↔ Star (Ed N []) 0 k := fun k => (a3 k).trans ⟨And.right, fun h => ⟨by simp, h⟩⟩
  have e2 : (aw.map fun b => tb b).length = n := by rw [len_b, a2]
  -- one column
  have col : ∀ (j : Nat) (hj : j < n) (hja : aw[j]? = some true) (ls : List Bool) (hl : ls.length = n) (hls : ∀ b, ls[b]? = some true ↔ (0 ∉ [j] ∧ Star (Ed N [j]) 0 b)) (DB0 : List (List Bool)) (h0l : DB0.length = n) (h0r : ∀ (b : Nat) (hb : b < DB0.length), DB0[b].length = n ∧ ∀ k, DB0[b][k]? = some true ↔ k < j ∧ Dm N b k),
      ∀ d i (DB : List (List Bool)), n - i = d → i ≤ n → DB.length = n → (∀ (b : Nat) (hb : b < DB.length), DB[b].length = n ∧ ∀ k, DB[b][k]? = some true ↔ (k < j ∨ (k = j ∧ b < i)) ∧ Dm N b k) →
        ∃ DB' : List (List Bool), DB'.length = n ∧ (∀ (b : Nat) (hb : b < DB'.length), DB'[b].length = n ∧ ∀ k, DB'[b][k]? = some true ↔ k < j + 1 ∧ Dm N b k) ∧ ∀ r, S cx 44 (H44_2 next (DB'.map fun r => rT false r) (aw.map fun b => tb b) ((j + 1 : Nat) : Int)) = some r → S cx 44 (H44_3 next (DB.map fun r => rT false r) (aw.map fun b => tb b) j (ls.map fun b => tb b) j (n : Int) (i : Int)) = some r := by
    intro j hj hja ls hl hls DB0 h0l h0r d
    induction d with
    | zero =>
      intro i DB hd hi hD hDr
      obtain rfl : i = n := by omega
      refine ⟨DB, hD, fun b hb => ⟨(hDr b hb).1, fun k => ((hDr b hb).2 k).trans (and_congr_left fun _ => by omega)⟩, fun r h => eH44_3 (bif_neg (dF (by omega)) (back_of ?_))⟩
      rw [inc64 hj (by omega)]; exact h
    | succ d ih =>
      intro i DB hd hi hD hDr
      have hin : i < n := by omega
      have hiD : i < DB.length := by omega
      have hia : i < aw.length := by omega
      have hil : i < ls.length := by omega
      have hinc : w64 ((i : Int) + 1) = ((i + 1 : Nat) : Int) := inc64 hin (by omega)
      have hrow := hDr i hiD
      -- what is written
      have step : ∀ v : Bool, (v = true ↔ Dm N i j) → ∃ DB' : List (List Bool), DB'.length = n ∧ (∀ (b : Nat) (hb : b < DB'.length), DB'[b].length = n ∧ ∀ k, DB'[b][k]? = some true ↔ k < j + 1 ∧ Dm N b k) ∧ ∀ r, S cx 44 (H44_2 next (DB'.map fun r => rT false r) (aw.map fun b => tb b) ((j + 1 : Nat) : Int)) = some r → S cx 44 (H44_3 next ((DB.set i (DB[i].set j v)).map fun r => rT false r) (aw.map fun b => tb b) j (ls.map fun b => tb b) j (n : Int) ((i + 1 : Nat) : Int)) = some r := fun v hv => by
        refine ih (i + 1) (DB.set i (DB[i].set j v)) (by omega) (by omega) (by rw [List.length_set]; exact hD) (fun b hb => ?_)
        have hb' : b < DB.length := by simpa using hb
        by_cases c : b = i
        · subst c
          rw [List.getElem_set_self]
          refine ⟨by rw [List.length_set]; exact hrow.1, fun k => ?_⟩
          rw [List.getElem?_set]
          by_cases ck : j = k
          · subst ck
            rw [if_pos rfl, if_pos (by omega)]
            simp only [Option.some.injEq]
            rw [hv]
            exact ⟨fun h => ⟨.inr ⟨by trivial, by omega⟩, h⟩, And.right⟩
          · rw [if_neg ck, hrow.2 k]
            exact and_congr_left fun _ => by omega
        · rw [List.getElem_set_ne (fun h => c h.symm)]
          refine ⟨(hDr b hb').1, fun k => ((hDr b hb').2 k).trans (and_congr_left fun _ => by omega)⟩
      cases hav : aw[i] with
      | true =>
        have hav' : aw[i]? = some true := by rw [List.getElem?_eq_getElem hia, hav]
        obtain ⟨DB', h1, h2, h3⟩ := step (!ls[i]) (by
          have e : (!ls[i]) = true ↔ ¬ ls[i]? = some true := by rw [List.getElem?_eq_getElem hil]; cases ls[i] <;> simp
          rw [e, hls i]
          exact ⟨fun h => ⟨(a3' j).1 hja, (a3' i).1 hav', h⟩, fun h => h.2.2⟩)
        refine ⟨DB', h1, h2, fun r h => ?_⟩
        have h4 := h3 r h
        refine eH44_3 (bif_pos (dT (by omega)) (ck_pos (dT2 (by rw [len_bb]; omega)) (ck_pos (dT2 (by rw [len_b]; omega)) ?_)))
        rw [b_at hia, S_bool, hav]
        refine bif_pos rfl (ck_pos (dT2 (by rw [len_b]; omega)) ?_)
        rw [b_at hil, S_bool, bb_at hiD, S_slO, S_slB]
        have fin : S cx 44 (NH44_3_s0 next (DB.map fun r => rT false r) (aw.map fun b => tb b) j (ls.map fun b => tb b) j (n : Int) i ls[i] (DB[i].map fun b => tb b)) = some r := by
          unfold NH44_3_s0
          refine ck_pos (dT2 (by rw [len_b, hrow.1]; omega)) ?_
          rw [bb_at hiD, S_slB]
          refine back_of ?_
          rw [hinc, set_b, set_bb]
          exact h4
        exact fin
      | false =>
        obtain ⟨DB', h1, h2, h3⟩ := step false ⟨fun h => (by cases h), fun h => by
          have := (a3' i).2 h.2.1
          rw [List.getElem?_eq_getElem hia, hav] at this
          cases this⟩
        refine ⟨DB', h1, h2, fun r h => ?_⟩
        have h4 := h3 r h
        refine eH44_3 (bif_pos (dT (by omega)) (ck_pos (dT2 (by rw [len_bb]; omega)) (ck_pos (dT2 (by rw [len_b]; omega)) ?_)))
        rw [b_at hia, S_bool, hav]
        refine bif_neg rfl ?_
        rw [bb_at hiD, S_slO, S_slB]
        have fin : S cx 44 (NH44_3_s1 next (DB.map fun r => rT false r) (aw.map fun b => tb b) j (ls.map fun b => tb b) j (n : Int) i (DB[i].map fun b => tb b)) = some r := by
          unfold NH44_3_s1
          refine ck_pos (dT2 (by rw [len_b, hrow.1]; omega)) ?_
          rw [bb_at hiD, S_slB]
          refine back_of ?_
          rw [hinc, set_b, set_bb]
          exact h4
        exact fin
  -- all columns
  have cols : ∀ d j (DB : List (List Bool)), n - j = d → j ≤ n → DB.length = n → (∀ (b : Nat) (hb : b < DB.length), DB[b].length = n ∧ ∀ k, DB[b][k]? = some true ↔ k < j ∧ Dm N b k) →
      ∃ DB' : List (List Bool), S cx 44 (H44_2 next (DB.map fun r => rT false r) (aw.map fun b => tb b) (j : Int)) = some ([sl false ⟨1, true⟩ (DB'.map fun r => rT false r)], []) ∧ DB'.length = n ∧ ∀ (b : Nat) (hb : b < DB'.length), DB'[b].length = n ∧ ∀ k, DB'[b][k]? = some true ↔ Dm N b k := by
    intro d
    induction d with
    | zero =>
      intro j DB hd hj hD hDr
      obtain rfl : j = n := by omega
      refine ⟨DB, eH44_2 (bif_neg (dF (by rw [e2]; omega)) rfl), hD, fun b hb => ⟨(hDr b hb).1, fun k => ((hDr b hb).2 k).trans ⟨And.right, fun h => ⟨?_, h⟩⟩⟩⟩
      exact hg.star h0 h.1
    | succ d ih =>
      intro j DB hd hj hD hDr
      have hjn : j < n := by omega
      have hja : j < aw.length := by omega
      cases hav : aw[j] with
      | true =>
        have hav' : aw[j]? = some true := by rw [List.getElem?_eq_getElem hja, hav]
        obtain ⟨ls, b1, b2, b3⟩ := t57 hg hr [j] (by simp) 0 h0
        obtain ⟨DB1, c1, c2, c3⟩ := col j hjn hav' ls b2 b3 DB hD hDr n 0 DB rfl (Nat.zero_le _) hD (fun b hb => ⟨(hDr b hb).1, fun k => ((hDr b hb).2 k).trans (and_congr_left fun _ => by omega)⟩)
        obtain ⟨DB2, d1, d2⟩ := ih (j + 1) DB1 (by omega) (by omega) c1 c2
        refine ⟨DB2, eH44_2 (bif_pos (dT (by rw [e2]; omega)) (ck_pos (dT2 (by rw [e2]; omega)) ?_)), d2⟩
        rw [b_at hja, S_bool, hav]
        refine bif_neg rfl ?_
        have b1' : tw cx 57 [sl true ⟨1, true⟩ next, i64 0, sl true ⟨1, false⟩ [i64 (j : Int)]] = some ([sl false ⟨1, false⟩ (ls.map fun b => tb b)], []) := b1
        rw [C57_S b1', len_bb, hD]
        exact c3 _ d1
      | false =>
        have hno : ∀ b, ¬ Dm N b j := fun b h => by
          have := (a3' j).2 h.1
          rw [List.getElem?_eq_getElem hja, hav] at this
          cases this
        obtain ⟨DB2, d1, d2⟩ := ih (j + 1) DB (by omega) (by omega) hD (fun b hb => ⟨(hDr b hb).1, fun k => ((hDr b hb).2 k).trans ⟨fun h => ⟨by omega, h.2⟩, fun h => ⟨by
          by_cases c : k = j
          · subst c; exact absurd h.2 (hno b)
          · omega, h.2⟩⟩⟩)
        refine ⟨DB2, eH44_2 (bif_pos (dT (by rw [e2]; omega)) (ck_pos (dT2 (by rw [e2]; omega)) ?_)), d2⟩
        rw [b_at hja, S_bool, hav]
        refine bif_pos rfl (back_of ?_)
        rw [inc64 hjn (by omega)]
        exact d1
  -- rows made
  have hrep : ∀ m, (List.replicate m (tb false) : List TV) = (List.replicate m false).map fun b => tb b := fun m => by simp
  have made : ∀ d i (DB : List (List Bool)), n - i = d → i ≤ n → DB.length = n → (∀ (b : Nat) (hb : b < DB.length), b < i → DB[b] = List.replicate n false) →
      ∃ DB' : List (List Bool), S cx 44 (H44_1 next (DB.map fun r => rT false r) (aw.map fun b => tb b) (i : Int)) = some ([sl false ⟨1, true⟩ (DB'.map fun r => rT false r)], []) ∧ DB'.length = n ∧ ∀ (b : Nat) (hb : b < DB'.length), DB'[b].length = n ∧ ∀ k, DB'[b][k]? = some true ↔ Dm N b k := by
    intro d
    induction d with
    | zero =>
      intro i DB hd hi hD hDr
      obtain rfl : i = n := by omega
      obtain ⟨DB', h1, h2⟩ := cols i 0 DB rfl (Nat.zero_le _) hD (fun b hb => by
        rw [hDr b hb (by omega)]
        refine ⟨by simp, fun k => ⟨fun h => ?_, fun h => absurd h.1 (Nat.not_lt_zero _)⟩⟩
        rw [List.getElem?_replicate] at h
        split at h <;> cases h)
      exact ⟨DB', eH44_1 (bif_neg (dF (by simp; omega)) h1), h2⟩
    | succ d ih =>
      intro i DB hd hi hD hDr
      have hin : i < n := by omega
      obtain ⟨DB', h1, h2⟩ := ih (i + 1) (DB.set i (List.replicate n false)) (by omega) (by omega) (by rw [List.length_set]; exact hD) (fun b hb hbi => by
        by_cases c : b = i
        · subst c; rw [List.getElem_set_self]
        · rw [List.getElem_set_ne (fun h => c h.symm)]
          exact hDr b (by simpa using hb) (by omega))
      refine ⟨DB', eH44_1 (bif_pos (dT (by simp; omega)) (ck_pos (by rw [e1]; exact mk1 hn) (ck_pos (dT2 (by rw [len_bb]; omega)) (back_of ?_)))), h2⟩
      rw [e1, Int.toNat_natCast n, inc64 hin (by omega), hrep, set_bb]
      exact h1
  have hr0 : (List.replicate n (sl false ⟨1, false⟩ []) : List TV) = (List.replicate n ([] : List Bool)).map fun r => rT false r := by simp
  obtain ⟨DB, h1, h2⟩ := made n 0 (List.replicate n []) rfl (Nat.zero_le _) (by simp) (fun b hb h => absurd h (Nat.not_lt_zero _))
  have a1' : tw cx 57 [sl true ⟨1, true⟩ next, i64 0, sl true ⟨1, false⟩ []] = some ([sl false ⟨1, false⟩ (aw.map fun b => tb b)], []) := a1
  have fin : S cx 44 (G44_0 next (aw.map fun b => tb b)) = some ([sl false ⟨1, true⟩ (DB.map fun r => rT false r)], []) := by
    refine eG44_0 ?_
    unfold NG44_0
    rw [e1, Int.toNat_natCast, hr0]
    exact h1
  refine ⟨DB, e44 (S_amb2 (ck_pos (by rw [e1]; exact mk24 hn) ?_) ?_), h2⟩
  · rw [C57_S a1']; exact fin
  · rw [C57_S a1']; exact ck_pos (by rw [e1]; exact mk24 hn) fin
end Go.Tree.Q

/- Dominators: the reference's. -/
namespace Go.Tree.Q
open Go.Proofs Go.Tree.Cg
set_option linter.unusedVariables false
set_option linter.unusedSimpArgs false
theorem rr_at {RB : List (List Int)} {b : Nat} (h : b < RB.length) : (RB.map fun r => rI false r).getD (0 + ((b : Nat) : Int).toNat) (.dead ()) = rI false RB[b] := getD_at (e := fun r => rI false r) (List.getElem?_eq_getElem h)
theorem len_rr {RB : List (List Int)} : (RB.map fun r => rI false r).length = RB.length := List.length_map _
theorem set_rr {RB : List (List Int)} {b : Nat} {r : List Int} : ((RB.map fun r => rI false r).set (0 + ((b : Nat) : Int).toNat) (.dead ())).set (0 + ((b : Nat) : Int).toNat) (rI false r) = (RB.set b r).map fun r => rI false r := by
  rw [List.set_set, zN, List.map_set]
/-- The rows, each node's dominators so far. -/
structure Dr (n : Nat) (RB : List (List Int)) (P : Nat → Nat → Prop) (m : Nat) : Prop where
  len : RB.length = n
  row : ∀ (b : Nat) (hb : b < RB.length), RB[b].length ≤ m ∧ ∀ v, v ∈ RB[b] ↔ ∃ d : Nat, v = (d : Int) ∧ P b d
theorem t17 {n : Nat} {N : List (List Nat)} {next : List TV} (hg : Gr n N) (h0 : 0 < n) (hr : Rows next N) : ∃ out D, tw cx 17 [.st [sl true ⟨1, true⟩ next]] = some ([sl false ⟨1, true⟩ out], []) ∧ Rows out D ∧ D.length = n ∧ ∀ (b : Nat) (hb : b < D.length), D[b].length ≤ 1000 ∧ ∀ d, d ∈ D[b] ↔ Dm N b d := by
  obtain ⟨hN, hn, _⟩ := id hg
  have e1 : next.length = n := by rw [hr.1, hN]
  obtain ⟨re, a1, a2, a3⟩ := t34 hg hr h0 (-1) [] (fun x => ⟨fun h => (by omega), fun h => (by cases h)⟩)
  have a3' : ∀ k, k ∈ re ↔ Star (Ed N []) 0 k := fun k => (a3 k).trans ⟨And.right, fun h => ⟨by simp, h⟩⟩
  have hre : re.length ≤ 12 := Nat.le_trans (nd_len n re a2 (fun x hx => hg.star h0 ((a3' x).1 hx))) hn
  -- one node's
  have col : ∀ (j : Nat) (hj : j < n) (ls : List Nat) (hl : ls.length ≤ 12) (hls : ∀ b, b ∈ ls ↔ (0 ∉ [j] ∧ Star (Ed N [j]) 0 b)), ∀ d i (RB : List (List Int)), re.length - i = d → i ≤ re.length → Dr n RB (fun b k => (k < j ∨ (k = j ∧ b ∈ re.take i)) ∧ Dm N b k) (13 * j + i) →
      ∃ RB', Dr n RB' (fun b k => k < j + 1 ∧ Dm N b k) (13 * (j + 1)) ∧ ∀ r, S cx 17 (H17_0 next (RB'.map fun r => rI false r) ((nI re).map i64) ((j + 1 : Nat) : Int)) = some r → S cx 17 (H17_1 next (RB.map fun r => rI false r) ((nI re).map i64) j ((nI ls).map i64) j (i : Int)) = some r := by
    intro j hj ls hl hls d
    induction d with
    | zero =>
      intro i RB hd hi hD
      obtain rfl : i = re.length := by omega
      refine ⟨RB, ⟨hD.len, fun b hb => ⟨by have := (hD.row b hb).1; omega, fun v => ((hD.row b hb).2 v).trans ⟨?_, ?_⟩⟩⟩, fun r h => eH17_1 (bif_neg (dF (by rw [len_n]; omega)) (back_of ?_))⟩
      · rintro ⟨k, rfl, h1, h2⟩
        exact ⟨k, rfl, by omega, h2⟩
      · rintro ⟨k, rfl, h1, h2⟩
        refine ⟨k, rfl, ?_, h2⟩
        by_cases c : k = j
        · exact .inr ⟨c, by rw [List.take_length]; exact (a3' b).2 h2.2.1⟩
        · exact .inl (by omega)
      · rw [inc64 hj (by omega)]; exact h
    | succ d ih =>
      intro i RB hd hi hD
      have hil : i < re.length := by omega
      have hx : re[i] < n := hg.star h0 ((a3' _).1 (List.getElem_mem hil))
      have hxR : re[i] < RB.length := by rw [hD.len]; exact hx
      have hinc : w64 ((i : Int) + 1) = ((i + 1 : Nat) : Int) := inc64 hil (by omega)
      have htk : ∀ b, b ∈ re.take (i + 1) ↔ b ∈ re.take i ∨ b = re[i] := fun b => by
        rw [List.take_add_one, List.getElem?_eq_getElem hil, List.mem_append]
        simp
      have no : (¬ Dm N re[i] j) → ∃ RB', Dr n RB' (fun b k => k < j + 1 ∧ Dm N b k) (13 * (j + 1)) ∧ ∀ r, S cx 17 (H17_0 next (RB'.map fun r => rI false r) ((nI re).map i64) ((j + 1 : Nat) : Int)) = some r → S cx 17 (H17_1 next (RB.map fun r => rI false r) ((nI re).map i64) j ((nI ls).map i64) j ((i + 1 : Nat) : Int)) = some r := fun hno => by
        refine ih (i + 1) RB (by omega) (by omega) ⟨hD.len, fun b hb => ⟨by have := (hD.row b hb).1; omega, fun v => ((hD.row b hb).2 v).trans ⟨?_, ?_⟩⟩⟩
        · rintro ⟨k, rfl, h1, h2⟩
          exact ⟨k, rfl, h1.imp id (fun h => ⟨h.1, (htk b).2 (.inl h.2)⟩), h2⟩
        · rintro ⟨k, rfl, h1, h2⟩
          refine ⟨k, rfl, h1.imp id (fun h => ⟨h.1, ((htk b).1 h.2).elim id fun e => ?_⟩), h2⟩
          rw [h.1, e] at h2
          exact absurd h2 hno
      have mk : ∀ RB', (∀ r, S cx 17 (H17_0 next RB' ((nI re).map i64) ((j + 1 : Nat) : Int)) = some r → S cx 17 (H17_1 next (RB.map fun r => rI false r) ((nI re).map i64) j ((nI ls).map i64) j ((i + 1 : Nat) : Int)) = some r) → (j ∉ re ∨ re[i] ∈ ls) → ∀ r, S cx 17 (H17_0 next RB' ((nI re).map i64) ((j + 1 : Nat) : Int)) = some r → S cx 17 (H17_1 next (RB.map fun r => rI false r) ((nI re).map i64) j ((nI ls).map i64) j (i : Int)) = some r := fun RB' h3 hc r h => by
        refine eH17_1 (bif_pos (dT (by rw [len_n]; omega)) (ck_pos (dT2 (by rw [len_n]; omega)) ?_))
        rw [n_at hil, S_int, C35_S (has re j (by omega))]
        by_cases c1 : j ∈ re
        · refine bif_pos (dT c1) ?_
          rw [C35_S (has ls _ (by omega))]
          have c2 : re[i] ∈ ls := hc.elim (fun h => absurd c1 h) id
          refine eG17_2 (bif_neg (by rw [dT c2]; rfl) (back_of ?_))
          rw [hinc]; exact h3 r h
        · refine bif_neg (dF c1) (eG17_2 (bif_neg rfl (back_of ?_)))
          rw [hinc]; exact h3 r h
      by_cases c1 : j ∈ re
      · by_cases c2 : re[i] ∈ ls
        · obtain ⟨RB', h1, h3⟩ := no (fun h => h.2.2 ((hls _).1 c2))
          exact ⟨RB', h1, mk _ h3 (.inr c2)⟩
        · have hyes : Dm N re[i] j := ⟨(a3' j).1 c1, (a3' _).1 (List.getElem_mem hil), fun h => c2 ((hls _).2 h)⟩
          have hrow := hD.row _ hxR
          obtain ⟨RB', h1, h3⟩ := ih (i + 1) (RB.set re[i] (putV RB[re[i]] j)) (by omega) (by omega) ⟨by rw [List.length_set]; exact hD.len, fun b hb => by
            have hb' : b < RB.length := by simpa using hb
            by_cases c : b = re[i]
            · subst c
              rw [List.getElem_set_self]
              refine ⟨by have := (putV_len RB[re[i]] j).1; omega, fun v => ?_⟩
              rw [putV_mem, hrow.2 v]
              constructor
              · rintro (⟨k, rfl, h1, h2⟩ | rfl)
                · exact ⟨k, rfl, h1.imp id (fun h => ⟨h.1, (htk _).2 (.inl h.2)⟩), h2⟩
                · exact ⟨j, rfl, .inr ⟨rfl, (htk _).2 (.inr rfl)⟩, hyes⟩
              · rintro ⟨k, rfl, h1, h2⟩
                by_cases ck : k = j
                · exact .inr (by rw [ck])
                · exact .inl ⟨k, rfl, .inl (h1.elim id fun h => absurd h.1 ck), h2⟩
            · rw [List.getElem_set_ne (fun h => c h.symm)]
              refine ⟨by have := (hD.row b hb').1; omega, fun v => ((hD.row b hb').2 v).trans ⟨?_, ?_⟩⟩
              · rintro ⟨k, rfl, h1, h2⟩
                exact ⟨k, rfl, h1.imp id (fun h => ⟨h.1, (htk b).2 (.inl h.2)⟩), h2⟩
              · rintro ⟨k, rfl, h1, h2⟩
                exact ⟨k, rfl, h1.imp id (fun h => ⟨h.1, ((htk b).1 h.2).elim id fun e => absurd e c⟩), h2⟩⟩
          refine ⟨RB', h1, fun r h => eH17_1 (bif_pos (dT (by rw [len_n]; omega)) (ck_pos (dT2 (by rw [len_n]; omega)) ?_))⟩
          rw [n_at hil, S_int, C35_S (has re j (by omega))]
          refine bif_pos (dT c1) ?_
          rw [C35_S (has ls _ (by omega))]
          refine eG17_2 (bif_pos (by rw [dF c2]; rfl) (ck_pos (dT2 (by rw [len_rr]; omega)) ?_))
          rw [rr_at hxR, S_slO, S_slO, C32_S (t32 _ _ (by omega))]
          refine ck_pos (dT2 (by rw [List.length_set, len_rr]; omega)) (back_of ?_)
          rw [hinc, set_rr]
          exact h3 r h
      · obtain ⟨RB', h1, h3⟩ := no (fun h => c1 ((a3' j).2 h.1))
        exact ⟨RB', h1, mk _ h3 (.inl c1)⟩
  have cols : ∀ d j (RB : List (List Int)), n - j = d → j ≤ n → Dr n RB (fun b k => k < j ∧ Dm N b k) (13 * j) →
      ∃ RB', S cx 17 (H17_0 next (RB.map fun r => rI false r) ((nI re).map i64) (j : Int)) = some ([sl false ⟨1, true⟩ (RB'.map fun r => rI false r)], []) ∧ Dr n RB' (Dm N) 1000 := by
    intro d
    induction d with
    | zero =>
      intro j RB hd hj hD
      obtain rfl : j = n := by omega
      refine ⟨RB, eH17_0 (bif_neg (dF (by rw [e1]; omega)) rfl), hD.len, fun b hb => ⟨by have := (hD.row b hb).1; omega, fun v => ((hD.row b hb).2 v).trans ⟨?_, ?_⟩⟩⟩
      · rintro ⟨k, rfl, _, h⟩
        exact ⟨k, rfl, h⟩
      · rintro ⟨k, rfl, h⟩
        exact ⟨k, rfl, hg.star h0 h.1, h⟩
    | succ d ih =>
      intro j RB hd hj hD
      have hjn : j < n := by omega
      obtain ⟨ls, b1, b2, b3⟩ := t34 hg hr h0 (j : Int) [j] (fun x => ⟨fun h => List.mem_singleton.2 (by omega), fun h => by rw [List.mem_singleton.1 h]⟩)
      have hl : ls.length ≤ 12 := Nat.le_trans (nd_len n ls b2 (fun x hx => hg.star h0 ((b3 x).1 hx).2)) hn
      obtain ⟨RB1, c1, c2⟩ := col j hjn ls hl b3 re.length 0 RB rfl (Nat.zero_le _) ⟨hD.len, fun b hb => ⟨(hD.row b hb).1, fun v => ((hD.row b hb).2 v).trans ⟨fun ⟨k, h1, h2, h3⟩ => ⟨k, h1, .inl h2, h3⟩, fun ⟨k, h1, h2, h3⟩ => ⟨k, h1, h2.elim id (fun h => by simp at h), h3⟩⟩⟩⟩
      obtain ⟨RB2, d1, d2⟩ := ih (j + 1) RB1 (by omega) (by omega) c1
      refine ⟨RB2, eH17_0 (bif_pos (dT (by rw [e1]; omega)) ?_), d2⟩
      rw [C34_S b1]
      exact c2 _ d1
  have hr0 : (List.replicate n (sl false ⟨1, false⟩ []) : List TV) = (List.replicate n ([] : List Int)).map fun r => rI false r := by simp
  obtain ⟨RB, h1, h2⟩ := cols n 0 (List.replicate n []) rfl (Nat.zero_le _) ⟨by simp, fun b hb => by
    rw [List.getElem_replicate]
    exact ⟨by simp, fun v => ⟨fun h => (by cases h), fun ⟨k, _, h, _⟩ => absurd h (Nat.not_lt_zero _)⟩⟩⟩
  have hrow : ∀ (b : Nat) (hb : b < RB.length), nI (RB[b].map Int.toNat) = RB[b] := fun b hb => nI_of fun v hv => by
    obtain ⟨d, rfl, _⟩ := ((h2.row b hb).2 v).1 hv
    omega
  refine ⟨RB.map fun r => rI false r, RB.map fun r => r.map Int.toNat, e17 (ck_pos (by rw [e1]; exact mk24 hn) ?_), ⟨by simp, fun j hj => ⟨false, ?_⟩⟩, by rw [List.length_map]; exact h2.len, fun b hb => ?_⟩
  · rw [C34_S a1, e1, Int.toNat_natCast, hr0]
    exact h1
  · have hj' : j < RB.length := by simpa using hj
    rw [List.getElem_map, List.getElem?_map, List.getElem?_eq_getElem hj', Option.map_some, hrow j hj']
  · have hb' : b < RB.length := by simpa using hb
    rw [List.getElem_map]
    refine ⟨by rw [List.length_map]; exact (h2.row b hb').1, fun d => ?_⟩
    rw [← mem_nI, hrow b hb', (h2.row b hb').2]
    constructor
    · rintro ⟨k, h3, h4⟩
      obtain rfl : d = k := by omega
      exact h4
    · exact fun h => ⟨d, rfl, h⟩
end Go.Tree.Q

/- Does a way lead round: the reference's way and the program's. -/
namespace Go.Tree.Q
open Go.Proofs Go.Tree.Cg
set_option linter.unusedVariables false
set_option linter.unusedSimpArgs false
/-- What a node leads to, without what lies on each way to it. -/
def cut (N D : List (List Nat)) (k : Nat) : List Nat := (N.getD k []).filter fun x => !(D.getD k []).contains x
theorem getD_of {β : Type} {l : List β} {k : Nat} {z : β} (h : k < l.length) : l.getD k z = l[k] := by rw [List.getD_eq_getElem?_getD, List.getElem?_eq_getElem h, Option.getD_some]
theorem t31 {n : Nat} {N D : List (List Nat)} {next dom : List TV} (hg : Gr n N) (h0 : 0 < n) (hr : Rows next N) (hD : Rows dom D) (hDl : D.length = n) (hD2 : ∀ (b : Nat) (hb : b < D.length), D[b].length ≤ 1000) :
    ∃ ts : List Nat, tw cx 31 [.st [sl true ⟨1, true⟩ next], sl true ⟨1, true⟩ dom] = some ([tb (decide (drops (cut N D) ts.length ts ≠ []))], []) ∧ ∀ k, k ∈ ts ↔ Star (Ed N []) 0 k := by
  obtain ⟨hN, hn, _⟩ := id hg
  have e1 : next.length = n := by rw [hr.1, hN]
  have e2 : dom.length = n := by rw [hD.1, hDl]
  -- one node
  have node : ∀ (L acc : List Nat) (i k : Nat) (hi : i < L.length) (hL : L.length ≤ 12) (ha : acc.length ≤ 12) (hk : k < n) (hkN : k < N.length) (hkD : k < D.length), ∀ d q (b : Bool), N[k].length - q = d → q ≤ N[k].length → b = (N[k].take q).any (fun x => L.contains x && !D[k].contains x) →
      ∀ r, S cx 31 (H31_1 dom next ((nI L).map i64) ((nI (if N[k].any (fun x => L.contains x && !D[k].contains x) = true then acc ++ [k] else acc)).map i64) ((i + 1 : Nat) : Int)) = some r → S cx 31 (H31_2 dom next ((nI L).map i64) ((nI acc).map i64) k b i ((nI N[k]).map i64) (q : Int)) = some r := by
    intro L acc i k hi hL ha hk hkN hkD d
    have hrow := (hg.row hkN).1
    induction d with
    | zero =>
      intro q b hd hq hb r h
      obtain rfl : q = N[k].length := by omega
      rw [List.take_length] at hb
      rw [← hb] at h
      refine eH31_2 (bif_neg (dF (by rw [len_n]; omega)) ?_)
      cases b with
      | true =>
        refine bif_pos rfl (ck_pos (lim8 (by rw [len_n]; simp; omega)) (back_of ?_))
        rw [app_n, inc64 hi (by omega)]
        exact h
      | false =>
        refine bif_neg rfl (back_of ?_)
        rw [inc64 hi (by omega)]
        exact h
    | succ d ih =>
      intro q b hd hq hb r h
      have hql : q < N[k].length := by omega
      have hinc : w64 ((q : Int) + 1) = ((q + 1 : Nat) : Int) := inc64 (n := N[k].length) hql (by omega)
      have htk : (N[k].take (q + 1)).any (fun x => L.contains x && !D[k].contains x) = ((N[k].take q).any (fun x => L.contains x && !D[k].contains x) || (L.contains N[k][q] && !D[k].contains N[k][q])) := by
        rw [List.take_add_one, List.getElem?_eq_getElem hql, List.any_append]
        simp
      refine eH31_2 (bif_pos (dT (by rw [len_n]; omega)) (ck_pos (dT2 (by rw [len_n]; omega)) ?_))
      rw [n_at hql, S_int]
      cases hbb : b with
      | true =>
        refine bif_pos rfl (back_of ?_)
        rw [hinc]
        exact ih (q + 1) true (by omega) (by omega) (by rw [htk, ← hb, hbb, Bool.true_or]) r h
      | false =>
        refine bif_neg rfl ?_
        rw [C35_S (has L _ (by omega))]
        by_cases c1 : N[k][q] ∈ L
        · refine bif_pos (dT c1) (ck_pos (dT2 (by rw [e2]; omega)) ?_)
          obtain ⟨p, hp⟩ := hD.at_ hkD
          rw [hp, S_slR, C35_S (has D[k] _ (hD2 k hkD))]
          refine back_of ?_
          rw [hinc]
          refine ih (q + 1) _ (by omega) (by omega) ?_ r h
          rw [htk, ← hb, hbb, Bool.false_or]
          simp [c1]
        · refine bif_neg (dF c1) (back_of ?_)
          rw [hinc]
          refine ih (q + 1) false (by omega) (by omega) ?_ r h
          rw [htk, ← hb, hbb, Bool.false_or]
          simp [c1]
  have pass : ∀ (L : List Nat) (hL : L.length ≤ 12) (hLn : ∀ x ∈ L, x < n), ∀ d i, L.length - i = d → i ≤ L.length →
      ∀ r, (if (lead (cut N D) L).length = L.length then some ([tb (decide (0 < L.length))], []) else S cx 31 (H31_0 dom next ((nI (lead (cut N D) L)).map i64))) = some r → S cx 31 (H31_1 dom next ((nI L).map i64) ((nI ((L.take i).filter fun k => (cut N D k).any fun x => L.contains x)).map i64) (i : Int)) = some r := by
    intro L hL hLn d
    induction d with
    | zero =>
      intro i hd hi r h
      obtain rfl : i = L.length := by omega
      refine eH31_1 (bif_neg (dF (by rw [len_n]; omega)) ?_)
      rw [List.take_length, len_n, len_n]
      have e : (L.filter fun k => (cut N D k).any fun x => L.contains x) = lead (cut N D) L := rfl
      rw [e]
      by_cases c : (lead (cut N D) L).length = L.length
      · rw [if_pos c] at h
        refine bif_pos (by rw [c]; simp) ?_
        rw [S_ret, ← h]
        have : ((L.length : Int) > 0) ↔ 0 < L.length := by omega
        rw [decide_eq_decide.mpr this]
      · rw [if_neg c] at h
        refine bif_neg ?_ (back_of h)
        rw [beq_eq_false_iff_ne]
        omega
    | succ d ih =>
      intro i hd hi r h
      have hil : i < L.length := by omega
      have hk := hLn _ (List.getElem_mem hil)
      have hkN : L[i] < N.length := by omega
      have hkD : L[i] < D.length := by omega
      refine eH31_1 (bif_pos (dT (by rw [len_n]; omega)) (ck_pos (dT2 (by rw [len_n]; omega)) ?_))
      rw [n_at hil, S_int]
      refine ck_pos (dT2 (by rw [e1]; omega)) ?_
      obtain ⟨p, hp⟩ := hr.at_ hkN
      rw [hp, S_slR]
      have hacc : ((L.take i).filter fun k => (cut N D k).any fun x => L.contains x).length ≤ 12 := by
        refine Nat.le_trans (List.length_filter_le _ _) ?_
        rw [List.length_take]; omega
      refine node L _ i L[i] hil hL hacc hk hkN hkD _ 0 false rfl (Nat.zero_le _) (by simp) r ?_
      have hcut : (cut N D L[i]).any (fun x => L.contains x) = N[L[i]].any (fun x => L.contains x && !D[L[i]].contains x) := by
        unfold cut
        rw [getD_of hkN, getD_of hkD, List.any_filter]
        congr 1
        funext x
        exact Bool.and_comm _ _
      have htk : ((L.take (i + 1)).filter fun k => (cut N D k).any fun x => L.contains x) = if N[L[i]].any (fun x => L.contains x && !D[L[i]].contains x) = true then ((L.take i).filter fun k => (cut N D k).any fun x => L.contains x) ++ [L[i]] else (L.take i).filter fun k => (cut N D k).any fun x => L.contains x := by
        rw [List.take_add_one, List.getElem?_eq_getElem hil, List.filter_append]
        simp only [Option.toList_some, List.filter_cons, List.filter_nil]
        rw [hcut]
        split <;> simp
      rw [← htk]
      exact ih (i + 1) (by omega) (by omega) r h
  have all_ : ∀ m (L : List Nat), L.length ≤ m → L.length ≤ 12 → (∀ x ∈ L, x < n) → S cx 31 (H31_0 dom next ((nI L).map i64)) = some ([tb (decide (drops (cut N D) m L ≠ []))], []) := by
    intro m
    induction m with
    | zero =>
      intro L hm hL hLn
      obtain rfl : L = [] := List.eq_nil_of_length_eq_zero (by omega)
      refine eH31_0 ?_
      have := pass [] (by simp) (by simp) 0 0 rfl (Nat.zero_le _) ([tb false], []) (by simp [lead])
      simp only [drops, ne_eq, not_true_eq_false, decide_false]
      exact this
    | succ m ih =>
      intro L hm hL hLn
      refine eH31_0 ?_
      refine pass L hL hLn L.length 0 rfl (Nat.zero_le _) _ ?_
      unfold drops
      by_cases c : (lead (cut N D) L).length = L.length
      · rw [if_pos c, if_pos c]
        have : (0 < L.length) ↔ L ≠ [] := List.length_pos_iff
        rw [decide_eq_decide.mpr this]
      · rw [if_neg c, if_neg c]
        have h1 := lead_len (cut N D) L
        exact ih _ (by omega) (by omega) (fun x hx => hLn x (List.mem_filter.1 hx).1)
  obtain ⟨ts, a1, a2, a3⟩ := t34 hg hr h0 (-1) [] (fun x => ⟨fun h => (by omega), fun h => (by cases h)⟩)
  have a3' : ∀ k, k ∈ ts ↔ Star (Ed N []) 0 k := fun k => (a3 k).trans ⟨And.right, fun h => ⟨by simp, h⟩⟩
  have hlt : ∀ x ∈ ts, x < n := fun x hx => hg.star h0 ((a3' x).1 hx)
  refine ⟨ts, e31 ?_, a3'⟩
  rw [N31, C34_S a1]
  exact all_ ts.length ts (Nat.le_refl _) (Nat.le_trans (nd_len n ts a2 hlt) hn) hlt
/-- What a node leads to, without what lies on each way to it, as the program has it. -/
def cutB (N : List (List Nat)) (DB : List (List Bool)) (k : Nat) : List Nat := (N.getD k []).filter fun x => !((DB.getD k []).getD x false)
theorem nn_at {RB : List (List Nat)} {b : Nat} (h : b < RB.length) : (RB.map fun r => rI false (nI r)).getD (0 + ((b : Nat) : Int).toNat) (.dead ()) = rI false (nI RB[b]) := getD_at (e := fun r => rI false (nI r)) (List.getElem?_eq_getElem h)
theorem len_nn {RB : List (List Nat)} : (RB.map fun r => rI false (nI r)).length = RB.length := List.length_map _
theorem set_nn {RB : List (List Nat)} {b : Nat} {r : List Nat} : ((RB.map fun r => rI false (nI r)).set (0 + ((b : Nat) : Int).toNat) (.dead ())).set (0 + ((b : Nat) : Int).toNat) (rI false (nI r)) = (RB.set b r).map fun r => rI false (nI r) := by
  rw [List.set_set, zN, List.map_set]
theorem rows_nn (RB : List (List Nat)) : Rows (RB.map fun r => rI false (nI r)) RB := ⟨by simp, fun j hj => ⟨false, by rw [List.getElem?_map, List.getElem?_eq_getElem hj]; rfl⟩⟩
open Classical in
theorem t59 {n : Nat} {N : List (List Nat)} {next : List TV} (hg : Gr n N) (h0 : 0 < n) (hr : Rows next N) :
    ∃ DB : List (List Bool), (DB.length = n ∧ ∀ (b : Nat) (hb : b < DB.length), DB[b].length = n ∧ ∀ k, DB[b][k]? = some true ↔ Dm N b k) ∧
      tw cx 59 [.pt true () (.st [sl false ⟨1, true⟩ next])] = some ([tb (decide (¬ ∃ k, Star (Ed N []) 0 k ∧ ∃ x ∈ cutB N DB k, Star (fun a b => b ∈ cutB N DB a) x k))], []) := by
  obtain ⟨hN, hn, _⟩ := id hg
  have e1 : next.length = n := by rw [hr.1, hN]
  obtain ⟨DB, d1, d2, d3⟩ := t44 hg h0 hr
  refine ⟨DB, ⟨d2, d3⟩, ?_⟩
  -- one node's row
  have node : ∀ (j : Nat) (hj : j < n) (hjN : j < N.length), ∀ d q (RB : List (List Nat)) (hRl : RB.length = n) (hjR : j < RB.length), N[j].length - q = d → q ≤ N[j].length → RB[j] = (N[j].take q).filter (fun x => !((DB.getD j []).getD x false)) →
      ∀ r, S cx 59 (H59_1 next (DB.map fun r => rT false r) ((RB.set j (cutB N DB j)).map fun r => rI false (nI r)) ((j + 1 : Nat) : Int)) = some r → S cx 59 (H59_2 next (DB.map fun r => rT false r) (RB.map fun r => rI false (nI r)) j j ((nI N[j]).map i64) (q : Int)) = some r := by
    intro j hj hjN d
    have hrow := hg.row hjN
    have hjD : j < DB.length := by omega
    have hcut : cutB N DB j = N[j].filter fun x => !((DB.getD j []).getD x false) := by unfold cutB; rw [getD_of hjN]
    induction d with
    | zero =>
      intro q RB hRl hjR hd hq hRB r h
      obtain rfl : q = N[j].length := by omega
      rw [List.take_length, ← hcut] at hRB
      refine eH59_2 (bif_neg (dF (by rw [len_n]; omega)) (back_of ?_))
      rw [inc64 hj (by omega)]
      have : RB.set j (cutB N DB j) = RB := by rw [← hRB, List.set_getElem_self]
      rw [this] at h
      exact h
    | succ d ih =>
      intro q RB hRl hjR hd hq hRB r h
      have hql : q < N[j].length := by omega
      have hx := hrow.2 _ (List.getElem_mem hql)
      have hxD : N[j][q] < DB[j].length := by rw [(d3 j hjD).1]; exact hx
      have hinc : w64 ((q : Int) + 1) = ((q + 1 : Nat) : Int) := inc64 (n := N[j].length) hql (by omega)
      have hgd : (DB.getD j []).getD N[j][q] false = DB[j][N[j][q]] := by rw [getD_of hjD, getD_of hxD]
      have htk : (N[j].take (q + 1)).filter (fun x => !((DB.getD j []).getD x false)) = RB[j] ++ (if DB[j][N[j][q]] = true then [] else [N[j][q]]) := by
        rw [List.take_add_one, List.getElem?_eq_getElem hql, List.filter_append, ← hRB]
        simp only [Option.toList_some, List.filter_cons, List.filter_nil, hgd]
        cases DB[j][N[j][q]] <;> rfl
      have hRlen : RB[j].length ≤ 12 := by
        rw [hRB]
        refine Nat.le_trans (List.length_filter_le _ _) ?_
        rw [List.length_take]; omega
      have s0 : S cx 59 (NH59_2_s0 next (DB.map fun r => rT false r) (RB.map fun r => rI false (nI r)) j j ((nI N[j]).map i64) q N[j][q] (DB[j].map fun b => tb b)) = some r := by
        unfold NH59_2_s0
        rw [b_at hxD, S_bool]
        cases hv : DB[j][N[j][q]] with
        | true =>
          refine bif_neg rfl (back_of ?_)
          rw [hinc]
          exact ih (q + 1) RB hRl hjR (by omega) (by omega) (by rw [htk, hv]; simp) r h
        | false =>
          refine bif_pos rfl (ck_pos (dT2 (by rw [len_nn]; omega)) ?_)
          rw [nn_at hjR, S_slO, S_slO]
          refine ck_pos (lim8 (by rw [len_n]; simp; omega)) (ck_pos (dT2 (by rw [List.length_set, len_nn]; omega)) (back_of ?_))
          rw [hinc, app_n, set_nn]
          refine ih (q + 1) (RB.set j (RB[j] ++ [N[j][q]])) (by rw [List.length_set]; exact hRl) (by rw [List.length_set]; exact hjR) (by omega) (by omega) (by rw [List.getElem_set_self, htk, hv]; simp) r ?_
          rw [List.set_set]
          exact h
      have s1 : S cx 59 (NH59_2_s1 next (DB.map fun r => rT false r) (RB.map fun r => rI false (nI r)) j j ((nI N[j]).map i64) q N[j][q] (DB[j].map fun b => tb b)) = some r := by
        unfold NH59_2_s1
        refine ck_pos (dT2 (by rw [len_b]; omega)) ?_
        rw [bb_at hjD, S_slB]
        exact s0
      refine eH59_2 (bif_pos (dT (by rw [len_n]; omega)) (ck_pos (dT2 (by rw [len_n]; omega)) ?_))
      rw [n_at hql, S_int]
      refine ck_pos (dT2 (by rw [len_bb]; omega)) ?_
      rw [bb_at hjD, S_slO, S_slB]
      exact s1
  have rows_ : ∀ d j (RB : List (List Nat)), n - j = d → j ≤ n → RB.length = n → (∀ (b : Nat) (hb : b < RB.length), RB[b] = if b < j then cutB N DB b else []) →
      ∀ r, S cx 59 (H59_1 next (DB.map fun r => rT false r) (((List.range n).map (cutB N DB)).map fun r => rI false (nI r)) (n : Int)) = some r → S cx 59 (H59_1 next (DB.map fun r => rT false r) (RB.map fun r => rI false (nI r)) (j : Int)) = some r := by
    intro d
    induction d with
    | zero =>
      intro j RB hd hj hRl hRB r h
      obtain rfl : j = n := by omega
      have : RB = (List.range j).map (cutB N DB) := List.ext_getElem (by simp [hRl]) (fun i h1 h2 => by rw [hRB i h1, if_pos (by omega), List.getElem_map, List.getElem_range])
      rw [this]; exact h
    | succ d ih =>
      intro j RB hd hj hRl hRB r h
      have hjn : j < n := by omega
      have hjN : j < N.length := by omega
      have hjR : j < RB.length := by omega
      refine eH59_1 (bif_pos (dT (by rw [e1]; omega)) (ck_pos (dT2 (by rw [e1]; omega)) ?_))
      obtain ⟨p, hp⟩ := hr.at_ hjN
      rw [hp, S_slR]
      refine node j hjn hjN _ 0 RB hRl hjR rfl (Nat.zero_le _) (by rw [hRB j hjR, if_neg (Nat.lt_irrefl _)]; rfl) r ?_
      refine ih (j + 1) _ (by omega) (by omega) (by rw [List.length_set]; exact hRl) (fun b hb => ?_) r h
      have hb' : b < RB.length := by simpa using hb
      by_cases c : b = j
      · subst c
        rw [List.getElem_set_self, if_pos (by omega)]
      · rw [List.getElem_set_ne (fun h => c h.symm), hRB b hb']
        by_cases c2 : b < j
        · rw [if_pos c2, if_pos (by omega)]
        · rw [if_neg c2, if_neg (by omega)]
  -- the graph that is left
  obtain ⟨Pg, hPg⟩ : ∃ Pg, Pg = (List.range n).map (cutB N DB) := ⟨_, rfl⟩
  have hPl : Pg.length = n := by rw [hPg]; simp
  have hPa : ∀ (k : Nat) (hk : k < Pg.length), Pg[k] = cutB N DB k := fun k hk => by subst hPg; rw [List.getElem_map, List.getElem_range]
  have hcl : ∀ k, k < n → (cutB N DB k).length ≤ 12 ∧ ∀ x ∈ cutB N DB k, x < n := fun k hk => by
    have hkN : k < N.length := by omega
    unfold cutB
    rw [getD_of hkN]
    exact ⟨Nat.le_trans (List.length_filter_le _ _) (hg.row hkN).1, fun x hx => (hg.row hkN).2 x (List.mem_filter.1 hx).1⟩
  have hgP : Gr n Pg := ⟨hPl, hn, fun l hl => by
    obtain ⟨k, hk, rfl⟩ := List.mem_iff_getElem.1 hl
    rw [hPa k hk]
    exact hcl k (by omega)⟩
  have hst : ∀ a b, a < n → (Star (Ed Pg []) a b ↔ Star (fun a b => b ∈ cutB N DB a) a b) := fun a b ha => by
    constructor
    · exact Star.mono (fun x y ⟨hx, hy, _⟩ => by rw [hPa x hx] at hy; exact hy)
    · intro h
      have : ∀ c, Star (fun a b => b ∈ cutB N DB a) a c → c < n ∧ Star (Ed Pg []) a c := fun c hc => by
        induction hc with
        | refl => exact ⟨ha, .refl _⟩
        | tail _ e ih => exact ⟨(hcl _ ih.1).2 _ e, .tail ih.2 ⟨by omega, by rw [hPa _ (by omega)]; exact e, by simp⟩⟩
      exact (this b h).2
  have last : ∀ (ks : List Nat) (i k : Nat) (hi : i < ks.length) (hil : ks.length ≤ 1000) (hk : k < n) (hkP : k < Pg.length), ∀ d q, Pg[k].length - q = d → q ≤ Pg[k].length →
      ∀ r, (if ∃ x ∈ Pg[k].drop q, Star (Ed Pg []) x k then some ([tb false], []) else S cx 59 (H59_3 (Pg.map fun r => rI false (nI r)) ((nI ks).map i64) ((i + 1 : Nat) : Int))) = some r → S cx 59 (H59_4 (Pg.map fun r => rI false (nI r)) k ((nI ks).map i64) i (Pg[k].length : Int) (q : Int)) = some r := by
    intro ks i k hi hil hk hkP d
    have hrow := hgP.row hkP
    induction d with
    | zero =>
      intro q hd hq r h
      obtain rfl : q = Pg[k].length := by omega
      rw [if_neg (by rw [List.drop_length]; rintro ⟨x, hx, _⟩; cases hx)] at h
      refine eH59_4 (bif_neg (dF (by omega)) (back_of ?_))
      rw [inc64 hi (by omega)]
      exact h
    | succ d ih =>
      intro q hd hq r h
      have hql : q < Pg[k].length := by omega
      have hx := hrow.2 _ (List.getElem_mem hql)
      have hdr : Pg[k].drop q = Pg[k][q] :: Pg[k].drop (q + 1) := List.drop_eq_getElem_cons hql
      have hinc : w64 ((q : Int) + 1) = ((q + 1 : Nat) : Int) := inc64 (n := Pg[k].length) hql (by omega)
      obtain ⟨bs, b1, b2, b3⟩ := t57 hgP (rows_nn Pg) [] (by simp) Pg[k][q] hx
      have b1' : tw cx 57 [sl true ⟨1, true⟩ (Pg.map fun r => rI false (nI r)), i64 ((Pg[k][q] : Nat) : Int), sl true ⟨1, false⟩ []] = some ([sl false ⟨1, false⟩ (bs.map fun b => tb b)], []) := b1
      have hkb : k < bs.length := by omega
      have b3' : bs[k] = true ↔ Star (Ed Pg []) Pg[k][q] k := by
        have := b3 k
        rw [List.getElem?_eq_getElem hkb] at this
        simp only [Option.some.injEq] at this
        exact this.trans ⟨And.right, fun h => ⟨by simp, h⟩⟩
      have s0 : S cx 59 (NH59_4_s0 (Pg.map fun r => rI false (nI r)) k ((nI ks).map i64) i (Pg[k].length : Int) (q : Int) ((nI Pg[k]).map i64)) = some r := by
        unfold NH59_4_s0
        rw [n_at hql, S_int, C57_S b1']
        refine ck_pos (dT2 (by rw [len_b]; omega)) ?_
        rw [b_at hkb, S_bool]
        by_cases c : Star (Ed Pg []) Pg[k][q] k
        · rw [if_pos ⟨Pg[k][q], by rw [hdr]; exact List.mem_cons_self, c⟩] at h
          exact bif_pos (b3'.2 c) h
        · refine bif_neg (by cases hv : bs[k]; rfl; exact absurd (b3'.1 hv) c) (back_of ?_)
          rw [hinc]
          refine ih (q + 1) (by omega) (by omega) r ?_
          rw [← h]
          have : (∃ x ∈ Pg[k].drop (q + 1), Star (Ed Pg []) x k) ↔ (∃ x ∈ Pg[k].drop q, Star (Ed Pg []) x k) := by
            rw [hdr]
            constructor
            · rintro ⟨x, hx, hs⟩
              exact ⟨x, List.mem_cons_of_mem _ hx, hs⟩
            · rintro ⟨x, hx, hs⟩
              rcases List.mem_cons.1 hx with rfl | hx
              · exact absurd hs c
              · exact ⟨x, hx, hs⟩
          by_cases c2 : ∃ x ∈ Pg[k].drop q, Star (Ed Pg []) x k
          · rw [if_pos c2, if_pos (this.2 c2)]
          · rw [if_neg c2, if_neg (fun h => c2 (this.1 h))]
      have s1 : S cx 59 (NH59_4_s1 (Pg.map fun r => rI false (nI r)) k ((nI ks).map i64) i (Pg[k].length : Int) (q : Int) ((nI Pg[k]).map i64)) = some r := by
        unfold NH59_4_s1
        refine ck_pos (dT2 (by rw [len_n]; omega)) ?_
        rw [nn_at hkP, S_slB]
        exact s0
      refine eH59_4 (bif_pos (dT (by omega)) ?_)
      rw [nn_at hkP, S_slB]
      exact s1
  have ends_ : ∀ (ks : List Nat) (hil : ks.length ≤ 1000) (hks : ∀ k ∈ ks, k < n), ∀ d i, ks.length - i = d → i ≤ ks.length →
      S cx 59 (H59_3 (Pg.map fun r => rI false (nI r)) ((nI ks).map i64) (i : Int)) = some ([tb (decide (¬ ∃ k ∈ ks.drop i, ∃ x ∈ Pg.getD k [], Star (Ed Pg []) x k))], []) := by
    intro ks hil hks d
    induction d with
    | zero =>
      intro i hd hi
      obtain rfl : i = ks.length := by omega
      refine eH59_3 (bif_neg (dF (by rw [len_n]; omega)) ?_)
      rw [S_ret, dT (p := ¬ ∃ k ∈ ks.drop ks.length, ∃ x ∈ Pg.getD k [], Star (Ed Pg []) x k) (by rw [List.drop_length]; rintro ⟨k, hk, _⟩; cases hk)]
    | succ d ih =>
      intro i hd hi
      have hil2 : i < ks.length := by omega
      have hk := hks _ (List.getElem_mem hil2)
      have hkP : ks[i] < Pg.length := by omega
      have hdr : ks.drop i = ks[i] :: ks.drop (i + 1) := List.drop_eq_getElem_cons hil2
      refine eH59_3 (bif_pos (dT (by rw [len_n]; omega)) (ck_pos (dT2 (by rw [len_n]; omega)) ?_))
      rw [n_at hil2, S_int]
      refine ck_pos (dT2 (by rw [len_nn]; omega)) ?_
      rw [nn_at hkP, S_slO, S_slB]
      have h1 := last ks i ks[i] hil2 hil hk hkP _ 0 rfl (Nat.zero_le _) ([tb (decide (¬ ∃ k ∈ ks.drop i, ∃ x ∈ Pg.getD k [], Star (Ed Pg []) x k))], []) (by
        rw [List.drop_zero]
        by_cases c : ∃ x ∈ Pg[ks[i]], Star (Ed Pg []) x ks[i]
        · rw [if_pos c, dF (p := ¬ ∃ k ∈ ks.drop i, ∃ x ∈ Pg.getD k [], Star (Ed Pg []) x k) (fun hn => hn ⟨ks[i], by rw [hdr]; exact List.mem_cons_self, by rw [getD_of hkP]; exact c⟩)]
        · rw [if_neg c, ih (i + 1) (by omega) (by omega)]
          have : (¬ ∃ k ∈ ks.drop (i + 1), ∃ x ∈ Pg.getD k [], Star (Ed Pg []) x k) ↔ (¬ ∃ k ∈ ks.drop i, ∃ x ∈ Pg.getD k [], Star (Ed Pg []) x k) := not_congr (by
            rw [hdr]
            constructor
            · rintro ⟨k, hk, hs⟩
              exact ⟨k, List.mem_cons_of_mem _ hk, hs⟩
            · rintro ⟨k, hk, hs⟩
              rcases List.mem_cons.1 hk with rfl | hk
              · rw [getD_of hkP] at hs
                exact absurd hs c
              · exact ⟨k, hk, hs⟩)
          rw [decide_eq_decide.mpr this])
      have h2 : ((((nI Pg[ks[i]]).map i64).length : Nat) : Int) = (Pg[ks[i]].length : Int) := by rw [len_n]
      have h3 : S cx 59 (H59_4 (Pg.map fun r => rI false (nI r)) ks[i] ((nI ks).map i64) i ((((nI Pg[ks[i]]).map i64).length : Nat) : Int) 0) = some ([tb (decide (¬ ∃ k ∈ ks.drop i, ∃ x ∈ Pg.getD k [], Star (Ed Pg []) x k))], []) := by
        rw [h2]; exact h1
      exact h3
  obtain ⟨ra, a1, a2, a3⟩ := t57 hg hr [] (by simp) 0 h0
  have a1' : tw cx 57 [sl true ⟨1, true⟩ next, i64 0, sl true ⟨1, false⟩ []] = some ([sl false ⟨1, false⟩ (ra.map fun b => tb b)], []) := a1
  obtain ⟨ks, c1, c0, c2⟩ := t45 ra (by omega)
  have c1' : tw cx 45 [sl true ⟨1, false⟩ (ra.map fun b => tb b)] = some ([sl false ⟨1, false⟩ ((nI ks).map i64)], []) := c1
  have hks : ∀ k, k ∈ ks ↔ Star (Ed N []) 0 k := fun k => (c2 k).trans ((a3 k).trans ⟨And.right, fun h => ⟨by simp, h⟩⟩)
  have hkn : ∀ k ∈ ks, k < n := fun k hk => hg.star h0 ((hks k).1 hk)
  have heq : (∃ k ∈ ks, ∃ x ∈ Pg.getD k [], Star (Ed Pg []) x k) ↔ (∃ k, Star (Ed N []) 0 k ∧ ∃ x ∈ cutB N DB k, Star (fun a b => b ∈ cutB N DB a) x k) := by
    constructor
    · rintro ⟨k, hk, x, hx, hs⟩
      have hkl := hkn k hk
      rw [getD_of (show k < Pg.length by omega), hPa k (by omega)] at hx
      exact ⟨k, (hks k).1 hk, x, hx, (hst x k ((hcl k hkl).2 x hx)).1 hs⟩
    · rintro ⟨k, hk, x, hx, hs⟩
      have hk' := (hks k).2 hk
      have hkl := hkn k hk'
      exact ⟨k, hk', x, by rw [getD_of (show k < Pg.length by omega), hPa k (by omega)]; exact hx, (hst x k ((hcl k hkl).2 x hx)).2 hs⟩
  have h3 := ends_ ks (by omega) hkn _ 0 rfl (Nat.zero_le _)
  rw [List.drop_zero, decide_eq_decide.mpr (not_congr heq)] at h3
  have h4 : S cx 59 (H59_1 next (DB.map fun r => rT false r) ((List.replicate n ([] : List Nat)).map fun r => rI false (nI r)) 0) = some ([tb (decide (¬ ∃ k, Star (Ed N []) 0 k ∧ ∃ x ∈ cutB N DB k, Star (fun a b => b ∈ cutB N DB a) x k))], []) := by
    refine rows_ n 0 (List.replicate n []) rfl (Nat.zero_le _) (by simp) (fun b hb => by rw [List.getElem_replicate, if_neg (Nat.not_lt_zero _)]) _ ?_
    refine eH59_1 (bif_neg (dF (by rw [e1]; omega)) ?_)
    rw [C57_S a1', C45_S c1', ← hPg]
    exact h3
  have hr0 : (List.replicate n (sl false ⟨1, false⟩ []) : List TV) = (List.replicate n ([] : List Nat)).map fun r => rI false (nI r) := by simp
  have h5 : S cx 59 (G59_0 next (DB.map fun r => rT false r)) = some ([tb (decide (¬ ∃ k, Star (Ed N []) 0 k ∧ ∃ x ∈ cutB N DB k, Star (fun a b => b ∈ cutB N DB a) x k))], []) := by
    refine eG59_0 ?_
    unfold NG59_0
    rw [e1, Int.toNat_natCast, hr0]
    exact h4
  have s0 : S cx 59 (N59_s0 next) = some ([tb (decide (¬ ∃ k, Star (Ed N []) 0 k ∧ ∃ x ∈ cutB N DB k, Star (fun a b => b ∈ cutB N DB a) x k))], []) := by
    unfold N59_s0
    rw [C44_S d1]
    exact ck_pos (deep_bb DB) (ck_pos (by rw [e1]; exact mk24 hn) h5)
  have s1 : S cx 59 (N59_s1 next) = some ([tb (decide (¬ ∃ k, Star (Ed N []) 0 k ∧ ∃ x ∈ cutB N DB k, Star (fun a b => b ∈ cutB N DB a) x k))], []) := by
    unfold N59_s1
    refine ck_pos (by rw [e1]; exact mk24 hn) ?_
    rw [C44_S d1]
    exact ck_pos (deep_bb DB) h5
  have s2 := S_amb2 s0 s1
  exact e59 (S_amb2 (S_amb2 s0 s2) (S_amb2 s2 s1))
end Go.Tree.Q

/- Can structure be found: both answer alike; the law answers true. -/
namespace Go.Tree.Q
open Go.Proofs Go.Tree.Cg
set_option linter.unusedVariables false
set_option linter.unusedSimpArgs false
/-- The same next ones. -/
def Alike (N G : List (List Nat)) : Prop := G.length = N.length ∧ ∀ (i : Nat) (hi : i < N.length) (hi2 : i < G.length) (v : Nat), v ∈ G[i] ↔ v ∈ N[i]
theorem Alike.ed {N G : List (List Nat)} (h : Alike N G) (but : List Nat) (a b : Nat) : Ed G but a b ↔ Ed N but a b := by
  constructor
  · rintro ⟨h1, h2, h3⟩
    exact ⟨by have := h.1; omega, (h.2 a (by have := h.1; omega) h1 b).1 h2, h3⟩
  · rintro ⟨h1, h2, h3⟩
    exact ⟨by have := h.1; omega, (h.2 a h1 (by have := h.1; omega) b).2 h2, h3⟩
theorem Alike.star {N G : List (List Nat)} (h : Alike N G) (but : List Nat) (a b : Nat) : Star (Ed G but) a b ↔ Star (Ed N but) a b := ⟨Star.mono fun x y => (h.ed but x y).1, Star.mono fun x y => (h.ed but x y).2⟩
theorem Alike.dm {N G : List (List Nat)} (h : Alike N G) (b k : Nat) : Dm G b k ↔ Dm N b k := by
  unfold Dm
  rw [h.star, h.star, h.star]
/-- An edge that leads to no dominator. -/
def Fw (N : List (List Nat)) (a b : Nat) : Prop := ∃ h : a < N.length, b ∈ N[a] ∧ ¬ Dm N a b
/-- A way leads round. -/
def Cyc (N : List (List Nat)) : Prop := ∃ k, Star (Ed N []) 0 k ∧ ∃ x, Fw N k x ∧ Star (Fw N) x k
theorem cyc_of {N G : List (List Nat)} (h : Alike N G) {s : Nat → List Nat} (hs : ∀ a b, b ∈ s a ↔ Fw N a b) : (∃ k, Star (Ed G []) 0 k ∧ ∃ x ∈ s k, Star (fun a b => b ∈ s a) x k) ↔ Cyc N := by
  have hst : ∀ a b, Star (fun a b => b ∈ s a) a b ↔ Star (Fw N) a b := fun a b => ⟨Star.mono fun x y => (hs x y).1, Star.mono fun x y => (hs x y).2⟩
  constructor
  · rintro ⟨k, h1, x, h2, h3⟩
    exact ⟨k, (h.star [] 0 k).1 h1, x, (hs k x).1 h2, (hst x k).1 h3⟩
  · rintro ⟨k, h1, x, h2, h3⟩
    exact ⟨k, (h.star [] 0 k).2 h1, x, (hs k x).2 h2, (hst x k).2 h3⟩
theorem cutB_fw {n : Nat} {N G : List (List Nat)} {DB : List (List Bool)} (hn : N.length = n) (h : Alike N G) (hD : DB.length = n ∧ ∀ (b : Nat) (hb : b < DB.length), DB[b].length = n ∧ ∀ k, DB[b][k]? = some true ↔ Dm G b k) (a b : Nat) : b ∈ cutB G DB a ↔ Fw N a b := by
  unfold cutB Fw
  by_cases c : a < n
  · have hG : a < G.length := by rw [h.1]; omega
    have hDa : a < DB.length := by omega
    rw [getD_of hG, getD_of hDa, List.mem_filter, h.2 a (by omega) hG]
    have e : ((!(DB[a].getD b false)) = true) ↔ ¬ Dm N a b := by
      rw [← h.dm, ← (hD.2 a hDa).2 b, List.getD_eq_getElem?_getD]
      cases hv : DB[a][b]? with
      | none => simp
      | some v => cases v <;> simp
    rw [e]
    exact ⟨fun ⟨h1, h2⟩ => ⟨by omega, h1, h2⟩, fun ⟨_, h1, h2⟩ => ⟨h1, h2⟩⟩
  · have hG : ¬ a < G.length := by rw [h.1]; omega
    have e : G.getD a [] = [] := by rw [List.getD_eq_getElem?_getD, List.getElem?_eq_none (by omega)]; rfl
    rw [e]
    exact ⟨fun h => by simp at h, fun ⟨h1, _⟩ => absurd h1 (by omega)⟩
theorem cut_fw {n : Nat} {N G D : List (List Nat)} (hn : N.length = n) (h : Alike N G) (hDl : D.length = n) (hD : ∀ (b : Nat) (hb : b < D.length) (d : Nat), d ∈ D[b] ↔ Dm G b d) (a b : Nat) : b ∈ cut G D a ↔ Fw N a b := by
  unfold cut Fw
  by_cases c : a < n
  · have hG : a < G.length := by rw [h.1]; omega
    have hDa : a < D.length := by omega
    rw [getD_of hG, getD_of hDa, List.mem_filter, h.2 a (by omega) hG]
    have e : ((!(D[a].contains b)) = true) ↔ ¬ Dm N a b := by
      rw [← h.dm, ← hD a hDa b]
      simp
    rw [e]
    exact ⟨fun ⟨h1, h2⟩ => ⟨by omega, h1, h2⟩, fun ⟨_, h1, h2⟩ => ⟨h1, h2⟩⟩
  · have hG : ¬ a < G.length := by rw [h.1]; omega
    have e : G.getD a [] = [] := by rw [List.getD_eq_getElem?_getD, List.getElem?_eq_none (by omega)]; rfl
    rw [e]
    exact ⟨fun h => by simp at h, fun ⟨h1, _⟩ => absurd h1 (by omega)⟩
theorem all_len : ∀ (n : Nat) (l : List Nat), (∀ k, k < n → k ∈ l) → n ≤ l.length
  | 0, l, _ => Nat.zero_le _
  | n + 1, l, h => by
    have hm := h n (by omega)
    have h1 := all_len n (l.erase n) (fun k hk => (List.mem_erase_of_ne (by omega)).2 (h k (by omega)))
    rw [List.length_erase_of_mem hm] at h1
    have : 0 < l.length := List.length_pos_of_mem hm
    omega
/-- What is asked of blocks, one by one. -/
def okB (b : Bk) : Prop := low8 b.code ∧ b.test < 8
instance (b : Bk) : Decidable (okB b) := by unfold okB; infer_instance
theorem dec_res {p q : Prop} [Decidable p] [Decidable q] {X : Option Res} (h : X = some ([tb (decide p)], [])) (e : p ↔ q) : X = some ([tb (decide q)], []) := by
  rw [h, decide_eq_decide.mpr e]
/-- Structure can be found. -/
def canP (f : List Bk) : Prop := f.length ≤ 12 ∧ (∀ k, k < f.length → Star (Ed (N0 f) []) 0 k) ∧ (∀ b ∈ f, okB b) ∧ ¬ Cyc (N0 f)
open Classical in
theorem t40 {f : List Bk} (hf : flowP f) (hs : smallF f) : tw cx 40 [rB true false f] = some ([tb (decide (canP f))], []) := by
  have e1 : (f.map (eB false)).length = f.length := List.length_map _
  have h0 : 0 < f.length := hf.2.1
  refine e40 ?_
  rw [N40, e1]
  by_cases c12 : f.length ≤ 12
  · refine bif_neg (dF (by omega)) ?_
    have hg := gr_flow hf c12
    obtain ⟨next, k1, hr⟩ := t42 hf c12 false
    obtain ⟨bs, b1, b2, b3⟩ := t57 hg hr [] (by simp) 0 h0
    have b1' : tw cx 57 [sl true ⟨1, true⟩ next, i64 0, sl true ⟨1, false⟩ []] = some ([sl false ⟨1, false⟩ (bs.map fun b => tb b)], []) := b1
    rw [C42_S k1, C57_S b1', C56_S (t56 bs false (by show _ ≤ 1073741824; omega))]
    have hreach : false ∈ bs ↔ ¬ ∀ k, k < f.length → Star (Ed (N0 f) []) 0 k := by
      constructor
      · intro h hall
        obtain ⟨k, hk, e⟩ := List.mem_iff_getElem.1 h
        have := (b3 k).2 ⟨by simp, hall k (by omega)⟩
        rw [List.getElem?_eq_getElem hk, e] at this
        cases this
      · intro h
        apply Classical.byContradiction
        intro hn
        refine h fun k hk => ((b3 k).1 ?_).2
        rw [List.getElem?_eq_getElem (by omega)]
        cases hv : bs[k]'(by omega) with
        | true => rfl
        | false => exact absurd (hv ▸ List.getElem_mem (by omega)) hn
    by_cases c2 : false ∈ bs
    · refine bif_pos (dT c2) ?_
      rw [S_ret, dF (p := canP f) (fun h => (hreach.1 c2) h.2.1)]
    · refine bif_neg (dF c2) ?_
      have hall : ∀ k, k < f.length → Star (Ed (N0 f) []) 0 k := Classical.byContradiction fun h => c2 (hreach.2 h)
      obtain ⟨out, G, g1, g2, g3, g4⟩ := t41 hg hr
      have hal : Alike (N0 f) G := ⟨by rw [g3.1, hg.1], g4⟩
      obtain ⟨DB, d1, d2⟩ := t59 g3 h0 g2
      have hcyc := cyc_of (s := cutB G DB) hal (cutB_fw hg.1 hal d1)
      rw [decide_eq_decide.mpr (not_congr hcyc)] at d2
      have key : ∀ d j, f.length - j = d → j ≤ f.length → S cx 40 (H40_0 (f.map (eB false)) (j : Int)) = some ([tb (decide ((∀ b ∈ f.drop j, okB b) ∧ ¬ Cyc (N0 f)))], []) := by
        intro d
        induction d with
        | zero =>
          intro j hd hj
          obtain rfl : j = f.length := by omega
          refine dec_res (p := ¬ Cyc (N0 f)) ?_ ⟨fun h => ⟨fun b hb => (by rw [List.drop_length] at hb; cases hb), h⟩, And.right⟩
          refine eH40_0 (bif_neg (dF (by rw [e1]; omega)) ?_)
          rw [C42_S k1, C41_S g1, C59_S d2, S_ret]
        | succ d ih =>
          intro j hd hj
          have hjl : j < f.length := by omega
          have hdr : f.drop j = f[j] :: f.drop (j + 1) := List.drop_eq_getElem_cons hjl
          have hsb := hs.2 _ (List.getElem_mem hjl)
          refine eH40_0 (bif_pos (dT (by rw [e1]; omega)) (ck_pos (dT2 (by rw [e1]; omega)) ?_))
          rw [fb_at hjl, V4_S, C58_S (t58 f[j].code hsb.1)]
          have no : ¬ okB f[j] → S cx 40 (.ret [tb false] []) = some ([tb (decide ((∀ b ∈ f.drop j, okB b) ∧ ¬ Cyc (N0 f)))], []) := fun h => by
            rw [S_ret, dF (p := (∀ b ∈ f.drop j, okB b) ∧ ¬ Cyc (N0 f)) (fun k => h (k.1 _ (by rw [hdr]; exact List.mem_cons_self)))]
          by_cases c3 : low8 f[j].code
          · refine bif_neg (by rw [dT c3]; rfl) ?_
            by_cases c4 : f[j].test ≥ 8
            · exact bif_pos (dT c4) (no fun h => by have := h.2; omega)
            · refine bif_neg (dF c4) (back_of ?_)
              rw [inc64 hjl (by omega), ih (j + 1) (by omega) (by omega)]
              have : ((∀ b ∈ f.drop (j + 1), okB b) ∧ ¬ Cyc (N0 f)) ↔ ((∀ b ∈ f.drop j, okB b) ∧ ¬ Cyc (N0 f)) := and_congr_left fun _ => by
                rw [hdr]
                exact ⟨fun h b hb => (List.mem_cons.1 hb).elim (fun e => by rw [e]; exact ⟨c3, by omega⟩) (h b), fun h b hb => h b (List.mem_cons_of_mem _ hb)⟩
              exact dec_res rfl this
          · exact bif_pos (by rw [dF c3]; rfl) (no fun h => c3 h.1)
      have := key _ 0 rfl (Nat.zero_le _)
      have e : ((∀ b ∈ f.drop 0, okB b) ∧ ¬ Cyc (N0 f)) ↔ canP f := by
        rw [List.drop_zero]
        exact ⟨fun h => ⟨c12, hall, h⟩, fun h => h.2.2⟩
      exact dec_res this e
  · refine bif_pos (dT (by omega)) ?_
    rw [S_ret, dF (p := canP f) (fun h => c12 h.1)]
open Classical in
theorem t14 {f : List Bk} (hf : flowP f) (hs : smallF f) : tw cx 14 [rB true false f] = some ([tb (decide (canP f))], []) := by
  have e1 : (f.map (eB false)).length = f.length := List.length_map _
  have h0 : 0 < f.length := hf.2.1
  refine e14 ?_
  rw [N14, C28_S (t28 f hs), e1]
  refine bif_neg (by rw [dT hf]; rfl) ?_
  by_cases c12 : f.length ≤ 12
  · refine bif_neg (dF (by omega)) ?_
    have hg := gr_flow hf c12
    obtain ⟨xs, ts, a1, a2, a3, a4⟩ := t29 hf c12
    rw [C29_S a1, len_i, a2]
    have hlt : ∀ t ∈ ts, t < f.length := fun t ht => hg.star h0 ((a4 t).1 ht)
    by_cases c2 : ts.length = f.length
    · refine bif_neg (by rw [c2]; simp) ?_
      have hall : ∀ k, k < f.length → Star (Ed (N0 f) []) 0 k := fun k hk => (a4 k).1 (nd_full a3 hlt c2 k hk)
      obtain ⟨out, G, g1, g2, g3, g4⟩ := t15 hf c12
      have hal : Alike (N0 f) G := ⟨by rw [g3.1, hg.1], g4⟩
      obtain ⟨dom, D, d1, d2, d3, d4⟩ := t17 g3 h0 g2
      obtain ⟨us, u1, u2⟩ := t31 g3 h0 g2 d2 d3 (fun b hb => (d4 b hb).1)
      have hcut := cut_fw hg.1 hal d3 (fun b hb => (d4 b hb).2)
      have hdr_ : drops (cut G D) us.length us ≠ [] ↔ Cyc (N0 f) := by
        rw [drops_iff (cut G D) us (fun k hk x hx => by
          rw [u2] at hk ⊢
          obtain ⟨h1, h2, _⟩ := (hcut k x).1 hx
          exact .tail hk ((hal.ed [] k x).2 ⟨h1, h2, by simp⟩)) us.length (Nat.le_refl _)]
        rw [← cyc_of (s := cut G D) hal hcut]
        constructor
        · rintro ⟨k, hk, h⟩
          exact ⟨k, (u2 k).1 hk, h⟩
        · rintro ⟨k, hk, h⟩
          exact ⟨k, (u2 k).2 hk, h⟩
      rw [decide_eq_decide.mpr hdr_] at u1
      have key : ∀ d j, f.length - j = d → j ≤ f.length → S cx 14 (H14_0 (f.map (eB false)) (j : Int)) = some ([tb (decide ((∀ b ∈ f.drop j, okB b) ∧ ¬ Cyc (N0 f)))], []) := by
        intro d
        induction d with
        | zero =>
          intro j hd hj
          obtain rfl : j = f.length := by omega
          refine dec_res (p := ¬ Cyc (N0 f)) ?_ ⟨fun h => ⟨fun b hb => (by rw [List.drop_length] at hb; cases hb), h⟩, And.right⟩
          refine eH14_0 (bif_neg (dF (by rw [e1]; omega)) ?_)
          rw [C15_S g1]
          have fin : S cx 14 (NH14_0_s0 out) = some ([tb (decide (¬ Cyc (N0 f)))], []) := by
            unfold NH14_0_s0
            rw [C17_S d1, C31_S u1, S_ret]
            by_cases c : Cyc (N0 f)
            · rw [dT c, dF (p := ¬ Cyc (N0 f)) (fun h => h c)]; rfl
            · rw [dF c, dT (p := ¬ Cyc (N0 f)) c]; rfl
          exact S_amb2 fin fin
        | succ d ih =>
          intro j hd hj
          have hjl : j < f.length := by omega
          have hdr : f.drop j = f[j] :: f.drop (j + 1) := List.drop_eq_getElem_cons hjl
          have hsb := hs.2 _ (List.getElem_mem hjl)
          refine eH14_0 (bif_pos (dT (by rw [e1]; omega)) (ck_pos (dT2 (by rw [e1]; omega)) ?_))
          rw [fb_at hjl, V4_S, C30_S (t30 f[j].code hsb.1)]
          have no : ¬ okB f[j] → S cx 14 (.ret [tb false] []) = some ([tb (decide ((∀ b ∈ f.drop j, okB b) ∧ ¬ Cyc (N0 f)))], []) := fun h => by
            rw [S_ret, dF (p := (∀ b ∈ f.drop j, okB b) ∧ ¬ Cyc (N0 f)) (fun k => h (k.1 _ (by rw [hdr]; exact List.mem_cons_self)))]
          by_cases c3 : low8 f[j].code
          · refine bif_neg (by rw [dT c3]; rfl) ?_
            by_cases c4 : f[j].test ≥ 8
            · exact bif_pos (dT c4) (no fun h => by have := h.2; omega)
            · refine bif_neg (dF c4) (back_of ?_)
              rw [inc64 hjl (by omega), ih (j + 1) (by omega) (by omega)]
              have : ((∀ b ∈ f.drop (j + 1), okB b) ∧ ¬ Cyc (N0 f)) ↔ ((∀ b ∈ f.drop j, okB b) ∧ ¬ Cyc (N0 f)) := and_congr_left fun _ => by
                rw [hdr]
                exact ⟨fun h b hb => (List.mem_cons.1 hb).elim (fun e => by rw [e]; exact ⟨c3, by omega⟩) (h b), fun h b hb => h b (List.mem_cons_of_mem _ hb)⟩
              exact dec_res rfl this
          · exact bif_pos (by rw [dF c3]; rfl) (no fun h => c3 h.1)
      have := key _ 0 rfl (Nat.zero_le _)
      have e : ((∀ b ∈ f.drop 0, okB b) ∧ ¬ Cyc (N0 f)) ↔ canP f := by
        rw [List.drop_zero]
        exact ⟨fun h => ⟨c12, hall, h⟩, fun h => h.2.2⟩
      exact dec_res this e
    · refine bif_pos (by rw [bne_iff_ne]; omega) ?_
      rw [S_ret, dF (p := canP f) (fun h => c2 ?_)]
      have hnd := nd_len f.length ts a3 hlt
      have hfull := all_len f.length ts (fun k hk => (a4 k).2 (h.2.1 k hk))
      omega
  · refine bif_pos (dT (by omega)) ?_
    rw [S_ret, dF (p := canP f) (fun h => c12 h.1)]
end Go.Tree.Q

/- Merges: the program's, the reference's. -/
namespace Go.Tree.Q
open Go.Proofs
set_option linter.unusedVariables false
set_option linter.unusedSimpArgs false
abbrev yes : Option Res := some ([tb true], [])
/-- The structurer, as it is handed on. -/
abbrev stT (f : List Bk) (DB : List (List Bool)) (rk kd : List TV) : List TV := [sl true ⟨4, true⟩ (f.map (eB false)), sl false ⟨1, true⟩ (DB.map fun r => rT false r), sl false ⟨1, false⟩ rk, sl false ⟨1, true⟩ kd, sl false ⟨3, true⟩ []]
end Go.Tree.Q

/- The structurer: how it is made. -/
namespace Go.Tree.Q
open Go.Proofs
open Go.Tree.O (visV ordL)
set_option linter.unusedVariables false
set_option linter.unusedSimpArgs false
theorem ask_of {n : Nat} {N : List (List Nat)} {next : List TV} (hg : Gr n N) (h0 : 0 < n) (hr : Rows next N) : O.ask next N :=
  ⟨hr, by have := hg.1; omega, by have := hg.1; have := hg.2.1; omega, fun k hk => ⟨(hg.row hk).1, fun x hx => by have := (hg.row hk).2 x hx; have := hg.1; omega⟩⟩
/-- What a visit keeps. -/
theorem visV_inv {n : Nat} {N : List (List Nat)} (hg : Gr n N) : ∀ (m k : Nat) (bs : List Bool) (out : List Nat), k < n → bs.length = n → bs[k]? = some false → cntF bs ≤ m → (∀ x ∈ out, x < n) →
    ∀ bs' out', visV N m k (bs, out) = (bs', out') → bs'.length = n ∧ (∀ x ∈ out', x < n) ∧ cntF bs' ≤ cntF bs ∧ cntF bs' + out'.length = cntF bs + out.length ∧ out' ≠ [] := by
  intro m
  induction m with
  | zero =>
    intro k bs out hk hl hb hm
    have := cnt_set bs k hb
    omega
  | succ m ih =>
    intro k bs out hk hl hb hm ho bs' out' he
    have hc := cnt_set bs k hb
    have hkN : k < N.length := by rw [hg.1]; exact hk
    have key : ∀ (l : List Nat) (s : List Bool × List Nat), (∀ x ∈ l, x < n) → s.1.length = n → (∀ x ∈ s.2, x < n) → cntF s.1 ≤ m → cntF s.1 ≤ cntF (bs.set k true) → cntF s.1 + s.2.length = cntF (bs.set k true) + out.length →
        let t := l.foldl (fun s x => if s.1.getD x false = true then s else visV N m x s) s
        t.1.length = n ∧ (∀ x ∈ t.2, x < n) ∧ cntF t.1 ≤ cntF (bs.set k true) ∧ cntF t.1 + t.2.length = cntF (bs.set k true) + out.length := by
      intro l
      induction l with
      | nil => intro s _ h1 h2 h3 h4 h5; exact ⟨h1, h2, h4, h5⟩
      | cons x l ihl =>
        intro s hx h1 h2 h3 h4 h5
        rw [List.foldl_cons]
        have hxn := hx x List.mem_cons_self
        by_cases c : s.1.getD x false = true
        · rw [if_pos c]
          exact ihl s (fun y hy => hx y (List.mem_cons_of_mem _ hy)) h1 h2 h3 h4 h5
        · rw [if_neg c]
          have hf : s.1[x]? = some false := by
            rw [List.getD_eq_getElem?_getD, List.getElem?_eq_getElem (by omega), Option.getD_some] at c
            rw [List.getElem?_eq_getElem (by omega)]
            simpa using c
          obtain ⟨g1, g2, g3, g4, _⟩ := ih x s.1 s.2 hxn h1 hf h3 h2 (visV N m x s).1 (visV N m x s).2 rfl
          exact ihl _ (fun y hy => hx y (List.mem_cons_of_mem _ hy)) g1 g2 (by omega) (by omega) (by omega)
    have hrow : N.getD k [] = N[k] := getD_of hkN
    have := key N[k] (bs.set k true, out) (hg.row hkN).2 (by rw [List.length_set]; exact hl) ho (by show cntF (bs.set k true) ≤ m; omega) (Nat.le_refl _) rfl
    rw [visV, hrow] at he
    simp only [Prod.mk.injEq] at he
    obtain ⟨e1, e2⟩ := he
    rw [← e1, ← e2]
    obtain ⟨h1, h2, h3, h4⟩ := this
    refine ⟨h1, fun x hx => ?_, by omega, by rw [List.length_append, List.length_singleton]; omega, by simp⟩
    rcases List.mem_append.1 hx with hx | hx
    · exact h2 x hx
    · rw [List.mem_singleton.1 hx]; exact hk
theorem ordL_ok {n : Nat} {N : List (List Nat)} (hg : Gr n N) (h0 : 0 < n) : (∀ x ∈ ordL N, x < n) ∧ 0 < (ordL N).length ∧ (ordL N).length ≤ n := by
  have hN := hg.1
  obtain ⟨g1, g2, g3, g4, g5⟩ := visV_inv hg N.length 0 (List.replicate N.length false) [] h0 (by simp [hN]) (by rw [List.getElem?_replicate, if_pos (by omega)]) (by simp [cntF]) (by simp) _ _ rfl
  have hc : cntF (List.replicate N.length false) = N.length := by simp [cntF]
  unfold ordL
  refine ⟨fun x hx => g2 x (List.mem_reverse.1 hx), ?_, ?_⟩
  · rw [List.length_reverse]
    exact List.length_pos_iff.2 g5
  · rw [List.length_reverse]
    simp only [List.length_nil] at g4
    omega
theorem t43 {n : Nat} {N : List (List Nat)} {next : List TV} (hg : Gr n N) (h0 : 0 < n) (hr : Rows next N) : tw cx 43 [.pt true () (.st [sl false ⟨1, true⟩ next])] = some ([rI false (nI (ordL N))], []) :=
  tw_given (g := O.g49) rfl (O.g49_eq (ask_of hg h0 hr))
/-- The numbers of what is true. -/
def trues (bs : List Bool) : List Nat := (List.range bs.length).filter fun k => bs.getD k false
theorem t45x (bs : List Bool) (hl : bs.length ≤ 1000) : tw cx 45 [rT true bs] = some ([rI false (nI (trues bs))], []) := by
  have key : ∀ d j, bs.length - j = d → j ≤ bs.length → S cx 45 (H45_0 ((nI ((List.range j).filter fun k => bs.getD k false)).map i64) (bs.map fun b => tb b) (j : Int)) = some ([rI false (nI (trues bs))], []) := by
    intro d
    induction d with
    | zero =>
      intro j hd hj
      obtain rfl : j = bs.length := by omega
      exact eH45_0 (bif_neg (dF (by rw [len_b]; omega)) rfl)
    | succ d ih =>
      intro j hd hj
      have hjl : j < bs.length := by omega
      have hinc : w64 ((j : Int) + 1) = ((j + 1 : Nat) : Int) := inc64 hjl (by omega)
      have := ih (j + 1) (by omega) (by omega)
      have hg : bs.getD j false = bs[j] := getD_of hjl
      have hle : ((List.range j).filter fun k => bs.getD k false).length ≤ 1000 := Nat.le_trans (List.length_filter_le _ _) (by rw [List.length_range]; omega)
      refine eH45_0 (bif_pos (dT (by rw [len_b]; omega)) (ck_pos (dT2 (by rw [len_b]; omega)) ?_))
      rw [b_at hjl, S_bool]
      rw [List.range_succ, List.filter_append, List.filter_cons, List.filter_nil, hg] at this
      cases hv : bs[j] with
      | true =>
        rw [hv, if_pos rfl] at this
        refine bif_pos rfl (ck_pos (lim8 (by rw [len_n]; simp only [List.length_cons, List.length_nil]; omega)) (back_of ?_))
        rw [hinc, app_n]; exact this
      | false =>
        rw [hv, if_neg (by simp), List.append_nil] at this
        refine bif_neg rfl (back_of ?_)
        rw [hinc]; exact this
  exact e45 (key _ 0 rfl (Nat.zero_le _))
/-- How many dominate. -/
abbrev lens (DB : List (List Bool)) (d : Nat) : Nat := (trues (DB.getD d [])).length
theorem trues_le (bs : List Bool) : (trues bs).length ≤ bs.length := Nat.le_trans (List.length_filter_le _ _) (by rw [List.length_range]; exact Nat.le_refl _)
/-- The nearest so far: the dominator with the most of its own. -/
def nearS (DB : List (List Bool)) (k : Nat) (s : Nat × Nat) (d : Nat) : Nat × Nat := if (DB.getD k []).getD d false = true ∧ d ≠ k ∧ lens DB d > s.2 then (d, lens DB d) else s
def nearV (n : Nat) (DB : List (List Bool)) (k : Nat) : Nat := ((List.range n).foldl (nearS DB k) (0, 0)).1
def kidS (n : Nat) (DB : List (List Bool)) (kd : List (List Nat)) (k : Nat) : List (List Nat) := kd.set (nearV n DB k) (kd.getD (nearV n DB k) [] ++ [k])
theorem near_lt {n : Nat} (DB : List (List Bool)) (k : Nat) (h0 : 0 < n) : ∀ i, i ≤ n → ((List.range i).foldl (nearS DB k) (0, 0)).1 < n ∧ ((List.range i).foldl (nearS DB k) (0, 0)).2 ≤ 1000000 ∨ ∃ d, 1000000 < lens DB d := by
  intro i
  induction i with
  | zero => intro _; exact .inl ⟨h0, Nat.zero_le _⟩
  | succ i ih =>
    intro hi
    rw [List.range_succ, List.foldl_append, List.foldl_cons, List.foldl_nil]
    rcases ih (by omega) with h | h
    · unfold nearS
      split
      · by_cases c : lens DB i ≤ 1000000
        · exact .inl ⟨hi, c⟩
        · exact .inr ⟨i, by omega⟩
      · exact .inl h
    · exact .inr h
abbrev kdT (kd : List (List Nat)) : List TV := kd.map fun r => rI false (nI r)
theorem near_loop {f : List Bk} {n : Nat} (h12 : n ≤ 12) {DB : List (List Bool)} (hD : DB.length = n) (hD2 : ∀ (b : Nat) (hb : b < DB.length), DB[b].length = n) {os rk : List TV} {kd : List (List Nat)} (hkd : kd.length = n) (hk1 : ∀ r ∈ kd, r.length ≤ 1000) {k : Nat} (hk : k < n) {j : Nat} (hj : j ≤ 1000) {r : Res}
    (h : S cx 20 (H20_2 os (f.map (eB false)) (DB.map fun r => rT false r) rk (kdT (kidS n DB kd k)) ((j + 1 : Nat) : Int)) = some r) :
    S cx 20 (H20_3 os (f.map (eB false)) (DB.map fun r => rT false r) rk (kdT kd) (k : Int) 0 0 (j : Int) (n : Int) 0) = some r := by
  have hlens : ∀ d, lens DB d ≤ 12 := fun d => by
    unfold lens
    refine Nat.le_trans (trues_le _) ?_
    by_cases c : d < DB.length
    · rw [getD_of c, hD2 d c]; exact h12
    · rw [List.getD_eq_getElem?_getD, List.getElem?_eq_none (by omega)]; exact Nat.zero_le _
  have hnear : ∀ i, i ≤ n → ((List.range i).foldl (nearS DB k) (0, 0)).1 < n ∧ ((List.range i).foldl (nearS DB k) (0, 0)).2 ≤ 1000000 := fun i hi =>
    (near_lt DB k (by omega) i hi).resolve_right fun ⟨d, hd⟩ => by have := hlens d; omega
  have hkD : k < DB.length := by omega
  have hrow : (DB.getD k []) = DB[k] := getD_of hkD
  have hrl := hD2 k hkD
  have key : ∀ d i, n - i = d → i ≤ n → S cx 20 (H20_3 os (f.map (eB false)) (DB.map fun r => rT false r) rk (kdT kd) (k : Int) (((List.range i).foldl (nearS DB k) (0, 0)).1 : Int) (((List.range i).foldl (nearS DB k) (0, 0)).2 : Int) (j : Int) (n : Int) (i : Int)) = some r := by
    intro d
    induction d with
    | zero =>
      intro i hd hi
      obtain rfl : i = n := by omega
      obtain ⟨hn1, _⟩ := hnear i (Nat.le_refl _)
      have hnb : nearV i DB k < kd.length := by rw [hkd]; exact hn1
      have hkr : (kd.getD (nearV i DB k) []) = kd[nearV i DB k] := getD_of hnb
      have hlr := hk1 _ (List.getElem_mem hnb)
      refine eH20_3 (bif_neg (dF (by omega)) (ck_pos (dT2 (by rw [len_nn]; omega)) ?_))
      have fin : S cx 20 (NH20_3_s2 os (f.map (eB false)) (DB.map fun r => rT false r) rk (kdT kd) (k : Int) ((nearV i DB k : Nat) : Int) (j : Int)) = some r := by
        unfold NH20_3_s2
        rw [nn_at hnb, S_slO]
        refine ck_pos (lim8 (by rw [len_n]; simp only [List.length_cons, List.length_nil]; omega)) (ck_pos (dT2 (by rw [List.length_set, len_nn]; omega)) (back_of ?_))
        rw [inc64 (n := 1001) (by omega) (by omega), app_n, set_nn]
        rw [kidS, hkr] at h
        exact h
      show S cx 20 (.slO ⟨1, false⟩ ((kdT kd).getD (0 + ((nearV i DB k : Nat) : Int).toNat) (.dead ())) _) = some r
      rw [nn_at hnb, S_slO]
      exact S_amb2 fin (S_amb2 fin fin)
    | succ d ih =>
      intro i hd hi
      have hin : i < n := by omega
      have hiD : i < DB.length := by omega
      have hiR : i < DB[k].length := by omega
      have hnext := ih (i + 1) (by omega) (by omega)
      obtain ⟨_, hm1⟩ := hnear i hi
      rw [List.range_succ, List.foldl_append, List.foldl_cons, List.foldl_nil] at hnext
      generalize ((List.range i).foldl (nearS DB k) (0, 0)) = s at hnext hm1 ⊢
      have hi2 : DB.getD i [] = DB[i] := getD_of hiD
      have hlx : lens DB i = (trues DB[i]).length := by unfold lens; rw [hi2]
      have hgx : DB[k].getD i false = DB[k][i] := getD_of hiR
      rw [nearS, hrow, hgx, hlx] at hnext
      refine eH20_3 (bif_pos (dT (by omega)) ?_)
      rw [bb_at hkD, S_slB]
      show S cx 20 (NH20_3_s1 _ _ _ _ _ _ _ _ _ _ _ _) = some r
      unfold NH20_3_s1
      refine ck_pos (dT2 (by rw [len_b]; omega)) ?_
      rw [bb_at hkD, S_slB]
      show S cx 20 (NH20_3_s0 _ _ _ _ _ _ _ _ _ _ _ _) = some r
      unfold NH20_3_s0
      rw [b_at hiR, S_bool]
      refine ck_pos (dT2 (by rw [len_bb]; omega)) ?_
      rw [bb_at hiD, S_slO, S_slO, C45_S (t45x DB[i] (by rw [hD2 i hiD]; omega))]
      have hinc : w64 ((i : Int) + 1) = ((i + 1 : Nat) : Int) := inc64 hin (by omega)
      cases hv : DB[k][i] with
      | false =>
        rw [if_neg (fun h => by rw [hv] at h; exact absurd h.1 (by simp))] at hnext
        refine bif_neg rfl (back_of ?_)
        rw [hinc]; exact hnext
      | true =>
        refine bif_pos rfl ?_
        by_cases c : i = k
        · rw [if_neg (fun h => h.2.1 c)] at hnext
          refine bif_neg (by simp [c]) (back_of ?_)
          rw [hinc]; exact hnext
        · refine bif_pos (by simp; omega) ?_
          by_cases c2 : (trues DB[i]).length > s.2
          · rw [if_pos ⟨hv, c, c2⟩] at hnext
            refine bif_pos (dT (by rw [len_n]; omega)) (back_of ?_)
            rw [hinc, len_n]; exact hnext
          · rw [if_neg (fun h => c2 h.2.2)] at hnext
            refine bif_neg (dF (by rw [len_n]; omega)) (back_of ?_)
            rw [hinc]; exact hnext
  exact key n 0 rfl (Nat.zero_le _)
end Go.Tree.Q

/- The structurer, made; IsMerge, both ways. -/
namespace Go.Tree.Q
open Go.Proofs
open Go.Tree.O (visV ordL)
set_option linter.unusedVariables false
set_option linter.unusedSimpArgs false
theorem kidS_len {n : Nat} {DB : List (List Bool)} {kd : List (List Nat)} {k : Nat} : (kidS n DB kd k).length = kd.length := List.length_set
theorem kidS_rows {n : Nat} {DB : List (List Bool)} {kd : List (List Nat)} {k B : Nat} (h : ∀ r ∈ kd, r.length ≤ B) : ∀ r ∈ kidS n DB kd k, r.length ≤ B + 1 := fun r hr => by
  rcases List.mem_or_eq_of_mem_set hr with h1 | rfl
  · have := h r h1; omega
  · rw [List.length_append, List.length_singleton]
    have : (kd.getD (nearV n DB k) []).length ≤ B := by
      by_cases c : nearV n DB k < kd.length
      · rw [getD_of c]; exact h _ (List.getElem_mem c)
      · rw [List.getD_eq_getElem?_getD, List.getElem?_eq_none (by omega)]; exact Nat.zero_le _
    omega
theorem n_at1 {ts : List Nat} {j : Nat} (h : j + 1 < ts.length) : ((nI ts).map i64).getD (1 + ((j : Nat) : Int).toNat) (.dead ()) = i64 ((ts[j + 1] : Nat) : Int) := by
  rw [show 1 + ((j : Nat) : Int).toNat = 0 + ((j + 1 : Nat) : Int).toNat by omega]
  exact n_at h
/-- The children, by nearest dominators, in the given order. -/
def kidsV (n : Nat) (DB : List (List Bool)) (o : List Nat) : List (List Nat) := (o.drop 1).foldl (kidS n DB) (List.replicate n [])
theorem go22 {f : List Bk} {n : Nat} (hn : f.length = n) (h12 : n ≤ 12) {DB : List (List Bool)} (hD : DB.length = n) (hD2 : ∀ (b : Nat) (hb : b < DB.length), DB[b].length = n) {o : List Nat} (ho : ∀ x ∈ o, x < n) (ho0 : 0 < o.length) (ho1 : o.length ≤ n) :
    ∃ rk, S cx 20 (G20_0 ((nI o).map i64) (f.map (eB false)) (DB.map fun r => rT false r)) = some ([.pt false () (.st (stT f DB rk (kdT (kidsV n DB o))))], []) := by
  have e1 : (f.map (eB false)).length = n := by rw [List.length_map, hn]
  have kids : ∀ (rk : List TV) d j (kd : List (List Nat)), o.length - 1 - j = d → j ≤ o.length - 1 → kd.length = n → (∀ r ∈ kd, r.length ≤ j) →
      S cx 20 (H20_2 ((nI o).map i64) (f.map (eB false)) (DB.map fun r => rT false r) rk (kdT kd) (j : Int)) = some ([.pt false () (.st (stT f DB rk (kdT ((o.drop (j + 1)).foldl (kidS n DB) kd))))], []) := by
    intro rk d
    induction d with
    | zero =>
      intro j kd hd hj hl hr
      rw [List.drop_of_length_le (by omega)]
      exact eH20_2 (bif_neg (dF (by rw [len_n]; omega)) rfl)
    | succ d ih =>
      intro j kd hd hj hl hr
      have hjo : j + 1 < o.length := by omega
      have hk := ho _ (List.getElem_mem hjo)
      have hkD : o[j + 1] < DB.length := by omega
      have hdr : o.drop (j + 1) = o[j + 1] :: o.drop (j + 1 + 1) := List.drop_eq_getElem_cons hjo
      have hnx := ih (j + 1) (kidS n DB kd o[j + 1]) (by omega) (by omega) (by rw [kidS_len]; exact hl) (kidS_rows hr)
      refine eH20_2 (bif_pos (dT (by rw [len_n]; omega)) (ck_pos (dT2 (by rw [len_n]; omega)) ?_))
      rw [n_at1 hjo, S_int]
      refine ck_pos (dT2 (by rw [len_bb]; omega)) ?_
      rw [bb_at hkD, S_slO, S_slB]
      show S cx 20 (H20_3 _ _ _ _ _ _ _ _ _ _ _) = _
      rw [len_b, hD2 _ hkD, hdr, List.foldl_cons]
      exact near_loop h12 hD hD2 hl (fun r hr' => by have := hr r hr'; omega) hk (by omega) hnx
  have rank : ∀ d j (rk : List TV), o.length - j = d → j ≤ o.length → rk.length = n →
      ∃ rk', ∀ r, S cx 20 (H20_2 ((nI o).map i64) (f.map (eB false)) (DB.map fun r => rT false r) rk' (List.replicate n (sl false ⟨1, false⟩ [])) 0) = some r → S cx 20 (H20_1 ((nI o).map i64) (f.map (eB false)) (DB.map fun r => rT false r) rk (j : Int)) = some r := by
    intro d
    induction d with
    | zero =>
      intro j rk hd hj hl
      refine ⟨rk, fun r h => eH20_1 (bif_neg (dF (by rw [len_n]; omega)) (ck_pos (dT2 (by rw [len_n]; omega)) ?_))⟩
      rw [e1, Int.toNat_natCast]; exact h
    | succ d ih =>
      intro j rk hd hj hl
      have hjo : j < o.length := by omega
      have hk := ho _ (List.getElem_mem hjo)
      obtain ⟨rk', h'⟩ := ih (j + 1) (rk.set (0 + ((o[j] : Nat) : Int).toNat) (i64 (j : Int))) (by omega) (by omega) (by rw [List.length_set]; exact hl)
      refine ⟨rk', fun r h => eH20_1 (bif_pos (dT (by rw [len_n]; omega)) (ck_pos (dT2 (by rw [len_n]; omega)) ?_))⟩
      rw [n_at hjo, S_int]
      refine ck_pos (dT2 (by rw [hl]; omega)) (back_of ?_)
      rw [inc64 hjo (by omega)]
      exact h' r h
  obtain ⟨rk, h⟩ := rank _ 0 (List.replicate n (i64 0)) rfl (Nat.zero_le _) (by simp)
  refine ⟨rk, eG20_0 ?_⟩
  unfold NG20_0
  rw [e1, Int.toNat_natCast]
  refine h _ ?_
  have hr0 : (List.replicate n (sl false ⟨1, false⟩ []) : List TV) = kdT (List.replicate n ([] : List Nat)) := by simp
  rw [hr0]
  exact kids rk _ 0 _ rfl (Nat.zero_le _) (by simp) (fun r hr => by rw [(List.mem_replicate.1 hr).2]; exact Nat.zero_le _)
theorem mk8 {n : Nat} (h : n ≤ 12) : (decide ((0 : Int) ≤ (n : Int)) && decide ((n : Int) ≤ (n : Int)) && decide ((n : Int) * 8 < (lim : Int)) && decide ((n : Int) < 9223372036854775807) && true && true) = true := mk_ok (B := 8) (by omega) (by omega)
open Classical in
theorem t20 {f : List Bk} (hf : flowP f) (hs : smallF f) (hc : canP f) : ∃ (DB : List (List Bool)) (rk : List TV) (G : List (List Nat)),
    tw cx 20 [rB true false f] = some ([.pt false () (.st (stT f DB rk (kdT (kidsV f.length DB (ordL G)))))], []) ∧ (∀ l ∈ G, Up l) ∧ Gr f.length G ∧ Alike (N0 f) G ∧ DB.length = f.length ∧ ∀ (b : Nat) (hb : b < DB.length), DB[b].length = f.length ∧ ∀ k, DB[b][k]? = some true ↔ Dm G b k := by
  have h0 : 0 < f.length := hf.2.1
  have c12 := hc.1
  have e1 : (f.map (eB false)).length = f.length := List.length_map _
  have hg := gr_flow hf c12
  obtain ⟨next, k1, hr⟩ := t42 hf c12 false
  obtain ⟨out, G, g1, g2, g3, g4, gU⟩ := t41s hg hr
  have hal : Alike (N0 f) G := ⟨by rw [g3.1, hg.1], g4⟩
  obtain ⟨DB, d1, d2, d3⟩ := t44 g3 h0 g2
  obtain ⟨o1, o2, o3⟩ := ordL_ok g3 h0
  obtain ⟨rk, g⟩ := go22 (f := f) rfl c12 d2 (fun b hb => (d3 b hb).1) o1 o2 o3
  refine ⟨DB, rk, G, ?_, gU, g3, hal, d2, d3⟩
  generalize (([.pt false () (.st (stT f DB rk (kdT (kidsV f.length DB (ordL G)))))], []) : Res) = X at g ⊢
  have m8 : (decide ((0 : Int) ≤ (((f.map (eB false)).length : Nat) : Int)) && decide ((((f.map (eB false)).length : Nat) : Int) ≤ (((f.map (eB false)).length : Nat) : Int)) && decide ((((f.map (eB false)).length : Nat) : Int) * 8 < (lim : Int)) && decide ((((f.map (eB false)).length : Nat) : Int) < 9223372036854775807) && true && true) = true := by rw [e1]; exact mk8 c12
  have m24 : (decide ((0 : Int) ≤ (((f.map (eB false)).length : Nat) : Int)) && decide ((((f.map (eB false)).length : Nat) : Int) ≤ (((f.map (eB false)).length : Nat) : Int)) && decide ((((f.map (eB false)).length : Nat) : Int) * 24 < (lim : Int)) && decide ((((f.map (eB false)).length : Nat) : Int) < 9223372036854775807) && true && true) = true := by rw [e1]; exact mk24 c12
  refine e20 ?_
  rw [N20, C39_S (t39 f hs)]
  refine bif_neg (by rw [dT hf]; rfl) ?_
  rw [C40_S (t40 hf hs)]
  refine bif_neg (by rw [dT hc]; rfl) ?_
  rw [C42_S k1, C41_S g1, C43_S (t43 g3 h0 g2)]
  have db := deep_bb DB
  have a0 : S cx 20 (N20_s0 (f.map (eB false)) out ((nI (ordL G)).map i64)) = some X := by
    unfold N20_s0
    rw [C44_S d1]
    exact ck_pos db g
  have a1 : S cx 20 (N20_s1 (f.map (eB false)) out ((nI (ordL G)).map i64)) = some X := ck_pos m24 a0
  have a2 : S cx 20 (N20_s2 (f.map (eB false)) out ((nI (ordL G)).map i64)) = some X := S_amb2 (by rw [C44_S d1]; exact ck_pos db (ck_pos m24 g)) a1
  have a3 : S cx 20 (N20_s3 (f.map (eB false)) out ((nI (ordL G)).map i64)) = some X := ck_pos m8 a0
  have a4 : S cx 20 (N20_s4 (f.map (eB false)) out ((nI (ordL G)).map i64)) = some X := S_amb2 (by rw [C44_S d1]; exact ck_pos db (ck_pos m8 g)) a3
  exact S_amb3 (S_amb3 (by rw [C44_S d1]; exact ck_pos db (S_amb2 (ck_pos m8 (ck_pos m24 g)) (ck_pos m24 (ck_pos m8 g)))) (ck_pos m8 a2) (ck_pos m24 a4)) (ck_pos m8 (S_amb2 a2 a1)) (ck_pos m24 (S_amb2 a4 a3))
open Classical in
theorem t20n {f : List Bk} (hs : smallF f) (hc : ¬ (flowP f ∧ canP f)) : tw cx 20 [rB true false f] = some ([tnil], []) := by
  refine e20 ?_
  rw [N20, C39_S (t39 f hs)]
  by_cases hf : flowP f
  · refine bif_neg (by rw [dT hf]; rfl) ?_
    rw [C40_S (t40 hf hs)]
    exact bif_pos (by rw [dF (p := canP f) (fun h => hc ⟨hf, h⟩)]; rfl) rfl
  · exact bif_pos (by rw [dF hf]; rfl) rfl
end Go.Tree.Q

/- Dominators lie in a chain; the nearest, both ways. -/
namespace Go.Tree.Q
open Go.Proofs Go.Tree.Cg
set_option linter.unusedVariables false
set_option linter.unusedSimpArgs false
theorem avoid {N : List (List Nat)} {A B : List Nat} (h : ∀ x, x ∈ B → x ∈ A) {a b : Nat} (s : Star (Ed N A) a b) : Star (Ed N B) a b :=
  s.mono fun x y ⟨h1, h2, h3⟩ => ⟨h1, h2, fun hb => h3 (h _ hb)⟩
/-- d dominates k. -/
theorem Dm.not {N : List (List Nat)} {b k : Nat} (h : Dm N b k) (h0 : 0 ≠ k) (s : Star (Ed N [k]) 0 b) : False := h.2.2 ⟨by simpa using h0, s⟩
theorem dm_of {N : List (List Nat)} {b k : Nat} (h1 : Star (Ed N []) 0 k) (h2 : Star (Ed N []) 0 b) (h : ¬ Dm N b k) : 0 ≠ k ∧ Star (Ed N [k]) 0 b := by
  refine Classical.byContradiction fun hn => h ⟨h1, h2, fun ⟨h3, h4⟩ => hn ⟨by simpa using h3, h4⟩⟩
theorem Dm.self {N : List (List Nat)} {b : Nat} (h : Star (Ed N []) 0 b) : Dm N b b := ⟨h, h, fun ⟨h1, h2⟩ => by
  have hne : (0 : Nat) ≠ b := by simpa using h1
  cases h2 with
  | refl => exact hne rfl
  | tail _ e => exact e.2.2 (by simp)⟩
theorem star_in {N : List (List Nat)} {A : List Nat} {a b : Nat} (s : Star (Ed N A) a b) : a = b ∨ b ∉ A := by
  cases s with
  | refl => exact .inl rfl
  | tail _ e => exact .inr e.2.2
theorem Dm.trans {N : List (List Nat)} {b d e : Nat} (h1 : Dm N b d) (h2 : Dm N d e) : Dm N b e := by
  refine Classical.byContradiction fun hn => ?_
  obtain ⟨h0, s⟩ := dm_of h2.1 h1.2.1 hn
  by_cases hd : 0 = d
  · subst hd
    exact h2.not h0 (.refl 0)
  · have key : ∀ c, Star (Ed N [e]) 0 c → Star (Ed N [d]) 0 c ∨ Star (Ed N [e]) 0 d := fun c sc => by
      induction sc with
      | refl => exact .inl (.refl 0)
      | @tail x y s1 ed ih =>
        rcases ih with ih | ih
        · by_cases c : y = d
          · subst c
            exact .inr (.tail s1 ed)
          · exact .inl (.tail ih ⟨ed.1, ed.2.1, by simpa using c⟩)
        · exact .inr ih
    rcases key b s with h | h
    · exact h1.not hd h
    · exact h2.not h0 h
theorem Dm.chain {N : List (List Nat)} {k d e : Nat} (h1 : Dm N k d) (h2 : Dm N k e) : Dm N d e ∨ Dm N e d := by
  refine Classical.byContradiction fun hn => ?_
  have hn1 : ¬ Dm N d e := fun h => hn (.inl h)
  have hn2 : ¬ Dm N e d := fun h => hn (.inr h)
  obtain ⟨e0, s1⟩ := dm_of h2.1 h1.1 hn1
  obtain ⟨d0, s2⟩ := dm_of h1.1 h2.1 hn2
  have key : ∀ c, Star (Ed N []) 0 c → Star (Ed N [e]) 0 c ∨ Star (Ed N [d]) 0 c := fun c sc => by
    induction sc with
    | refl => exact .inl (.refl 0)
    | @tail x y _ ed ih =>
      rcases ih with ih | ih
      · by_cases c : y = e
        · subst c; exact .inr s2
        · exact .inl (.tail ih ⟨ed.1, ed.2.1, by simpa using c⟩)
      · by_cases c : y = d
        · subst c; exact .inl s1
        · exact .inr (.tail ih ⟨ed.1, ed.2.1, by simpa using c⟩)
  rcases key k h1.2.1 with h | h
  · exact h2.not e0 h
  · exact h1.not d0 h
theorem Dm.anti {N : List (List Nat)} {d e : Nat} (h1 : Dm N d e) (h2 : Dm N e d) : d = e := by
  refine Classical.byContradiction fun hne => ?_
  by_cases e0 : 0 = e
  · subst e0
    exact h2.not (fun h => hne h.symm) (.refl 0)
  by_cases d0 : 0 = d
  · subst d0
    exact h1.not e0 (.refl 0)
  have key : ∀ c, Star (Ed N []) 0 c → Star (Ed N [d, e]) 0 c ∨ Star (Ed N [e]) 0 d ∨ Star (Ed N [d]) 0 e := fun c sc => by
    induction sc with
    | refl => exact .inl (.refl 0)
    | @tail x y _ ed ih =>
      rcases ih with ih | ih
      · by_cases c : y = d
        · subst c
          exact .inr (.inl (.tail (avoid (by simp) ih) ⟨ed.1, ed.2.1, by simpa using hne⟩))
        · by_cases c2 : y = e
          · subst c2
            exact .inr (.inr (.tail (avoid (by simp) ih) ⟨ed.1, ed.2.1, by simpa using c⟩))
          · exact .inl (.tail ih ⟨ed.1, ed.2.1, by simp [c, c2]⟩)
      · exact .inr ih
  rcases key d h1.2.1 with h | h | h
  · rcases star_in h with h | h
    · exact d0 h
    · exact h (by simp)
  · exact h1.not e0 h
  · exact h2.not d0 h
/-- What dominates, as it stands in a table. -/
structure Tab (n : Nat) (N : List (List Nat)) (DB : List (List Bool)) : Prop where
  len : DB.length = n
  row : ∀ (b : Nat) (hb : b < DB.length), DB[b].length = n ∧ ∀ k, DB[b][k]? = some true ↔ Dm N b k
theorem Tab.at_ {n : Nat} {N : List (List Nat)} {DB : List (List Bool)} (h : Tab n N DB) {b k : Nat} (hb : b < n) : (DB.getD b []).getD k false = true ↔ Dm N b k := by
  have hb' : b < DB.length := by rw [h.len]; exact hb
  rw [getD_of hb']
  rw [← (h.row b hb').2 k, List.getD_eq_getElem?_getD]
  cases DB[b][k]? with
  | none => simp
  | some v => simp
theorem Tab.trues {n : Nat} {N : List (List Nat)} {DB : List (List Bool)} (h : Tab n N DB) {b k : Nat} (hb : b < n) : k ∈ trues (DB.getD b []) ↔ k < n ∧ Dm N b k := by
  have hb' : b < DB.length := by rw [h.len]; exact hb
  unfold Q.trues
  rw [List.mem_filter, List.mem_range, h.at_ hb, getD_of hb', (h.row b hb').1]
theorem trues_nd (bs : List Bool) : (trues bs).Nodup := (List.nodup_range).filter _
theorem sub_lt {l l' : List Nat} (hl : l.Nodup) (hs : ∀ x ∈ l, x ∈ l') {y : Nat} (hy : y ∈ l') (hn : y ∉ l) : l.length < l'.length := by
  have h1 : (y :: l).Nodup := List.nodup_cons.2 ⟨hn, hl⟩
  have h2 : (y :: l).length ≤ l'.length := by
    have : ∀ (m m' : List Nat), m.Nodup → (∀ x ∈ m, x ∈ m') → m.length ≤ m'.length := by
      intro m
      induction m with
      | nil => intro m' _ _; exact Nat.zero_le _
      | cons a m ih =>
        intro m' hd hs
        have ha := hs a List.mem_cons_self
        have := ih (m'.erase a) (List.nodup_cons.1 hd).2 fun x hx => (List.mem_erase_of_ne (by rintro rfl; exact (List.nodup_cons.1 hd).1 hx)).2 (hs x (List.mem_cons_of_mem _ hx))
        rw [List.length_erase_of_mem ha] at this
        have := List.length_pos_of_mem ha
        rw [List.length_cons]; omega
    exact this _ _ h1 fun x hx => (List.mem_cons.1 hx).elim (fun e => e ▸ hy) (hs x)
  rw [List.length_cons] at h2; omega
theorem Tab.lens_lt {n : Nat} {N : List (List Nat)} {DB : List (List Bool)} (h : Tab n N DB) {k d : Nat} (hk : k < n) (hd : d < n) (hkd : Dm N k d) (hne : d ≠ k) : lens DB d < lens DB k := by
  refine sub_lt (trues_nd _) (fun x hx => ?_) (y := k) ((h.trues hk).2 ⟨hk, Dm.self hkd.2.1⟩) (fun hx => hne ?_)
  · obtain ⟨h1, h2⟩ := (h.trues hd).1 hx
    exact (h.trues hk).2 ⟨h1, hkd.trans h2⟩
  · exact (((h.trues hd).1 hx).2).anti hkd
/-- The nearest dominator. -/
def Near (N : List (List Nat)) (n k d : Nat) : Prop := d < n ∧ d ≠ k ∧ Dm N k d ∧ ∀ x, x < n → x ≠ k → Dm N k x → Dm N d x
theorem Near.uniq {N : List (List Nat)} {n k d e : Nat} (h1 : Near N n k d) (h2 : Near N n k e) : d = e :=
  (h1.2.2.2 e h2.1 h2.2.1 h2.2.2.1).anti (h2.2.2.2 d h1.1 h1.2.1 h1.2.2.1)
theorem near_fold {n : Nat} {N : List (List Nat)} {DB : List (List Bool)} (h : Tab n N DB) {k : Nat} (hk : k < n) : ∀ i, i ≤ n →
    let s := (List.range i).foldl (nearS DB k) (0, 0)
    (∀ d, d < i → d ≠ k → Dm N k d → lens DB d ≤ s.2) ∧ ((s = (0, 0)) ∨ (s.1 < n ∧ s.1 ≠ k ∧ Dm N k s.1 ∧ s.2 = lens DB s.1)) := by
  intro i
  induction i with
  | zero => intro _; exact ⟨fun d hd => absurd hd (Nat.not_lt_zero _), .inl rfl⟩
  | succ i ih =>
    intro hi
    have ih := ih (by omega)
    rw [List.range_succ, List.foldl_append, List.foldl_cons, List.foldl_nil]
    generalize (List.range i).foldl (nearS DB k) (0, 0) = s at ih
    obtain ⟨a, b⟩ := ih
    unfold nearS
    by_cases c : (DB.getD k []).getD i false = true ∧ i ≠ k ∧ lens DB i > s.2
    · rw [if_pos c]
      refine ⟨fun d hd hdk hdm => ?_, .inr ⟨hi, c.2.1, (h.at_ hk).1 c.1, rfl⟩⟩
      by_cases e : d = i
      · subst e; exact Nat.le_refl _
      · have := a d (by omega) hdk hdm
        have := c.2.2
        show _ ≤ lens DB i
        omega
    · rw [if_neg c]
      refine ⟨fun d hd hdk hdm => ?_, b⟩
      by_cases e : d = i
      · subst e
        refine Nat.le_of_not_lt fun hlt => c ⟨(h.at_ hk).2 hdm, hdk, hlt⟩
      · exact a d (by omega) hdk hdm
theorem Tab.near {n : Nat} {N : List (List Nat)} {DB : List (List Bool)} (h : Tab n N DB) {k : Nat} (hk : k < n) (hr : Star (Ed N []) 0 k) (h0 : k ≠ 0) : Near N n k (nearV n DB k) := by
  have hn0 : 0 < n := by omega
  obtain ⟨a, b⟩ := near_fold h hk n (Nat.le_refl _)
  unfold nearV
  generalize (List.range n).foldl (nearS DB k) (0, 0) = s at a b
  have d0 : Dm N k 0 := ⟨.refl 0, hr, fun hh => hh.1 (by simp)⟩
  have p0 : 0 < lens DB 0 := List.length_pos_of_mem ((h.trues hn0).2 ⟨hn0, Dm.self (.refl 0)⟩)
  have m0 := a 0 hn0 (fun h => h0 h.symm) d0
  rcases b with rfl | ⟨b1, b2, b3, b4⟩
  · have : lens DB 0 ≤ 0 := m0
    omega
  · refine ⟨b1, b2, b3, fun x hx hxk hxd => ?_⟩
    rcases b3.chain hxd with hc | hc
    · exact hc
    · by_cases e : s.1 = x
      · rw [← e] at hc ⊢; exact hc
      · have := h.lens_lt hx b1 hc e
        have := a x hx hxk hxd
        omega
end Go.Tree.Q

/- The order begins with the first node, and comes to it no more; the children, told by nearest dominators. -/
namespace Go.Tree.Q
open Go.Proofs Go.Tree.Cg
open Go.Tree.O (visV ordL)
set_option linter.unusedVariables false
set_option linter.unusedSimpArgs false
theorem visV_zero {N : List (List Nat)} : ∀ (m k : Nat) (bs : List Bool) (out : List Nat), k ≠ 0 → bs[0]? = some true → (visV N m k (bs, out)).1[0]? = some true ∧ ∀ x ∈ (visV N m k (bs, out)).2, x ∈ out ∨ x ≠ 0 := by
  intro m
  induction m with
  | zero => intro k bs out _ h; exact ⟨h, fun x hx => .inl hx⟩
  | succ m ih =>
    intro k bs out hk h0
    have key : ∀ (l : List Nat) (s : List Bool × List Nat), s.1[0]? = some true → (l.foldl (fun s x => if s.1.getD x false = true then s else visV N m x s) s).1[0]? = some true ∧ ∀ x ∈ (l.foldl (fun s x => if s.1.getD x false = true then s else visV N m x s) s).2, x ∈ s.2 ∨ x ≠ 0 := by
      intro l
      induction l with
      | nil => intro s h; exact ⟨h, fun x hx => .inl hx⟩
      | cons y l ihl =>
        intro s h
        rw [List.foldl_cons]
        by_cases c : s.1.getD y false = true
        · rw [if_pos c]; exact ihl s h
        · rw [if_neg c]
          have hy : y ≠ 0 := by
            rintro rfl
            rw [List.getD_eq_getElem?_getD, h] at c
            exact c rfl
          obtain ⟨a, b⟩ := ih y s.1 s.2 hy h
          obtain ⟨a2, b2⟩ := ihl _ a
          refine ⟨a2, fun x hx => ?_⟩
          rcases b2 x hx with h3 | h3
          · exact b x h3
          · exact .inr h3
    have h1 : (bs.set k true)[0]? = some true := by rw [List.getElem?_set, if_neg hk]; exact h0
    obtain ⟨a, b⟩ := key (N.getD k []) (bs.set k true, out) h1
    rw [visV]
    refine ⟨a, fun x hx => ?_⟩
    rcases List.mem_append.1 hx with hx | hx
    · exact b x hx
    · rw [List.mem_singleton.1 hx]; exact .inr hk
theorem ordL_head {n : Nat} {N : List (List Nat)} (hg : Gr n N) (h0 : 0 < n) : ∃ l, ordL N = 0 :: l ∧ ∀ x ∈ l, x ≠ 0 ∧ x < n := by
  have hN := hg.1
  obtain ⟨o1, _, _⟩ := ordL_ok hg h0
  obtain ⟨m, hm⟩ : ∃ m, N.length = m + 1 := ⟨N.length - 1, by omega⟩
  have key : ∀ (l : List Nat) (s : List Bool × List Nat), s.1[0]? = some true → (l.foldl (fun s x => if s.1.getD x false = true then s else visV N m x s) s).1[0]? = some true ∧ ∀ x ∈ (l.foldl (fun s x => if s.1.getD x false = true then s else visV N m x s) s).2, x ∈ s.2 ∨ x ≠ 0 := by
    intro l
    induction l with
    | nil => intro s h; exact ⟨h, fun x hx => .inl hx⟩
    | cons y l ihl =>
      intro s h
      rw [List.foldl_cons]
      by_cases c : s.1.getD y false = true
      · rw [if_pos c]; exact ihl s h
      · rw [if_neg c]
        have hy : y ≠ 0 := by
          rintro rfl
          rw [List.getD_eq_getElem?_getD, h] at c
          exact c rfl
        obtain ⟨a, b⟩ := visV_zero m y s.1 s.2 hy h
        obtain ⟨a2, b2⟩ := ihl _ a
        refine ⟨a2, fun x hx => ?_⟩
        rcases b2 x hx with h3 | h3
        · exact b x h3
        · exact .inr h3
  have h1 : ((List.replicate (m + 1) false).set 0 true)[0]? = some true := by simp
  obtain ⟨_, b⟩ := key (N.getD 0 []) ((List.replicate (m + 1) false).set 0 true, []) h1
  have e : ordL N = 0 :: ((N.getD 0 []).foldl (fun s x => if s.1.getD x false = true then s else visV N m x s) ((List.replicate (m + 1) false).set 0 true, [])).2.reverse := by
    rw [ordL, hm, visV, List.reverse_append]
    rfl
  refine ⟨_, e, fun x hx => ⟨?_, o1 x (by rw [e]; exact List.mem_cons_of_mem _ hx)⟩⟩
  rcases b x (List.mem_reverse.1 hx) with h3 | h3
  · cases h3
  · exact h3
theorem foldl_congr' {α β : Type} {f g : β → α → β} : ∀ (l : List α) (b : β), (∀ x ∈ l, ∀ c, f c x = g c x) → l.foldl f b = l.foldl g b
  | [], _, _ => rfl
  | x :: l, b, h => by
    rw [List.foldl_cons, List.foldl_cons, h x List.mem_cons_self]
    exact foldl_congr' l _ fun y hy => h y (List.mem_cons_of_mem _ hy)
end Go.Tree.Q

/- Marks, and what is held. -/
namespace Go.Tree.Q
open Go.Proofs
set_option linter.unusedVariables false
set_option linter.unusedSimpArgs false
/-- Numbers from one on. -/
def marksV (k : Int) (n : Nat) : List Int := (List.range n).map fun (i : Nat) => k + (i : Int)
theorem marksV_len (k : Int) (n : Nat) : (marksV k n).length = n := by simp [marksV]
theorem marksV_at {k : Int} {n j : Nat} (h : j < n) : (marksV k n)[j]? = some (k + (j : Int)) := by
  simp [marksV, h]
theorem t25 (k : Int) (n : Nat) (hk : 0 ≤ k ∧ k ≤ 1152921504606846976) (hn : n ≤ big) : tw cx 25 [rI true (marksV k n), i64 k] = some ([i64 (k + n)], []) := by
  have hb : n ≤ 1073741824 := hn
  have e1 : ((marksV k n).map i64).length = n := by rw [List.length_map, marksV_len]
  have key : ∀ d j : Nat, n - j = d → j ≤ n → S cx 25 (H25_0 ((marksV k n).map i64) (k + j) j) = some ([i64 (k + n)], []) := by
    intro d
    induction d with
    | zero =>
      intro j hd hj
      have : j = n := by omega
      subst this
      exact eH25_0 (bif_neg (dF (by omega)) rfl)
    | succ d ih =>
      intro j hd hj
      refine eH25_0 (bif_pos (dT (by omega)) (ck_pos (dT2 (by omega)) ?_))
      rw [getD_at (marksV_at (show j < n by omega)), S_int]
      refine bif_neg (by simp) (back_of ?_)
      rw [inc64 (n := n) (by omega) hb, w64_id (by omega) (by omega), show k + (j : Int) + 1 = k + ((j + 1 : Nat) : Int) by omega]
      exact ih (j + 1) (by omega) (by omega)
  refine e25 ?_
  have := key n 0 (by omega) (by omega)
  simpa [N25] using this
theorem t24 (xs : List Int) (k : Int) (hk : 0 ≤ k ∧ k ≤ 1152921504606846976) (hl : xs.length ≤ big) : tw cx 24 [rI false xs, i64 k] = some ([i64 (k + xs.length)], [rI false (marksV k xs.length)]) := by
  have hb : xs.length ≤ 1073741824 := hl
  have key : ∀ d j : Nat, xs.length - j = d → j ≤ xs.length → S cx 24 (H24_0 (k + j) j (((marksV k j) ++ xs.drop j).map i64)) = some ([i64 (k + xs.length)], [rI false (marksV k xs.length)]) := by
    intro d
    induction d with
    | zero =>
      intro j hd hj
      have : j = xs.length := by omega
      subst this
      rw [List.drop_length, List.append_nil]
      exact eH24_0 (bif_neg (dF (by rw [List.length_map, marksV_len]; omega)) rfl)
    | succ d ih =>
      intro j hd hj
      have e1 : (((marksV k j) ++ xs.drop j).map i64).length = xs.length := by
        rw [List.length_map, List.length_append, marksV_len, List.length_drop]; omega
      refine eH24_0 (bif_pos (dT (by omega)) (ck_pos (dT2 (by omega)) (back_of ?_)))
      rw [inc64 (n := xs.length) (by omega) hb, w64_id (by omega) (by omega), set_i]
      have e2 : ((marksV k j) ++ xs.drop j).set j (k + j) = marksV k (j + 1) ++ xs.drop (j + 1) := by
        obtain ⟨x, hx⟩ := at_some (show j < xs.length by omega)
        rw [List.set_append_right _ _ (by rw [marksV_len]; exact Nat.le_refl _), marksV_len, Nat.sub_self, drop_at hx, List.set_cons_zero]
        simp [marksV, List.range_succ]
      rw [e2, show k + (j : Int) + 1 = k + ((j + 1 : Nat) : Int) by omega]
      exact ih (j + 1) (by omega) (by omega)
  refine e24 ?_
  have := key xs.length 0 (by omega) (by omega)
  simpa [N24, marksV] using this
theorem set_T {xs : List F} {j : Nat} {x : F} : (xs.map eF).set (0 + ((j : Nat) : Int).toNat) (.st [i64 x.op, i64 x.fdo, i64 x.dst, i64 x.a, i64 x.b, i64 x.n]) = (xs.set j x).map eF := by
  rw [zN]; exact set_map'
set_option maxRecDepth 20000 in
set_option maxHeartbeats 2000000 in
theorem t23 (xs : List F) (k : Int) (hk : 0 ≤ k ∧ k ≤ 1152921504606846976) (hl : xs.length ≤ big) : ∃ ys : List F, tw cx 23 [rF false xs, i64 k] = some ([i64 (k + 6 * xs.length)], [rF false ys]) := by
  have hb : xs.length ≤ 1073741824 := hl
  have key : ∀ d j : Nat, xs.length - j = d → j ≤ xs.length → ∀ zs : List F, zs.length = xs.length → ∃ ys : List F, S cx 23 (H23_0 (k + 6 * j) j (zs.map eF)) = some ([i64 (k + 6 * xs.length)], [rF false ys]) := by
    intro d
    induction d with
    | zero =>
      intro j hd hj zs hz
      have : j = xs.length := by omega
      subst this
      exact ⟨zs, eH23_0 (bif_neg (dF (by rw [List.length_map]; omega)) rfl)⟩
    | succ d ih =>
      intro j hd hj zs hz
      obtain ⟨x, hx⟩ := at_some (show j < zs.length by omega)
      have w1 : w64 (k + 6 * j + 1) = k + 6 * j + 1 := w64_id (by omega) (by omega)
      have w2 : w64 (k + 6 * j + 1 + 1) = k + 6 * j + 1 + 1 := w64_id (by omega) (by omega)
      have w3 : w64 (k + 6 * j + 1 + 1 + 1) = k + 6 * j + 1 + 1 + 1 := w64_id (by omega) (by omega)
      have w4 : w64 (k + 6 * j + 1 + 1 + 1 + 1) = k + 6 * j + 1 + 1 + 1 + 1 := w64_id (by omega) (by omega)
      have w5 : w64 (k + 6 * j + 1 + 1 + 1 + 1 + 1) = k + 6 * j + 1 + 1 + 1 + 1 + 1 := w64_id (by omega) (by omega)
      have w6 : w64 (k + 6 * j + 1 + 1 + 1 + 1 + 1 + 1) = k + 6 * j + 1 + 1 + 1 + 1 + 1 + 1 := w64_id (by omega) (by omega)
      have nx : ∀ {ws : List F} {y z : F} (hws : ws[j]? = some y), (ws.set j z)[j]? = some z := fun {ws y z} hws => by
        rw [List.getElem?_set_self (lt_of_at hws)]
      have s1 := nx (z := ⟨k + 6 * j, x.fdo, x.dst, x.a, x.b, x.n⟩) hx
      have s2 := nx (z := ⟨k + 6 * j, k + 6 * j + 1, x.dst, x.a, x.b, x.n⟩) s1
      have s3 := nx (z := ⟨k + 6 * j, k + 6 * j + 1, k + 6 * j + 1 + 1, x.a, x.b, x.n⟩) s2
      have s4 := nx (z := ⟨k + 6 * j, k + 6 * j + 1, k + 6 * j + 1 + 1, k + 6 * j + 1 + 1 + 1, x.b, x.n⟩) s3
      have s5 := nx (z := ⟨k + 6 * j, k + 6 * j + 1, k + 6 * j + 1 + 1, k + 6 * j + 1 + 1 + 1, k + 6 * j + 1 + 1 + 1 + 1, x.n⟩) s4
      obtain ⟨ys, hy⟩ := ih (j + 1) (by omega) (by omega) (((((((zs.set j ⟨k + 6 * j, x.fdo, x.dst, x.a, x.b, x.n⟩).set j ⟨k + 6 * j, k + 6 * j + 1, x.dst, x.a, x.b, x.n⟩).set j ⟨k + 6 * j, k + 6 * j + 1, k + 6 * j + 1 + 1, x.a, x.b, x.n⟩).set j ⟨k + 6 * j, k + 6 * j + 1, k + 6 * j + 1 + 1, k + 6 * j + 1 + 1 + 1, x.b, x.n⟩).set j ⟨k + 6 * j, k + 6 * j + 1, k + 6 * j + 1 + 1, k + 6 * j + 1 + 1 + 1, k + 6 * j + 1 + 1 + 1 + 1, x.n⟩)).set j ⟨k + 6 * j, k + 6 * j + 1, k + 6 * j + 1 + 1, k + 6 * j + 1 + 1 + 1, k + 6 * j + 1 + 1 + 1 + 1, k + 6 * j + 1 + 1 + 1 + 1 + 1⟩) (by simp [hz])
      refine ⟨ys, ?_⟩
      have hj1 : (j : Int) < (xs.length : Int) := by omega
      refine eH23_0 (bif_pos (dT (by rw [List.length_map]; omega)) (ck_pos (dT2 (by rw [List.length_map]; omega)) ?_))
      rw [getD_at hx, V6_S]
      simp only [w1, w2, w3, w4, w5, w6]
      have c1 := set_T (xs := zs) (j := j) (x := ⟨k + 6 * j, x.fdo, x.dst, x.a, x.b, x.n⟩)
      simp only at c1
      rw [c1]
      refine ck_pos (dT2 (by simp [hz]; omega)) ?_
      rw [getD_at s1, V6_S]
      have c2 := set_T (xs := zs.set j ⟨k + 6 * j, x.fdo, x.dst, x.a, x.b, x.n⟩) (j := j) (x := ⟨k + 6 * j, k + 6 * j + 1, x.dst, x.a, x.b, x.n⟩)
      simp only at c2 ⊢
      rw [c2]
      refine ck_pos (dT2 (by simp [hz]; omega)) ?_
      rw [getD_at s2, V6_S]
      have c3 := set_T (xs := (zs.set j ⟨k + 6 * j, x.fdo, x.dst, x.a, x.b, x.n⟩).set j ⟨k + 6 * j, k + 6 * j + 1, x.dst, x.a, x.b, x.n⟩) (j := j) (x := ⟨k + 6 * j, k + 6 * j + 1, k + 6 * j + 1 + 1, x.a, x.b, x.n⟩)
      simp only at c3 ⊢
      rw [c3]
      refine ck_pos (dT2 (by simp [hz]; omega)) ?_
      rw [getD_at s3, V6_S]
      have c4 := set_T (xs := ((zs.set j ⟨k + 6 * j, x.fdo, x.dst, x.a, x.b, x.n⟩).set j ⟨k + 6 * j, k + 6 * j + 1, x.dst, x.a, x.b, x.n⟩).set j ⟨k + 6 * j, k + 6 * j + 1, k + 6 * j + 1 + 1, x.a, x.b, x.n⟩) (j := j) (x := ⟨k + 6 * j, k + 6 * j + 1, k + 6 * j + 1 + 1, k + 6 * j + 1 + 1 + 1, x.b, x.n⟩)
      simp only at c4 ⊢
      rw [c4]
      refine ck_pos (dT2 (by simp [hz]; omega)) ?_
      rw [getD_at s4, V6_S]
      have c5 := set_T (xs := (((zs.set j ⟨k + 6 * j, x.fdo, x.dst, x.a, x.b, x.n⟩).set j ⟨k + 6 * j, k + 6 * j + 1, x.dst, x.a, x.b, x.n⟩).set j ⟨k + 6 * j, k + 6 * j + 1, k + 6 * j + 1 + 1, x.a, x.b, x.n⟩).set j ⟨k + 6 * j, k + 6 * j + 1, k + 6 * j + 1 + 1, k + 6 * j + 1 + 1 + 1, x.b, x.n⟩) (j := j) (x := ⟨k + 6 * j, k + 6 * j + 1, k + 6 * j + 1 + 1, k + 6 * j + 1 + 1 + 1, k + 6 * j + 1 + 1 + 1 + 1, x.n⟩)
      simp only at c5 ⊢
      rw [c5]
      refine ck_pos (dT2 (by simp [hz]; omega)) ?_
      rw [getD_at s5, V6_S]
      have c6 := set_T (xs := ((((zs.set j ⟨k + 6 * j, x.fdo, x.dst, x.a, x.b, x.n⟩).set j ⟨k + 6 * j, k + 6 * j + 1, x.dst, x.a, x.b, x.n⟩).set j ⟨k + 6 * j, k + 6 * j + 1, k + 6 * j + 1 + 1, x.a, x.b, x.n⟩).set j ⟨k + 6 * j, k + 6 * j + 1, k + 6 * j + 1 + 1, k + 6 * j + 1 + 1 + 1, x.b, x.n⟩).set j ⟨k + 6 * j, k + 6 * j + 1, k + 6 * j + 1 + 1, k + 6 * j + 1 + 1 + 1, k + 6 * j + 1 + 1 + 1 + 1, x.n⟩) (j := j) (x := ⟨k + 6 * j, k + 6 * j + 1, k + 6 * j + 1 + 1, k + 6 * j + 1 + 1 + 1, k + 6 * j + 1 + 1 + 1 + 1, k + 6 * j + 1 + 1 + 1 + 1 + 1⟩)
      simp only at c6 ⊢
      rw [c6]
      refine back_of ?_
      rw [inc64 (n := xs.length) (by omega) hb, show k + 6 * (j : Int) + 1 + 1 + 1 + 1 + 1 + 1 = k + 6 * ((j + 1 : Nat) : Int) by omega]
      exact hy
  obtain ⟨ys, hy⟩ := key xs.length 0 (by omega) (by omega) xs rfl
  exact ⟨ys, e23 (by simpa [N23] using hy)⟩
theorem set_get {l : List TV} {j : Nat} {y : TV} (h : j < l.length) : (l.set (0 + ((j : Nat) : Int).toNat) y).getD (0 + ((j : Nat) : Int).toNat) (.dead ()) = y := by
  rw [zN, List.getD_eq_getElem?_getD, List.getElem?_set_self h]; rfl
theorem fk0 {a b c d : TV} : fieldOk cx.P 48 0 [a, b, c, d] = true := by kernel_rfl
theorem fk3 {p : Bool} {m : Ek} {a : List TV} {b c : Int} {t : TV} : fieldOk cx.P 48 3 [sl p m a, i64 b, i64 c, t] = true := by kernel_rfl
theorem set_B {xs : List Bk} {j : Nat} {x : Bk} : (xs.map (eB false)).set (0 + ((j : Nat) : Int).toNat) (eB false x) = (xs.set j x).map (eB false) := by
  rw [zN]; exact set_map'
set_option maxRecDepth 20000 in
set_option maxHeartbeats 2000000 in
theorem t10 (f : List Bk) (hf : f.length ≤ 1048576 ∧ ∀ b ∈ f, b.code.length ≤ 1048576 ∧ b.next.length ≤ 1048576) : ∃ (r : Int) (L : List TV), tw cx 10 [rB false false f, i64 1] = some ([i64 r], [sl false ⟨4, true⟩ L]) ∧ 0 ≤ r ∧ r ≤ 1152921504606846976 := by
  obtain ⟨hl, hb⟩ := hf
  have key : ∀ d j : Nat, f.length - j = d → j ≤ f.length → ∀ (k : Int) (ys zs : List Bk), ys ++ zs = ys ++ f.drop j → ys.length = j → 0 ≤ k → k ≤ 1 + j * 16777216 → ∃ (r : Int) (L : List TV), S cx 10 (H10_0 k j ((ys ++ zs).map (eB false))) = some ([i64 r], [sl false ⟨4, true⟩ L]) ∧ 0 ≤ r ∧ r ≤ 1152921504606846976 := by
    intro d
    induction d with
    | zero =>
      intro j hd hj k ys zs e hy h0 h1
      have hzs : zs = f.drop j := List.append_cancel_left e
      have hz : zs = [] := by rw [hzs]; exact List.drop_of_length_le (by omega)
      subst hz
      exact ⟨k, _, eH10_0 (bif_neg (dF (by rw [List.length_map, List.append_nil]; omega)) rfl), h0, by omega⟩
    | succ d ih =>
      intro j hd hj k ys zs e hy h0 h1
      have hzs : zs = f.drop j := List.append_cancel_left e
      obtain ⟨x, hx⟩ := at_some (show j < f.length by omega)
      have hx2 : (ys ++ zs)[j]? = some x := by
        rw [List.getElem?_append_right (by omega), hy, Nat.sub_self, hzs, List.getElem?_drop]; simpa using hx
      obtain ⟨c1, c2⟩ := hb x (List.mem_of_getElem? hx)
      have e1 : ((ys ++ zs).map (eB false)).length = f.length := by
        rw [List.length_map, List.length_append, hzs, List.length_drop]; omega
      obtain ⟨cs, hc⟩ := t23 x.code k ⟨h0, by omega⟩ (by show _ ≤ 1073741824; omega)
      have w1 : w64 (k + 6 * x.code.length + 1) = k + 6 * x.code.length + 1 := w64_id (by omega) (by omega)
      have w2 : w64 (k + 6 * x.code.length + 1 + 1) = k + 6 * x.code.length + 1 + 1 := w64_id (by omega) (by omega)
      have hn := t24 x.next (k + 6 * x.code.length + 1 + 1) ⟨by omega, by omega⟩ (by show _ ≤ 1073741824; omega)
      have hj1 : j < ((ys ++ zs).map (eB false)).length := by omega
      have hck : (decide ((0 : Int) ≤ (j : Int)) && decide ((j : Int) < (((ys ++ zs).map (eB false)).length : Int))) = true := dT2 (by omega)
      obtain ⟨r, L, g1, g2⟩ := ih (j + 1) (by omega) (by omega) (k + 6 * x.code.length + 1 + 1 + x.next.length) (ys ++ [⟨cs, k + 6 * x.code.length, k + 6 * x.code.length + 1, marksV (k + 6 * x.code.length + 1 + 1) x.next.length⟩]) (f.drop (j + 1)) rfl (by simp [hy]) (by omega) (by omega)
      refine ⟨r, L, ?_, g2⟩
      refine eH10_0 (bif_pos (dT (by omega)) (ck_pos hck ?_))
      rw [getD_at hx2, V4_1_S, V4_1_S, V4_1_S, S_call hc]
      rw [S_cons, S_int, S_nil, S_cons, S_slO, set_get hj1, S_st]
      refine ck_pos fk0 ?_
      refine ck_pos (by kernel_rfl) ?_
      rw [S_nil, List.set_set]
      have st0 : ∀ (a b c d t : TV), ([a, b, c, d] : List TV).set 0 t = [t, b, c, d] := fun _ _ _ _ _ => rfl
      have st3 : ∀ (a b c d t : TV), ([a, b, c, d] : List TV).set 3 t = [a, b, c, t] := fun _ _ _ _ _ => rfl
      have hs : ∀ (t : TV), ((((ys ++ zs).map (eB false)).set (0 + (j : Int).toNat) t).length : Int) = (((ys ++ zs).map (eB false)).length : Int) := fun t => by rw [List.length_set]
      rw [st0]
      refine ck_pos (by rw [hs]; exact hck) ?_
      rw [set_get hj1, V4_1_S, List.set_set]
      refine ck_pos (by rw [hs]; exact hck) ?_
      rw [set_get hj1, V4_1_S, List.set_set, w1]
      refine ck_pos (by rw [hs]; exact hck) ?_
      rw [set_get hj1, V4_1_S, V4_1_S, V4_1_S, w2, S_call hn, List.set_set]
      rw [S_cons, S_int, S_nil, S_cons, S_slO, set_get hj1, S_st]
      refine ck_pos fk3 ?_
      refine ck_pos (by kernel_rfl) ?_
      rw [S_nil, List.set_set, st3]
      refine back_of ?_
      rw [inc64 (n := f.length) (by omega) (by omega)]
      have e2 := set_B (xs := ys ++ zs) (j := j) (x := ⟨cs, k + 6 * x.code.length, k + 6 * x.code.length + 1, marksV (k + 6 * x.code.length + 1 + 1) x.next.length⟩)
      have e3 : (ys ++ zs).set j (⟨cs, k + 6 * x.code.length, k + 6 * x.code.length + 1, marksV (k + 6 * x.code.length + 1 + 1) x.next.length⟩ : Bk) = (ys ++ [⟨cs, k + 6 * x.code.length, k + 6 * x.code.length + 1, marksV (k + 6 * x.code.length + 1 + 1) x.next.length⟩]) ++ f.drop (j + 1) := by
        rw [List.set_append_right _ _ (by omega), hy, Nat.sub_self, hzs, drop_at hx, List.set_cons_zero, List.append_assoc]; rfl
      rw [e3] at e2
      rw [e2]
      exact g1
  obtain ⟨r, L, g1, g2⟩ := key f.length 0 (by omega) (by omega) 1 [] f rfl rfl (by omega) (by omega)
  exact ⟨r, L, e10 (by simpa [N10] using g1), g2⟩
end Go.Tree.Q

/- The reference's order and children; the law of DomTree. -/
namespace Go.Tree.Q
open Go.Proofs Go.Tree.Cg
open Go.Tree.O (visV ordL)
set_option linter.unusedVariables false
set_option linter.unusedSimpArgs false
/-- What comes of a node, put ahead of what was told: a visit, turned round. -/
theorem t36 {n : Nat} {N : List (List Nat)} {next : List TV} (hg : Gr n N) (hr : Rows next N) : ∀ (m k : Nat) (bs : List Bool) (out : List Nat), k < n → bs.length = n → bs[k]? = some false → cntF bs ≤ m → (∀ x ∈ out, x < n) → cntF bs + out.length ≤ 100 →
    ∀ bs' out', visV N m k (bs, out) = (bs', out') → tw cx 36 [.st [sl true ⟨1, true⟩ next], i64 (k : Int), rT false bs, rI true (nI out.reverse)] = some ([rI false (nI out'.reverse)], [rT false bs']) := by
  intro m
  induction m with
  | zero =>
    intro k bs out hk hl hb hm
    have := cnt_set bs k hb
    omega
  | succ m ih =>
    intro k bs out hk hl hb hm ho hB bs' out' he
    have hc := cnt_set bs k hb
    have hkN : k < N.length := by rw [hg.1]; exact hk
    have hnl : next.length = n := by rw [hr.1, hg.1]
    have hrow : N.getD k [] = N[k] := getD_of hkN
    obtain ⟨q, eq⟩ := hr.at_ hkN
    obtain ⟨hk12, hkx⟩ := hg.row hkN
    have h12 := hg.2.1
    -- the rest of the row
    have key : ∀ d j (s : List Bool × List Nat), N[k].length - j = d → j ≤ N[k].length → s.1.length = n → (∀ x ∈ s.2, x < n) → cntF s.1 ≤ m → cntF s.1 + s.2.length = cntF (bs.set k true) + out.length →
        let t := (N[k].drop j).foldl (fun s x => if s.1.getD x false = true then s else visV N m x s) s
        S cx 36 (H36_0 (k : Int) ((nI s.2.reverse).map i64) next ((nI N[k]).map i64) (j : Int) (s.1.map fun b => tb b)) = some ([rI false (nI (t.2 ++ [k]).reverse)], [rT false t.1]) ∧
        S cx 36 (H36_1 (k : Int) ((nI s.2.reverse).map i64) next ((nI N[k]).map i64) (j : Int) (s.1.map fun b => tb b)) = some ([rI false (nI (t.2 ++ [k]).reverse)], [rT false t.1]) := by
      intro d
      induction d with
      | zero =>
        intro j s hd hj h1 h2 h3 h5
        obtain rfl : j = N[k].length := by omega
        rw [List.drop_length]
        have hlim : decide ((([i64 (k : Int)] : List TV).length + ((nI s.2.reverse).map i64).length) * 8 < lim) = true := lim8 (by rw [len_n, List.length_reverse]; simp only [List.length_cons, List.length_nil]; omega)
        have e : (nI (s.2 ++ [k]).reverse).map i64 = [i64 (k : Int)] ++ (nI s.2.reverse).map i64 := by rw [List.reverse_append]; rfl
        constructor
        · refine eH36_0 (bif_neg (dF (by rw [len_n]; omega)) (ck_pos hlim ?_))
          rw [S_ret, ← e]; rfl
        · refine eH36_1 (bif_neg (dF (by rw [len_n]; omega)) (ck_pos hlim ?_))
          rw [S_ret, ← e]; rfl
      | succ d ihd =>
        intro j s hd hj h1 h2 h3 h5
        have hjl : j < N[k].length := by omega
        have hx := hkx _ (List.getElem_mem hjl)
        have hdr : N[k].drop j = N[k][j] :: N[k].drop (j + 1) := List.drop_eq_getElem_cons hjl
        have hxs : N[k][j] < s.1.length := by omega
        have hinc : w64 ((j : Int) + 1) = ((j + 1 : Nat) : Int) := inc64 hjl (by omega)
        have hgx : s.1.getD N[k][j] false = s.1[N[k][j]] := getD_of hxs
        rw [hdr, List.foldl_cons]
        cases hv : s.1[N[k][j]] with
        | true =>
          rw [if_pos (by rw [hgx, hv])]
          obtain ⟨a, b⟩ := ihd (j + 1) s (by omega) (by omega) h1 h2 h3 h5
          constructor
          · refine eH36_0 (bif_pos (dT (by rw [len_n]; omega)) (ck_pos (dT2 (by rw [len_n]; omega)) ?_))
            rw [n_at hjl, S_int]
            refine ck_pos (dT2 (by rw [len_b]; omega)) ?_
            rw [b_at hxs, S_bool, hv]
            refine bif_neg rfl (back_of ?_)
            rw [hinc]; exact a
          · refine eH36_1 (bif_pos (dT (by rw [len_n]; omega)) (ck_pos (dT2 (by rw [len_n]; omega)) ?_))
            rw [n_at hjl, S_int]
            refine ck_pos (dT2 (by rw [len_b]; omega)) ?_
            rw [b_at hxs, S_bool, hv]
            refine bif_neg rfl (back_of ?_)
            rw [hinc]; exact b
        | false =>
          rw [if_neg (by rw [hgx, hv]; simp)]
          have hf : s.1[N[k][j]]? = some false := by rw [List.getElem?_eq_getElem hxs, hv]
          obtain ⟨g1, g2, g3, g4, _⟩ := visV_inv hg m N[k][j] s.1 s.2 hx h1 hf h3 h2 (visV N m N[k][j] s).1 (visV N m N[k][j] s).2 rfl
          have hcall := ih N[k][j] s.1 s.2 hx h1 hf h3 h2 (by omega) (visV N m N[k][j] s).1 (visV N m N[k][j] s).2 rfl
          obtain ⟨a, b⟩ := ihd (j + 1) (visV N m N[k][j] s) (by omega) (by omega) g1 g2 (by omega) (by omega)
          constructor
          · refine eH36_0 (bif_pos (dT (by rw [len_n]; omega)) (ck_pos (dT2 (by rw [len_n]; omega)) ?_))
            rw [n_at hjl, S_int]
            refine ck_pos (dT2 (by rw [len_b]; omega)) ?_
            rw [b_at hxs, S_bool, hv]
            refine bif_pos rfl ?_
            rw [C36_S hcall]
            refine back_of ?_
            rw [hinc]; exact b
          · refine eH36_1 (bif_pos (dT (by rw [len_n]; omega)) (ck_pos (dT2 (by rw [len_n]; omega)) ?_))
            rw [n_at hjl, S_int]
            refine ck_pos (dT2 (by rw [len_b]; omega)) ?_
            rw [b_at hxs, S_bool, hv]
            refine bif_pos rfl ?_
            rw [C36_S hcall]
            refine back_of ?_
            rw [hinc]; exact b
    have hkb : k < bs.length := by omega
    have := (key _ 0 (bs.set k true, out) rfl (Nat.zero_le _) (by rw [List.length_set]; exact hl) ho (by show cntF (bs.set k true) ≤ m; omega) rfl).1
    rw [List.drop_zero] at this
    rw [visV, hrow] at he
    simp only [Prod.mk.injEq] at he
    obtain ⟨h1, h2⟩ := he
    rw [← h1, ← h2]
    refine e36 (ck_pos (dT2 (by rw [len_b]; omega)) (ck_pos (dT2 (by omega)) ?_))
    rw [eq, S_slR, set_b]
    exact this
theorem t18 {n : Nat} {N : List (List Nat)} {next : List TV} (hg : Gr n N) (h0 : 0 < n) (hr : Rows next N) : tw cx 18 [.st [sl true ⟨1, true⟩ next]] = some ([rI false (nI (ordL N))], []) := by
  have hN := hg.1
  have h12 := hg.2.1
  have e1 : next.length = n := by rw [hr.1, hN]
  have hc : cntF (List.replicate n false) = n := by simp [cntF]
  have := t36 hg hr N.length 0 (List.replicate n false) [] h0 (by simp) (by rw [List.getElem?_replicate, if_pos h0]) (by rw [hc]; omega) (by simp) (by rw [hc]; simp only [List.length_nil]; omega) _ _ rfl
  have er : (List.replicate n (tb false) : List TV) = (List.replicate n false).map fun b => tb b := by simp
  have s0 : S cx 18 (N18_s0 next) = some ([rI false (nI (ordL N))], []) := by
    unfold N18_s0
    refine ck_pos (by rw [e1]; exact mk1 h12) ?_
    rw [e1, Int.toNat_natCast, er]
    exact (C36_S this).trans (by rw [S_ret, ordL, hN])
  exact e18 (S_amb2 s0 s0)
/-- Is it the nearest, as the reference asks. -/
def okN (D : List (List Nat)) (k d : Nat) : Prop := d ≠ k ∧ ∀ x ∈ D.getD k [], x = k ∨ x ∈ D.getD d []
section
variable {n : Nat} {D : List (List Nat)} {dom : List TV} (hr : Rows dom D) (hD : D.length = n) (hD2 : ∀ (b : Nat) (hb : b < D.length), D[b].length ≤ 1000 ∧ ∀ d ∈ D[b], d < n) {k : Nat} (hk : k < n)
include hr hD hD2 hk
open Classical in
theorem near_in (j d : Nat) (hd : d < n) : ∀ e i (near : Bool), (D.getD k []).length - i = e → i ≤ (D.getD k []).length → ∀ r,
    (if near = true ∧ ∀ x ∈ (D.getD k []).drop i, x = k ∨ x ∈ D.getD d [] then some ([i64 (d : Int)], []) else S cx 33 (H33_0 dom (k : Int) ((nI (D.getD k [])).map i64) (w64 ((j : Int) + 1)))) = some r →
    S cx 33 (H33_1 dom (k : Int) (d : Int) near ((nI (D.getD k [])).map i64) (j : Int) ((nI (D.getD k [])).map i64) (i : Int)) = some r := by
  have hkD : k < D.length := by omega
  have hdD : d < D.length := by omega
  have hkr : D.getD k [] = D[k] := getD_of hkD
  have hdr : D.getD d [] = D[d] := getD_of hdD
  have hl := (hD2 k hkD).1
  rw [hkr, hdr]
  intro e
  induction e with
  | zero =>
    intro i near he hi r h
    obtain rfl : i = D[k].length := by omega
    rw [List.drop_length] at h
    refine eH33_1 (bif_neg (dF (by rw [len_n]; omega)) ?_)
    cases near with
    | true =>
      rw [if_pos ⟨rfl, fun x hx => by cases hx⟩] at h
      exact bif_pos rfl h
    | false =>
      rw [if_neg (fun hh => by cases hh.1)] at h
      exact bif_neg rfl (back_of h)
  | succ e ih =>
    intro i near he hi r h
    have hil : i < D[k].length := by omega
    have hdrop : D[k].drop i = D[k][i] :: D[k].drop (i + 1) := List.drop_eq_getElem_cons hil
    have hinc : w64 ((i : Int) + 1) = ((i + 1 : Nat) : Int) := inc64 (n := 1000) (by omega) (by omega)
    rw [hdrop] at h
    refine eH33_1 (bif_pos (dT (by rw [len_n]; omega)) (ck_pos (dT2 (by rw [len_n]; omega)) ?_))
    rw [n_at hil, S_int]
    cases near with
    | false =>
      refine bif_neg rfl (back_of ?_)
      rw [hinc]
      refine ih (i + 1) false (by omega) (by omega) r ?_
      rw [if_neg (fun hh => by cases hh.1)] at h ⊢
      exact h
    | true =>
      refine bif_pos rfl ?_
      by_cases c : D[k][i] = k
      · refine bif_pos (by simp [c]) (back_of ?_)
        rw [hinc]
        refine ih (i + 1) true (by omega) (by omega) r ?_
        rw [← h]
        congr 1
        refine propext ⟨fun hh => ⟨rfl, fun x hx => ?_⟩, fun hh => ⟨rfl, fun x hx => hh.2 x (List.mem_cons_of_mem _ hx)⟩⟩
        rcases List.mem_cons.1 hx with e | e
        · exact .inl (e.trans c)
        · exact hh.2 x e
      · refine bif_neg (by simp; omega) (ck_pos (dT2 (by rw [hr.1]; omega)) ?_)
        obtain ⟨q, eq⟩ := hr.at_ hdD
        rw [eq, S_slR, C35_S (has D[d] D[k][i] (hD2 d hdD).1)]
        refine back_of ?_
        rw [hinc]
        refine ih (i + 1) _ (by omega) (by omega) r ?_
        rw [← h]
        congr 1
        refine propext ⟨fun hh => ⟨rfl, fun x hx => ?_⟩, fun hh => ⟨?_, fun x hx => hh.2 x (List.mem_cons_of_mem _ hx)⟩⟩
        · rcases List.mem_cons.1 hx with e | e
          · exact .inr (e ▸ of_decide_eq_true hh.1)
          · exact hh.2 x e
        · rcases hh.2 _ List.mem_cons_self with e | e
          · exact absurd e c
          · exact dT e
theorem near_none (hno : ∀ e ∈ D.getD k [], ¬ okN D k e) : tw cx 33 [sl true ⟨1, true⟩ dom, i64 (k : Int)] = some ([i64 (-1)], []) := by
  classical
  have hkD : k < D.length := by omega
  have hkr : D.getD k [] = D[k] := getD_of hkD
  have hl := (hD2 k hkD).1
  have hl' : (D.getD k []).length ≤ 1000 := by rw [hkr]; exact hl
  obtain ⟨q, eq⟩ := hr.at_ hkD
  have key : ∀ e j, (D.getD k []).length - j = e → j ≤ (D.getD k []).length → S cx 33 (H33_0 dom (k : Int) ((nI (D.getD k [])).map i64) (j : Int)) = some ([i64 (-1)], []) := by
    intro e
    induction e with
    | zero =>
      intro j he hj
      exact eH33_0 (bif_neg (dF (by rw [len_n]; omega)) rfl)
    | succ e ih =>
      intro j he hj
      have hjl : j < (D.getD k []).length := by omega
      have hmem := List.getElem_mem hjl
      have hen : (D.getD k [])[j] < n := (hD2 k hkD).2 _ (by rw [← hkr]; exact hmem)
      refine eH33_0 (bif_pos (dT (by rw [len_n]; omega)) (ck_pos (dT2 (by rw [len_n]; omega)) ?_))
      rw [n_at hjl, S_int]
      refine ck_pos (dT2 (by rw [hr.1]; omega)) ?_
      rw [eq, S_slR]
      have hb : (((D.getD k [])[j] : Int) != (k : Int)) = decide ((D.getD k [])[j] ≠ k) := by
        by_cases c : (D.getD k [])[j] = k
        · rw [dF (fun h => h c), c]; simp
        · rw [dT c]; exact bne_iff_ne.2 (fun h => c (Int.ofNat.inj h))
      rw [hb, show D[k] = D.getD k [] from hkr.symm]
      refine near_in hr hD hD2 hk j _ hen _ 0 _ rfl (Nat.zero_le _) _ ?_
      rw [List.drop_zero, if_neg (fun h => hno _ hmem ⟨of_decide_eq_true h.1, h.2⟩), inc64 (n := 1000) (by omega) (by omega)]
      exact ih (j + 1) (by omega) (by omega)
  refine e33 (ck_pos (dT2 (by rw [hr.1]; omega)) ?_)
  rw [eq, S_slR, show D[k] = D.getD k [] from hkr.symm]
  exact key _ 0 rfl (Nat.zero_le _)
theorem near_some {d : Nat} (hd : d ∈ D.getD k []) (hok : okN D k d) (hu : ∀ e ∈ D.getD k [], okN D k e → e = d) : tw cx 33 [sl true ⟨1, true⟩ dom, i64 (k : Int)] = some ([i64 (d : Int)], []) := by
  classical
  have hkD : k < D.length := by omega
  have hkr : D.getD k [] = D[k] := getD_of hkD
  have hl := (hD2 k hkD).1
  have hl' : (D.getD k []).length ≤ 1000 := by rw [hkr]; exact hl
  obtain ⟨q, eq⟩ := hr.at_ hkD
  have key : ∀ e j, (D.getD k []).length - j = e → d ∈ (D.getD k []).drop j → S cx 33 (H33_0 dom (k : Int) ((nI (D.getD k [])).map i64) (j : Int)) = some ([i64 (d : Int)], []) := by
    intro e
    induction e with
    | zero =>
      intro j he hm
      rw [List.drop_of_length_le (by omega)] at hm
      cases hm
    | succ e ih =>
      intro j he hm
      have hjl : j < (D.getD k []).length := by omega
      have hdrop : (D.getD k []).drop j = (D.getD k [])[j] :: (D.getD k []).drop (j + 1) := List.drop_eq_getElem_cons hjl
      have hmem := List.getElem_mem hjl
      have hen : (D.getD k [])[j] < n := (hD2 k hkD).2 _ (by rw [← hkr]; exact hmem)
      refine eH33_0 (bif_pos (dT (by rw [len_n]; omega)) (ck_pos (dT2 (by rw [len_n]; omega)) ?_))
      rw [n_at hjl, S_int]
      refine ck_pos (dT2 (by rw [hr.1]; omega)) ?_
      rw [eq, S_slR]
      have hb : (((D.getD k [])[j] : Int) != (k : Int)) = decide ((D.getD k [])[j] ≠ k) := by
        by_cases c : (D.getD k [])[j] = k
        · rw [dF (fun h => h c), c]; simp
        · rw [dT c]; exact bne_iff_ne.2 (fun h => c (Int.ofNat.inj h))
      rw [hb, show D[k] = D.getD k [] from hkr.symm]
      refine near_in hr hD hD2 hk j _ hen _ 0 _ rfl (Nat.zero_le _) _ ?_
      rw [List.drop_zero]
      by_cases c : okN D k (D.getD k [])[j]
      · rw [if_pos ⟨dT c.1, c.2⟩, hu _ hmem c]
      · rw [if_neg (fun h => c ⟨of_decide_eq_true h.1, h.2⟩), inc64 (n := 1000) (by omega) (by omega)]
        refine ih (j + 1) (by omega) ?_
        rw [hdrop] at hm
        rcases List.mem_cons.1 hm with e1 | e1
        · exact absurd (e1 ▸ hok) c
        · exact e1
  refine e33 (ck_pos (dT2 (by rw [hr.1]; omega)) ?_)
  rw [eq, S_slR, show D[k] = D.getD k [] from hkr.symm]
  exact key _ 0 rfl (by rw [List.drop_zero]; exact hd)
end
def kidO (near : Nat → Option Nat) (kd : List (List Nat)) (k : Nat) : List (List Nat) := match near k with
  | some d => kd.set d (kd.getD d [] ++ [k])
  | none => kd
theorem t16 {n : Nat} (h12 : n ≤ 12) {dom : List TV} (hd : dom.length = n) {os : List Nat} (hos : os.length ≤ 100) {near : Nat → Option Nat}
    (hn : ∀ k ∈ os, tw cx 33 [sl true ⟨1, true⟩ dom, i64 (k : Int)] = some ([i64 (match near k with | some d => (d : Int) | none => -1)], []) ∧ ∀ d, near k = some d → d < n) :
    tw cx 16 [sl true ⟨1, true⟩ dom, rI true (nI os)] = some ([sl false ⟨1, true⟩ (kdT (os.foldl (kidO near) (List.replicate n [])))], []) := by
  have key : ∀ e j (kd : List (List Nat)), os.length - j = e → j ≤ os.length → kd.length = n → (∀ r ∈ kd, r.length ≤ j) →
      S cx 16 (H16_0 dom (kdT kd) ((nI os).map i64) (j : Int)) = some ([sl false ⟨1, true⟩ (kdT ((os.drop j).foldl (kidO near) kd))], []) := by
    intro e
    induction e with
    | zero =>
      intro j kd he hj hl hrw
      obtain rfl : j = os.length := by omega
      rw [List.drop_length]
      exact eH16_0 (bif_neg (dF (by rw [len_n]; omega)) rfl)
    | succ e ih =>
      intro j kd he hj hl hrw
      have hjl : j < os.length := by omega
      have hdrop : os.drop j = os[j] :: os.drop (j + 1) := List.drop_eq_getElem_cons hjl
      obtain ⟨h1, h2⟩ := hn _ (List.getElem_mem hjl)
      have hinc : w64 ((j : Int) + 1) = ((j + 1 : Nat) : Int) := inc64 hjl (by omega)
      rw [hdrop, List.foldl_cons]
      refine eH16_0 (bif_pos (dT (by rw [len_n]; omega)) (ck_pos (dT2 (by rw [len_n]; omega)) ?_))
      rw [n_at hjl, S_int, C33_S h1]
      have hk0 : kidO near kd os[j] = match near os[j] with | some d => kd.set d (kd.getD d [] ++ [os[j]]) | none => kd := rfl
      rw [hk0]
      cases hnr : near os[j] with
      | none =>
        refine bif_neg (dF (by show ¬ ((-1 : Int) ≥ 0); omega)) (back_of ?_)
        rw [hinc]
        exact ih (j + 1) kd (by omega) (by omega) hl (fun r hr => by have := hrw r hr; omega)
      | some d =>
        have hdn := h2 d hnr
        have hdk : d < kd.length := by omega
        have hkr : kd.getD d [] = kd[d] := getD_of hdk
        have hlr := hrw _ (List.getElem_mem hdk)
        refine bif_pos (dT (by show (d : Int) ≥ 0; omega)) (ck_pos (dT2 (by rw [len_nn]; show 0 ≤ (d : Int) ∧ (d : Int) < _; omega)) ?_)
        show S cx 16 (.slO ⟨1, false⟩ ((kdT kd).getD (0 + ((d : Nat) : Int).toNat) (.dead ())) _) = _
        rw [nn_at hdk, S_slO, S_slO]
        refine ck_pos (lim8 (by rw [len_n]; simp only [List.length_cons, List.length_nil]; omega)) (ck_pos (dT2 (by rw [List.length_set, len_nn]; show 0 ≤ (d : Int) ∧ (d : Int) < _; omega)) (back_of ?_))
        rw [hinc, app_n]
        have := set_nn (RB := kd) (b := d) (r := kd[d] ++ [os[j]])
        refine (congrArg (fun t => S cx 16 (H16_0 dom t ((nI os).map i64) ((j + 1 : Nat) : Int))) this).trans ?_
        rw [← hkr]
        refine ih (j + 1) _ (by omega) (by omega) (by rw [List.length_set]; exact hl) (fun r hr => ?_)
        rcases List.mem_or_eq_of_mem_set hr with h3 | rfl
        · have := hrw r h3; omega
        · rw [List.length_append, List.length_singleton, hkr]; omega
  refine e16 (ck_pos (by rw [hd]; exact mk24 h12) ?_)
  have hr0 : (List.replicate n (sl false ⟨1, false⟩ []) : List TV) = kdT (List.replicate n ([] : List Nat)) := by simp
  rw [hd, Int.toNat_natCast, hr0]
  exact key _ 0 _ rfl (Nat.zero_le _) (by simp) (fun r hr => by rw [(List.mem_replicate.1 hr).2]; exact Nat.zero_le _)
end Go.Tree.Q

/- DomTree, both ways: the law answers true. -/
namespace Go.Tree.Q
open Go.Proofs Go.Tree.Cg
open Go.Tree.O (visV ordL)
set_option linter.unusedVariables false
set_option linter.unusedSimpArgs false
theorem fold_kidS {n : Nat} {DB : List (List Bool)} : ∀ (l : List Nat) (kd : List (List Nat)) (B : Nat), kd.length = n → (∀ r ∈ kd, r.length ≤ B) → (l.foldl (kidS n DB) kd).length = n ∧ ∀ r ∈ l.foldl (kidS n DB) kd, r.length ≤ B + l.length
  | [], kd, B, h1, h2 => ⟨h1, h2⟩
  | k :: l, kd, B, h1, h2 => by
    rw [List.foldl_cons]
    obtain ⟨a, b⟩ := fold_kidS (n := n) (DB := DB) l (kidS n DB kd k) (B + 1) (kidS_len.trans h1) (kidS_rows h2)
    exact ⟨a, fun r hr => by have := b r hr; rw [List.length_cons]; omega⟩
theorem kids_ok {n : Nat} {DB : List (List Bool)} {o : List Nat} (ho : o.length ≤ n) : (kidsV n DB o).length = n ∧ ∀ r ∈ kidsV n DB o, r.length ≤ n := by
  obtain ⟨a, b⟩ := fold_kidS (DB := DB) (n := n) (o.drop 1) (List.replicate n []) 0 (by simp) (fun r hr => by rw [(List.mem_replicate.1 hr).2]; exact Nat.zero_le _)
  refine ⟨a, fun r hr => ?_⟩
  have := b r hr
  rw [List.length_drop] at this
  omega
theorem deep_kd (kd : List (List Nat)) : deepL (kdT kd) = true := by
  induction kd with
  | nil => rfl
  | cons r kd ih => rw [kdT, List.map_cons, deepL]; rw [kdT] at ih; rw [ih]; rfl
theorem deep_res (kd : List (List Nat)) (b : Bool) : deepL [sl false ⟨1, true⟩ (kdT kd), tb b] = true := by
  rw [deepL, deep, deep_kd]; rfl
theorem deep_one (kd : List (List Nat)) : deepL [sl false ⟨1, true⟩ (kdT kd)] = true := by
  rw [deepL, deep, deep_kd]; rfl
open Classical in
theorem both {f : List Bk} (hs : smallF f) : ∃ (kd : List (List Nat)) (b : Bool), tw cx 5 [rB true false f] = some ([sl false ⟨1, true⟩ (kdT kd), tb b], []) ∧ tw cx 7 [rB true false f] = some ([sl false ⟨1, true⟩ (kdT kd), tb b], []) ∧ kd.length ≤ 12 ∧ ∀ r ∈ kd, r.length ≤ 12 := by
  by_cases hc : flowP f ∧ canP f
  · obtain ⟨hf, hc⟩ := hc
    have h0 : 0 < f.length := hf.2.1
    have c12 := hc.1
    obtain ⟨DB, rk, G, k22, gU, hG, hal, d2, d3⟩ := t20 hf hs hc
    have hg := gr_flow hf c12
    obtain ⟨out, G2, g1, g2, g3, g4, g5⟩ := t15s hf c12
    have hal2 : Alike (N0 f) G2 := ⟨by rw [g3.1, hg.1], g4⟩
    have hGG : G2 = G := by
      refine List.ext_getElem (by rw [g3.1, hG.1]) fun i h1 h2 => ?_
      have h3 : i < (N0 f).length := by rw [hg.1, ← hG.1]; exact h2
      exact up_eq (g5 _ (List.getElem_mem h1)) (gU _ (List.getElem_mem h2)) fun v => (g4 i h3 h1 v).trans (hal.2 i h3 h2 v).symm
    subst hGG
    obtain ⟨dom, D, q1, q2, q3, q4⟩ := t17 g3 h0 g2
    have hT : Tab f.length G2 DB := ⟨d2, d3⟩
    obtain ⟨l, hl, hlk⟩ := ordL_head g3 h0
    obtain ⟨o1, o2, o3⟩ := ordL_ok g3 h0
    have hreach : ∀ k, k < f.length → Star (Ed G2 []) 0 k := fun k hk => (hal.star [] 0 k).2 (hc.2.1 k hk)
    have hD2 : ∀ (b : Nat) (hb : b < D.length), D[b].length ≤ 1000 ∧ ∀ d ∈ D[b], d < f.length := fun b hb => ⟨(q4 b hb).1, fun d hd => g3.star h0 (((q4 b hb).2 d).1 hd).1⟩
    have hdm : ∀ {b d : Nat}, b < f.length → (d ∈ D.getD b [] ↔ Dm G2 b d) := fun {b d} hb => by
      rw [getD_of (by omega)]; exact (q4 b (by omega)).2 d
    let near : Nat → Option Nat := fun k => if k = 0 then none else some (nearV f.length DB k)
    have hnear : ∀ k ∈ ordL G2, tw cx 33 [sl true ⟨1, true⟩ dom, i64 (k : Int)] = some ([i64 (match near k with | some d => (d : Int) | none => -1)], []) ∧ ∀ d, near k = some d → d < f.length := fun k hk => by
      have hkn := o1 k hk
      by_cases c : k = 0
      · subst c
        refine ⟨?_, fun d hd => by cases hd⟩
        refine near_none q2 q3 hD2 hkn fun e he ho => ?_
        have h1 := (hdm hkn).1 he
        exact h1.not (fun h => ho.1 h.symm) (.refl 0)
      · have hn := hT.near hkn (hreach k hkn) c
        have e : near k = some (nearV f.length DB k) := if_neg c
        rw [e]
        refine ⟨near_some q2 q3 hD2 hkn ((hdm hkn).2 hn.2.2.1) ⟨hn.2.1, fun x hx => ?_⟩ (fun e he ho => ?_), fun d hd => by cases hd; exact hn.1⟩
        · have h1 := (hdm hkn).1 hx
          by_cases cx : x = k
          · exact .inl cx
          · exact .inr ((hdm hn.1).2 (hn.2.2.2 x (g3.star h0 h1.1) cx h1))
        · have h1 := (hdm hkn).1 he
          have hen : e < f.length := g3.star h0 h1.1
          refine Near.uniq (N := G2) (n := f.length) (k := k) ⟨hen, ho.1, h1, fun x hx hxk hxd => ?_⟩ hn
          rcases ho.2 x ((hdm hkn).2 hxd) with e1 | e1
          · exact absurd e1 hxk
          · exact (hdm hen).1 e1
    have k16 := t16 c12 (by rw [q2.1]; exact q3) (os := ordL G2) (by omega) hnear
    have hkid : (ordL G2).foldl (kidO near) (List.replicate f.length []) = kidsV f.length DB (ordL G2) := by
      rw [kidsV, hl, List.foldl_cons]
      show l.foldl (kidO near) (List.replicate f.length []) = l.foldl (kidS f.length DB) (List.replicate f.length [])
      refine foldl_congr' l _ fun x hx c => ?_
      have hx0 := (hlk x hx).1
      have e : near x = some (nearV f.length DB x) := if_neg hx0
      unfold kidO kidS
      rw [e]
    rw [hkid] at k16
    obtain ⟨b1, b2⟩ := kids_ok (n := f.length) (DB := DB) (o := ordL G2) o3
    refine ⟨kidsV f.length DB (ordL G2), true, ?_, ?_, by omega, fun r hr => by have := b2 r hr; omega⟩
    · refine e5 ?_
      rw [N5, C14_S (t14 hf hs)]
      refine bif_neg (by rw [dT hc]; rfl) ?_
      rw [C15_S g1]
      have s0 : S cx 5 (N5_s0 out) = some ([sl false ⟨1, true⟩ (kdT (kidsV f.length DB (ordL G2))), tb true], []) := by
        unfold N5_s0
        rw [C17_S q1, C18_S (t18 g3 h0 g2), C16_S k16]
        exact ck_pos (deep_one _) rfl
      exact S_amb2 s0 s0
    · refine e7 ?_
      unfold N7
      exact (S_call k22).trans rfl
  · refine ⟨[], false, ?_, ?_, Nat.zero_le _, fun r hr => by cases hr⟩
    · refine e5 ?_
      have k14 : tw cx 14 [rB true false f] = some ([tb false], []) := by
        by_cases hf : flowP f
        · rw [t14 hf hs, dF (p := canP f) (fun h => hc ⟨hf, h⟩)]
        · refine e14 ?_
          rw [N14, C28_S (t28 f hs)]
          exact bif_pos (by rw [dF hf]; rfl) rfl
      rw [N5, C14_S k14]
      exact bif_pos rfl rfl
    · refine e7 ?_
      unfold N7
      exact (S_call (t20n hs hc)).trans rfl
theorem t8 {kd : List (List Nat)} (h1 : kd.length ≤ 12) (h2 : ∀ r ∈ kd, r.length ≤ 12) : tw cx 8 [sl true ⟨1, true⟩ (kdT kd), sl true ⟨1, true⟩ (kdT kd)] = some ([tb true], []) := by
  have key : ∀ d j, kd.length - j = d → j ≤ kd.length → S cx 8 (H8_0 (kdT kd) (kdT kd) (j : Int)) = some ([tb true], []) := by
    intro d
    induction d with
    | zero =>
      intro j hd hj
      exact eH8_0 (bif_neg (dF (by rw [len_nn]; omega)) rfl)
    | succ d ih =>
      intro j hd hj
      have hjl : j < kd.length := by omega
      have hr := h2 _ (List.getElem_mem hjl)
      refine eH8_0 (bif_pos (dT (by rw [len_nn]; omega)) (ck_pos (dT2 (by rw [len_nn]; omega)) ?_))
      rw [nn_at hjl, S_slR]
      refine ck_pos (dT2 (by rw [len_nn]; omega)) ?_
      rw [S_slR, C21_S (t21 (nI kd[j]) (by show _ ≤ 1073741824; rw [List.length_map]; omega))]
      refine bif_neg rfl (back_of ?_)
      rw [inc64 hjl (by omega)]
      exact ih (j + 1) (by omega) (by omega)
  refine e8 ?_
  exact bif_neg (by simp) (key _ 0 rfl (Nat.zero_le _))
/-- Rows, numbered through. -/
def mkL (k : Int) : List (List Nat) → List (List Int)
  | [] => []
  | r :: l => marksV k r.length :: mkL (k + r.length) l
def tot (k : Int) : List (List Nat) → Int
  | [] => k
  | r :: l => tot (k + r.length) l
theorem mkL_len : ∀ (l : List (List Nat)) (k : Int), (mkL k l).length = l.length
  | [], _ => rfl
  | r :: l, k => by rw [mkL, List.length_cons, mkL_len, List.length_cons]
theorem tot_le : ∀ (l : List (List Nat)) (k : Int), (∀ r ∈ l, r.length ≤ 12) → k ≤ tot k l ∧ tot k l ≤ k + 12 * l.length
  | [], k, _ => ⟨Int.le_refl _, by simp [tot]⟩
  | r :: l, k, h => by
    have h1 := h r List.mem_cons_self
    obtain ⟨a, b⟩ := tot_le l (k + r.length) (fun x hx => h x (List.mem_cons_of_mem _ hx))
    rw [tot, List.length_cons]
    omega
theorem t11 {kd : List (List Nat)} (h1 : kd.length ≤ 12) (h2 : ∀ r ∈ kd, r.length ≤ 12) : tw cx 11 [sl false ⟨1, true⟩ (kdT kd), i64 1] = some ([i64 (tot 1 kd)], [sl false ⟨1, true⟩ ((mkL 1 kd).map fun r => rI false r)]) := by
  have key : ∀ (ys : List (List Nat)) (done : List TV) (k : Int), done.length + ys.length = kd.length → (∀ r ∈ ys, r.length ≤ 12) → 0 ≤ k → k ≤ 1 + 12 * done.length →
      S cx 11 (H11_0 k (done.length : Int) (done ++ kdT ys)) = some ([i64 (tot k ys)], [sl false ⟨1, true⟩ (done ++ (mkL k ys).map fun r => rI false r)]) := by
    intro ys
    induction ys with
    | nil =>
      intro done k hl hr hk0 hk
      refine eH11_0 (bif_neg (dF (by rw [List.length_append]; simp [kdT])) ?_)
      simp only [kdT, List.map_nil, mkL, tot]
      rfl
    | cons r ys ih =>
      intro done k hl hr hk0 hk
      have hr1 := hr r List.mem_cons_self
      rw [List.length_cons] at hl
      have hget : (done ++ kdT (r :: ys)).getD (0 + ((done.length : Nat) : Int).toNat) (.dead ()) = rI false (nI r) := by
        rw [zN, List.getD_eq_getElem?_getD, List.getElem?_append_right (Nat.le_refl _), Nat.sub_self]; rfl
      have hlen : (done ++ kdT (r :: ys)).length = kd.length := by rw [List.length_append, len_nn, List.length_cons]; omega
      have h24 := t24 (nI r) k ⟨hk0, by omega⟩ (by show _ ≤ 1073741824; rw [List.length_map]; omega)
      rw [List.length_map] at h24
      refine eH11_0 (bif_pos (dT (by rw [hlen]; omega)) (ck_pos (dT2 (by rw [hlen]; omega)) ?_))
      rw [hget, S_slO, S_slO, C24_S h24]
      refine back_of ?_
      have hset : ((done ++ kdT (r :: ys)).set (0 + ((done.length : Nat) : Int).toNat) (.dead ())).set (0 + ((done.length : Nat) : Int).toNat) (rI false (marksV k r.length)) = (done ++ [rI false (marksV k r.length)]) ++ kdT ys := by
        rw [List.set_set, zN, List.set_append_right _ _ (Nat.le_refl _), Nat.sub_self, kdT, List.map_cons, List.set_cons_zero]
        simp [kdT]
      refine (congrArg (fun t => S cx 11 (H11_0 (k + (r.length : Int)) (w64 (((done.length : Nat) : Int) + 1)) t)) hset).trans ?_
      have := ih (done ++ [rI false (marksV k r.length)]) (k + r.length) (by rw [List.length_append, List.length_singleton]; omega) (fun x hx => hr x (List.mem_cons_of_mem _ hx)) (by omega) (by rw [List.length_append, List.length_singleton]; omega)
      rw [List.length_append, List.length_singleton] at this
      rw [inc64 (n := 12) (by omega) (by omega), this, tot, mkL, List.map_cons, List.append_assoc]
      rfl
  refine e11 ?_
  have := key kd [] 1 (by simp) h2 (by omega) (by simp)
  simpa [N11] using this
theorem t12 {kd : List (List Nat)} (h1 : kd.length ≤ 12) (h2 : ∀ r ∈ kd, r.length ≤ 12) : tw cx 12 [sl true ⟨1, true⟩ ((mkL 1 kd).map fun r => rI false r), i64 1] = some ([i64 (tot 1 kd)], []) := by
  have key : ∀ (ys : List (List Nat)) (done : List TV) (k : Int), done.length + ys.length = kd.length → (∀ r ∈ ys, r.length ≤ 12) → 0 ≤ k → k ≤ 1 + 12 * done.length →
      S cx 12 (H12_0 (done ++ (mkL k ys).map fun r => rI false r) k (done.length : Int)) = some ([i64 (tot k ys)], []) := by
    intro ys
    induction ys with
    | nil =>
      intro done k hl hr hk0 hk
      refine eH12_0 (bif_neg (dF (by simp [mkL])) ?_)
      rfl
    | cons r ys ih =>
      intro done k hl hr hk0 hk
      have hr1 := hr r List.mem_cons_self
      rw [List.length_cons] at hl
      have hget : (done ++ (mkL k (r :: ys)).map fun r => rI false r).getD (0 + ((done.length : Nat) : Int).toNat) (.dead ()) = rI false (marksV k r.length) := by
        rw [zN, List.getD_eq_getElem?_getD, List.getElem?_append_right (Nat.le_refl _), Nat.sub_self]; rfl
      have hlen : (done ++ (mkL k (r :: ys)).map fun r => rI false r).length = kd.length := by rw [List.length_append, List.length_map, mkL_len, List.length_cons]; omega
      refine eH12_0 (bif_pos (dT (by rw [hlen]; omega)) (ck_pos (dT2 (by rw [hlen]; omega)) ?_))
      rw [hget, S_slR, C25_S (t25 k r.length ⟨hk0, by omega⟩ (by show _ ≤ 1073741824; omega))]
      refine bif_neg (dF (by omega)) (back_of ?_)
      have := ih (done ++ [rI false (marksV k r.length)]) (k + r.length) (by rw [List.length_append, List.length_singleton]; omega) (fun x hx => hr x (List.mem_cons_of_mem _ hx)) (by omega) (by rw [List.length_append, List.length_singleton]; omega)
      rw [List.length_append, List.length_singleton, List.append_assoc] at this
      rw [inc64 (n := 12) (by omega) (by omega), tot, mkL, List.map_cons]
      exact this
  refine e12 ?_
  have := key kd [] 1 (by simp) h2 (by omega) (by simp)
  simpa [N12] using this
theorem t3 (f : List Bk) (h1 : f.length ≤ 9223372036854775807) (h2 : ∀ b ∈ f, b.code.length ≤ 9223372036854775807 ∧ b.next.length ≤ 9223372036854775807) :
    tw cx 3 [rB true true f] = some ([tb true], []) := by
  refine e3 ?_
  obtain ⟨v, k4, v0, v1⟩ := t4 f h1 h2
  rw [N3, C4_S k4]
  by_cases c : v < 0
  · exact bif_pos (dT c) rfl
  · refine bif_neg (dF c) ?_
    have hf := v1 (by omega)
    have hs : smallF f := ⟨by show _ ≤ 1073741824; omega, fun b hb => by have := hf.2 b hb; exact ⟨by show _ ≤ 1073741824; omega, by show _ ≤ 1073741824; omega⟩⟩
    have k6 : tw cx 6 [rB true true f] = some ([rB false false f], []) := t6 f (by omega) (fun b hb => by have := hf.2 b hb; omega)
    obtain ⟨kd, b, k5, k7, b1, b2⟩ := both hs
    obtain ⟨r, L, k10, r0, _⟩ := t10 f ⟨by omega, fun b hb => by have := hf.2 b hb; omega⟩
    have k8 := t8 b1 b2
    have k11 := t11 b1 b2
    have k12 := t12 b1 b2
    obtain ⟨tt0, _⟩ := tot_le kd 1 b2
    rw [C6_S k6, C5_S k5]
    refine ck_pos (deep_res _ _) ?_
    rw [C6_S k6, C7_S k7]
    refine ck_pos (deep_res _ _) ?_
    rw [C8_S k8]
    refine bif_neg rfl (bif_neg (by simp) ?_)
    rw [C6_S k6, C9_S (t9 f hs)]
    refine bif_neg rfl ?_
    rw [C10_S k10]
    refine bif_neg (dF (by omega)) ?_
    rw [C8_S k8]
    refine bif_neg rfl (bif_neg (by simp) ?_)
    rw [C11_S k11, C12_S k12]
    refine bif_neg (dF (by omega)) (bif_neg (by simp) ?_)
    rw [C6_S k6, C7_S k7]
    refine ck_pos (deep_res _ _) ?_
    rw [C8_S k8]
    refine bif_neg rfl (bif_neg (by simp) ?_)
    rw [C12_S k12]
    exact bif_neg (dF (by omega)) (bif_neg (by simp) rfl)
end Go.Tree.Q
