/- RunFlow: what these points come to, and that the law answers true. Conditions: none. -/
import Derived.Test.YtipikejhchpfnaaTree3
import Derived.Test.YtipikejhchpfnaaRfQ
import Derived.Test.YtipikejhchpfnaaRfG
/- Values told natively; copying, comparing, counting. -/
namespace Go.Tree.Q
open Go.Proofs
set_option linter.unusedVariables false
set_option linter.unusedSimpArgs false
theorem back_of {f : FuncId} {p : List Nat} {e : Env} {X : Option Res} (h : S cx f (.head p e) = X) : S cx f (.back p e) = X := h
theorem w64_id {x : Int} (h0 : -9223372036854775808 ≤ x) (h1 : x < 9223372036854775808) : w64 x = x := by
  show IntKind.i64.wrap x = x
  rw [IntKind.wrap_i64]; omega
theorem dT {p : Prop} [Decidable p] (h : p) : decide p = true := decide_eq_true h
theorem dF {p : Prop} [Decidable p] (h : ¬p) : decide p = false := decide_eq_false h
theorem dT2 {p q : Prop} [Decidable p] [Decidable q] (h : p ∧ q) : (decide p && decide q) = true := by simp [h]
theorem zN {j : Nat} : (0 + ((j : Nat) : Int).toNat) = j := by omega
/-- A line of flat code. -/
structure F where
  op : Int
  fdo : Int
  dst : Int
  a : Int
  b : Int
  n : Int
  deriving DecidableEq, Inhabited
abbrev eF (x : F) : TV := .st [i64 x.op, i64 x.fdo, i64 x.dst, i64 x.a, i64 x.b, i64 x.n]
/-- A block. -/
structure Bk where
  code : List F
  go : Int
  test : Int
  next : List Int
  deriving DecidableEq, Inhabited
abbrev rF (q : Bool) (xs : List F) : TV := sl q ⟨6, false⟩ (xs.map eF)
abbrev rI (q : Bool) (xs : List Int) : TV := sl q ⟨1, false⟩ (xs.map i64)
abbrev eB (q : Bool) (x : Bk) : TV := .st [rF q x.code, i64 x.go, i64 x.test, rI q x.next]
abbrev rB (q q' : Bool) (xs : List Bk) : TV := sl q ⟨4, true⟩ (xs.map (eB q'))
/-- A state. -/
structure Sx where
  loc : List Int
  mem : List Int
  told : List Int
  deriving DecidableEq, Inhabited
abbrev eS (q : Bool) (x : Sx) : TV := .st [rI q x.loc, rI q x.mem, rI q x.told]
/-! ### Loops that copy, compare, count, over rows -/
theorem copy_loop {H : List TV → Int → Option Res} {l : List TV} {fin : List TV → Res} (z : TV)
    (hr : ∀ (j : Nat) (x : TV) (out : List TV), l[j]? = some x → out.length = l.length → H (out.set j x) ((j + 1 : Nat) : Int) = some (fin l) → H out (j : Int) = some (fin l))
    (he : H l (l.length : Int) = some (fin l)) : H (List.replicate l.length z) 0 = some (fin l) := by
  have key : ∀ d j : Nat, l.length - j = d → j ≤ l.length → H (l.take j ++ List.replicate (l.length - j) z) (j : Int) = some (fin l) := by
    intro d
    induction d with
    | zero =>
      intro j hd hj
      have : j = l.length := by omega
      subst this
      simpa using he
    | succ d ih =>
      intro j hd hj
      obtain ⟨x, hx⟩ := at_some (show j < l.length by omega)
      refine hr j x _ hx (by simp; omega) ?_
      have e : (l.take j ++ List.replicate (l.length - j) z).set j x = l.take (j + 1) ++ List.replicate (l.length - (j + 1)) z := by
        have h1 : (l.take j).length = j := by simp; omega
        rw [List.set_append_right _ _ (by omega), h1, Nat.sub_self, show l.length - j = (l.length - (j + 1)) + 1 by omega, List.replicate_succ, List.set_cons_zero, List.take_add_one, hx]
        simp
      rw [e]
      exact ih (j + 1) (by omega) (by omega)
  simpa using key l.length 0 (by omega) (by omega)
theorem all_loop {H : Int → Option Res} {n : Nat} {p : Nat → Bool} {yes no : Res}
    (hr : ∀ (j : Nat), j < n → (p j = true → H ((j + 1 : Nat) : Int) = some (if (List.range' (j + 1) (n - (j + 1))).all p then yes else no) → H (j : Int) = some (if (List.range' (j + 1) (n - (j + 1))).all p then yes else no)) ∧ (p j = false → H (j : Int) = some no))
    (he : H (n : Int) = some yes) : H 0 = some (if (List.range n).all p then yes else no) := by
  have key : ∀ d j : Nat, n - j = d → j ≤ n → H (j : Int) = some (if (List.range' j (n - j)).all p then yes else no) := by
    intro d
    induction d with
    | zero =>
      intro j hd hj
      have : j = n := by omega
      subst this
      simpa using he
    | succ d ih =>
      intro j hd hj
      have e : List.range' j (n - j) = j :: List.range' (j + 1) (n - (j + 1)) := by
        rw [show n - j = (n - (j + 1)) + 1 by omega, List.range'_succ]
      obtain ⟨h1, h2⟩ := hr j (by omega)
      rw [e, List.all_cons]
      cases hp : p j with
      | true => rw [Bool.true_and]; exact h1 hp (ih (j + 1) (by omega) (by omega))
      | false => rw [Bool.false_and]; exact h2 hp
  have := key n 0 (by omega) (by omega)
  rw [List.range_eq_range']
  simpa using this
theorem inc64 {j : Nat} {n : Nat} (h : j < n) (hn : n ≤ 1073741824) : w64 ((j : Int) + 1) = ((j + 1 : Nat) : Int) := by
  rw [w64_id (by omega) (by omega)]; omega
theorem lt_of_at {β : Type} {l : List β} {j : Nat} {x : β} (h : l[j]? = some x) : j < l.length := (List.getElem?_eq_some_iff.1 h).1
theorem map_at {β : Type} {e : β → TV} {xs : List β} {j : Nat} {t : TV} (h : (xs.map e)[j]? = some t) : ∃ x, xs[j]? = some x ∧ t = e x := by
  rw [List.getElem?_map] at h
  obtain ⟨x, h1, h2⟩ := Option.map_eq_some_iff.1 h
  exact ⟨x, h1, h2.symm⟩
theorem mk_ok {n : Nat} {B : Int} (h : (n : Int) * B < 140737488355328) (hn : n ≤ 1073741824) : (decide ((0 : Int) ≤ (n : Int)) && decide ((n : Int) ≤ (n : Int)) && decide ((n : Int) * B < (lim : Int)) && decide ((n : Int) < 9223372036854775807) && true && true) = true := by
  have hl : (lim : Int) = 140737488355328 := rfl
  rw [hl, dT h, dT (show (0 : Int) ≤ n by omega), dT (Int.le_refl _), dT (show (n : Int) < 9223372036854775807 by omega)]
  rfl
/-! ### Copies -/
theorem t63 (x : F) : tw cx 63 [eF x] = some ([eF x], []) := e63 rfl
theorem t17 (xs : List Int) (q : Bool) (hl : xs.length ≤ 1073741824) : tw cx 17 [rI true xs] = some ([rI false xs], []) := by
  refine e17 (ck_pos ?_ ?_)
  · exact mk_ok (by rw [List.length_map]; omega) (by rw [List.length_map]; omega)
  · rw [show (((xs.map i64).length : Nat) : Int).toNat = (xs.map i64).length by omega]
    refine copy_loop (H := fun out i => S cx 17 (H17_0 (xs.map i64) out i)) (fin := fun l => ([sl false ⟨1, false⟩ l], [])) _ (fun j t out hx hout h => ?_) ?_
    · obtain ⟨x, hx', rfl⟩ := map_at hx
      have hj := lt_of_at hx
      have hj' : j < xs.length := by simpa using hj
      refine eH17_0 (bif_pos (dT (by omega)) (ck_pos (dT2 (by omega)) ?_))
      rw [zN, getD_map' hx', S_int]
      refine ck_pos (dT2 (by omega)) (back_of ?_)
      rw [inc64 hj' hl]
      exact h
    · exact eH17_0 (bif_neg (dF (by omega)) rfl)
theorem t16 (xs : List F) (hl : xs.length ≤ 1073741824) : tw cx 16 [rF true xs] = some ([rF false xs], []) := by
  refine e16 (ck_pos ?_ ?_)
  · exact mk_ok (by rw [List.length_map]; omega) (by rw [List.length_map]; omega)
  · rw [show (((xs.map eF).length : Nat) : Int).toNat = (xs.map eF).length by omega]
    refine copy_loop (H := fun out i => S cx 16 (H16_0 (xs.map eF) out i)) (fin := fun l => ([sl false ⟨6, false⟩ l], [])) _ (fun j t out hx hout h => ?_) ?_
    · obtain ⟨x, hx', rfl⟩ := map_at hx
      have hj := lt_of_at hx
      have hj' : j < xs.length := by simpa using hj
      refine eH16_0 (bif_pos (dT (by omega)) (ck_pos (dT2 (by omega)) ?_))
      rw [zN, getD_map' hx', V6_S, C63_S (t63 x)]
      refine ck_pos (dT2 (by omega)) (back_of ?_)
      rw [inc64 hj' hl]
      exact h
    · exact eH16_0 (bif_neg (dF (by omega)) rfl)
theorem t90 (x : Bk) (h1 : x.code.length ≤ 1073741824) (h2 : x.next.length ≤ 1073741824) : tw cx 90 [eB true x] = some ([eB false x], []) := by
  refine e90 ?_
  rw [N90, C16_S (t16 x.code h1), C17_S (t17 x.next true h2), S_ret]
theorem t37 (xs : List Bk) (hl : xs.length ≤ 1073741824) (h : ∀ x ∈ xs, x.code.length ≤ 1073741824 ∧ x.next.length ≤ 1073741824) : tw cx 37 [rB true true xs] = some ([rB false false xs], []) := by
  refine e37 (ck_pos (mk_ok (by rw [List.length_map]; omega) (by rw [List.length_map]; omega)) ?_)
  rw [show (((xs.map (eB true)).length : Nat) : Int).toNat = (xs.map (eB false)).length by simp]
  refine copy_loop (H := fun out i => S cx 37 (H37_0 (xs.map (eB true)) out i)) (fin := fun l => ([sl false ⟨4, true⟩ l], [])) _ (fun j t out hx hout hh => ?_) ?_
  · obtain ⟨x, hx', rfl⟩ := map_at hx
    have hj := lt_of_at hx
    have hj' : j < xs.length := by simpa using hj
    obtain ⟨a1, a2⟩ := h x (List.mem_of_getElem? hx')
    have e1 : (xs.map (eB true)).length = xs.length := List.length_map _
    have e2 : (xs.map (eB false)).length = xs.length := List.length_map _
    refine eH37_0 (bif_pos (dT (by omega)) (ck_pos (dT2 (by omega)) ?_))
    rw [zN, getD_map' hx', V4_S, C90_S (t90 x a1 a2)]
    refine ck_pos (dT2 (by omega)) (back_of ?_)
    rw [inc64 hj' hl]
    exact hh
  · exact eH37_0 (bif_neg (dF (by simp)) rfl)
theorem t38 (x : Sx) (h0 : x.loc.length ≤ 1073741824) (h1 : x.mem.length ≤ 1073741824) (h2 : x.told.length ≤ 1073741824) : tw cx 38 [eS true x] = some ([eS false x], []) := by
  refine e38 ?_
  rw [N38, C17_S (t17 x.loc true h0), C17_S (t17 x.mem true h1), C17_S (t17 x.told true h2), S_ret]
end Go.Tree.Q

/- Good flows and good states: what both programs answer. -/
namespace Go.Tree.Q
open Go.Proofs
set_option linter.unusedVariables false
set_option linter.unusedSimpArgs false
theorem leaf {b : Bool} {p : Prop} [Decidable p] (h : b = true ↔ p) : (some ([tb b], []) : Option Res) = some ([tb (decide p)], []) := by
  have : b = decide p := by
    cases b with
    | true => exact (decide_eq_true (h.1 rfl)).symm
    | false => exact (decide_eq_false (fun hp => by cases h.2 hp)).symm
  rw [this]
theorem t112 (n lo hi : Int) : tw cx 112 [i64 n, i64 lo, i64 hi] = some ([tb (decide (lo ≤ n ∧ n ≤ hi))], []) := by
  refine e112 ?_
  simp only [N112, S_bif, S_ret, decide_eq_true_eq]
  split <;> exact leaf (by simp <;> omega)
theorem t65 (n lo hi : Int) : tw cx 65 [i64 n, i64 lo, i64 hi] = some ([tb (decide (lo ≤ n ∧ n ≤ hi))], []) := by
  refine e65 ?_
  simp only [N65, S_bif, S_ret, decide_eq_true_eq]
  split <;> exact leaf (by simp <;> omega)
theorem t147 (n : Int) : tw cx 147 [i64 n] = some ([tb (decide (0 ≤ n ∧ n ≤ 11))], []) := by
  refine e147 ?_
  rw [N147, C112_S (t112 ..), S_ret]
theorem t87 (n : Int) : tw cx 87 [i64 n] = some ([tb (decide (0 ≤ n ∧ n ≤ 2000))], []) := by
  refine e87 ?_
  rw [N87, C112_S (t112 ..), S_ret]
theorem t159 (n : Int) : tw cx 159 [i64 n] = some ([tb (decide (0 ≤ n ∧ n ≤ 65535))], []) := by
  refine e159 ?_
  rw [N159, C65_S (t65 ..), S_ret]
theorem t179 (n : Int) : tw cx 179 [i64 n] = some ([tb (decide (4 ≤ n ∧ n ≤ 9))], []) := by
  refine e179 ?_
  rw [N179, C65_S (t65 ..), S_ret]
theorem t155 (n : Int) : tw cx 155 [i64 n] = some ([tb (decide (n = 2 ∨ n = 5))], []) := by
  refine e155 ?_
  simp only [N155, S_bif, S_ret, beq_iff_eq]
  split <;> exact leaf (by simp <;> omega)
/-- A good line. -/
def flatP (x : F) : Prop :=
  (x.op ≠ 3 → x.fdo = 0) ∧ (x.op ≠ 1 → x.n = 0) ∧
    ((x.op = 1 ∧ (0 ≤ x.dst ∧ x.dst ≤ 11) ∧ x.a = 0 ∧ x.b = 0 ∧ 0 ≤ x.n ∧ x.n ≤ 65535) ∨
      ((x.op = 2 ∨ x.op = 4) ∧ (0 ≤ x.dst ∧ x.dst ≤ 11) ∧ (0 ≤ x.a ∧ x.a ≤ 11) ∧ x.b = 0) ∨
      (x.op = 3 ∧ (0 ≤ x.dst ∧ x.dst ≤ 11) ∧ (0 ≤ x.a ∧ x.a ≤ 11) ∧ (0 ≤ x.b ∧ x.b ≤ 11) ∧ 4 ≤ x.fdo ∧ x.fdo ≤ 9) ∨
      (x.op = 5 ∧ x.dst = 0 ∧ (0 ≤ x.a ∧ x.a ≤ 11) ∧ (0 ≤ x.b ∧ x.b ≤ 11)) ∨
      (x.op = 6 ∧ x.dst = 0 ∧ (0 ≤ x.a ∧ x.a ≤ 11) ∧ x.b = 0))
instance (x : F) : Decidable (flatP x) := by unfold flatP; infer_instance
set_option maxHeartbeats 1000000 in
theorem t111 (x : F) : tw cx 111 [eF x] = some ([tb (decide (flatP x))], []) := by
  obtain ⟨op, fdo, dst, a, b, n⟩ := x
  refine e111 ?_
  have hG : ∀ v : Bool, op ≠ 1 → (v = true ↔ (op = 2 ∨ op = 4)) → (op ≠ 3 → fdo = 0) → (op ≠ 1 → n = 0) → S cx 111 (G111_0 op fdo dst a b n v) = some ([tb (decide (flatP ⟨op, fdo, dst, a, b, n⟩))], []) := fun v h1 hv h2 h3 => by
    refine eG111_0 ?_
    simp only [NG111_0, NG111_0_s0, C147_S (t147 _), C112_S (t112 _ _ _), S_bif, S_ret, decide_eq_true_eq, beq_iff_eq, hv]
    repeat' split
    all_goals exact leaf (by simp only [flatP, decide_eq_true_eq, beq_iff_eq, Bool.false_eq_true, false_iff, true_iff, eq_self]; omega)
  have h0 : (op ≠ 3 → fdo = 0) → (op ≠ 1 → n = 0) → S cx 111 (N111_s0 op fdo dst a b n) = some ([tb (decide (flatP ⟨op, fdo, dst, a, b, n⟩))], []) := fun h2 h3 => by
    simp only [N111_s0, C147_S (t147 _), C112_S (t112 _ _ _), S_bif, S_ret, decide_eq_true_eq, beq_iff_eq]
    repeat' split
    all_goals first
      | exact leaf (by simp only [flatP, decide_eq_true_eq, beq_iff_eq, Bool.false_eq_true, false_iff, true_iff, eq_self]; omega)
      | exact hG _ (by omega) (by simp <;> omega) h2 h3
  simp only [N111, N111_s1, S_bif, S_ret, bne_iff_ne, ne_eq]
  repeat' split
  all_goals first
    | exact leaf (by simp only [flatP, Bool.false_eq_true, false_iff, true_iff, eq_self]; omega)
    | exact h0 (by simp only [ne_eq]; omega) (by simp only [ne_eq]; omega)
theorem t182 (h : Bool) (n many : Int) (hm : 0 ≤ many ∧ many ≤ 1000) : tw cx 182 [tb h, i64 n, .pt true () (i64 many)] = some ([tb (decide ((h = false → n = 0) ∧ (h = true → 0 ≤ n ∧ n < many)))], []) := by
  refine e182 ?_
  simp only [N182, N182_s0, C65_S (t65 _ _ _), S_bif, S_ret, Bool.not_eq_true', beq_iff_eq]
  rw [w64_id (by omega) (by omega)]
  cases h <;> simp only [Bool.false_eq_true, if_false, if_true, Bool.true_eq_false]
  · split <;> exact leaf (by simp <;> omega)
  · exact leaf (by simp <;> omega)
theorem t114 (op : Int) : tw cx 114 [i64 op] = some ([.st [tb (decide (op = 1 ∨ op = 2 ∨ op = 4 ∨ op = 3)), tb (decide (op = 2 ∨ op = 4 ∨ op = 3 ∨ op = 5 ∨ op = 6)), tb (decide (op = 3 ∨ op = 5)), tb (decide (op = 1)), tb (decide (op = 3))], tb (decide (1 ≤ op ∧ op ≤ 6))], []) := by
  refine e114 ?_
  have hG : ∀ v : Bool, op ≠ 1 → (v = true ↔ (op = 2 ∨ op = 4)) → S cx 114 (G114_0 op v) = some ([.st [tb (decide (op = 1 ∨ op = 2 ∨ op = 4 ∨ op = 3)), tb (decide (op = 2 ∨ op = 4 ∨ op = 3 ∨ op = 5 ∨ op = 6)), tb (decide (op = 3 ∨ op = 5)), tb (decide (op = 1)), tb (decide (op = 3))], tb (decide (1 ≤ op ∧ op ≤ 6))], []) := fun v h1 hv => by
    refine eG114_0 ?_
    simp only [NG114_0, S_bif, S_ret, beq_iff_eq, hv]
    repeat' split
    all_goals
      simp only [Option.some.injEq, Prod.mk.injEq, List.cons.injEq, Tr.st.injEq, Tr.fl.injEq, Value.bool.injEq, and_true]
      simp only [eq_comm (a := true), eq_comm (a := false), decide_eq_true_eq, decide_eq_false_iff_not]
      omega
  simp only [N114, S_bif, S_ret, beq_iff_eq]
  repeat' split
  · simp only [Option.some.injEq, Prod.mk.injEq, List.cons.injEq, Tr.st.injEq, Tr.fl.injEq, Value.bool.injEq, and_true]
    simp only [eq_comm (a := true), eq_comm (a := false), decide_eq_true_eq, decide_eq_false_iff_not]
    omega
  · exact hG _ (by omega) (by simp <;> omega)
  · exact hG _ (by omega) (by simp <;> omega)
set_option maxHeartbeats 1000000 in
theorem t152 (x : F) : tw cx 152 [eF x, i64 12] = some ([tb (decide (flatP x))], []) := by
  obtain ⟨op, fdo, dst, a, b, n⟩ := x
  refine e152 ?_
  have h182 := fun (h : Bool) (n : Int) => t182 h n 12 (by omega)
  simp only [N152, C114_S (t114 _), N152_s0, N152_s1, C182_S (h182 _ _), C159_S (t159 _), C179_S (t179 _), S_bif, S_ret, decide_eq_true_eq, beq_iff_eq, Bool.not_eq_true', decide_eq_false_iff_not, ite_not]
  by_cases h0 : 1 ≤ op ∧ op ≤ 6
  · rw [if_pos h0]
    rcases (show op = 1 ∨ op = 2 ∨ op = 3 ∨ op = 4 ∨ op = 5 ∨ op = 6 by omega) with rfl | rfl | rfl | rfl | rfl | rfl <;> simp (config := { decide := true }) only [if_true, if_false, true_implies, false_implies, not_true_eq_false, not_false_eq_true, and_true, true_and]
    all_goals repeat' split
    all_goals exact leaf (by simp [flatP] <;> omega)
  · rw [if_neg h0]
    exact leaf (by simp only [flatP, Bool.false_eq_true, false_iff]; omega)
end Go.Tree.Q

/- Good flows and good states, whole. -/
namespace Go.Tree.Q
open Go.Proofs
set_option linter.unusedVariables false
set_option linter.unusedSimpArgs false
theorem all_list {β : Type} {xs : List β} {q : β → Bool} {H : Int → Option Res} {yes : Bool → Option Res} {no : Res}
    (hr : ∀ (j : Nat) (x : β), xs[j]? = some x → (q x = true → ∀ r, H ((j + 1 : Nat) : Int) = some r → H (j : Int) = some r) ∧ (q x = false → H (j : Int) = some no))
    {e : Res} (he : H (xs.length : Int) = some e) : H 0 = some (if xs.all q = true then e else no) := by
  have key : ∀ d j : Nat, xs.length - j = d → j ≤ xs.length → H (j : Int) = some (if (xs.drop j).all q = true then e else no) := by
    intro d
    induction d with
    | zero =>
      intro j hd hj
      have : j = xs.length := by omega
      subst this
      simpa using he
    | succ d ih =>
      intro j hd hj
      obtain ⟨x, hx⟩ := at_some (show j < xs.length by omega)
      obtain ⟨h1, h2⟩ := hr j x hx
      have e1 : xs.drop j = x :: xs.drop (j + 1) := by
        have hlt : j < xs.length := by omega
        rw [List.drop_eq_getElem_cons hlt]
        rw [List.getElem?_eq_getElem hlt] at hx
        rw [Option.some.inj hx]
      rw [e1, List.all_cons]
      cases hq : q x with
      | true => rw [Bool.true_and]; exact h1 hq _ (ih (j + 1) (by omega) (by omega))
      | false => rw [Bool.false_and]; exact h2 hq
  simpa using key xs.length 0 (by omega) (by omega)
theorem find_list {β : Type} {xs : List β} {q : β → Bool} {H : Int → Option Res}
    (hr : ∀ (j : Nat) (x : β), xs[j]? = some x → (q x = true → H (j : Int) = some ([i64 j], [])) ∧ (q x = false → ∀ r, H ((j + 1 : Nat) : Int) = some r → H (j : Int) = some r))
    (he : H (xs.length : Int) = some ([i64 (-1)], [])) : ∃ r : Int, H 0 = some ([i64 r], []) ∧ decide (r ≥ 0) = xs.any q := by
  have key : ∀ d j : Nat, xs.length - j = d → j ≤ xs.length → ∃ r : Int, H (j : Int) = some ([i64 r], []) ∧ decide (r ≥ 0) = (xs.drop j).any q := by
    intro d
    induction d with
    | zero =>
      intro j hd hj
      have : j = xs.length := by omega
      subst this
      exact ⟨-1, he, by simp⟩
    | succ d ih =>
      intro j hd hj
      obtain ⟨x, hx⟩ := at_some (show j < xs.length by omega)
      obtain ⟨h1, h2⟩ := hr j x hx
      have e1 : xs.drop j = x :: xs.drop (j + 1) := by
        have hlt : j < xs.length := by omega
        rw [List.drop_eq_getElem_cons hlt]
        rw [List.getElem?_eq_getElem hlt] at hx
        rw [Option.some.inj hx]
      rw [e1, List.any_cons]
      cases hq : q x with
      | true => exact ⟨j, h1 hq, by simp⟩
      | false =>
        obtain ⟨r, h3, h4⟩ := ih (j + 1) (by omega) (by omega)
        exact ⟨r, h2 hq _ h3, by rw [h4]; simp⟩
  simpa using key xs.length 0 (by omega) (by omega)
abbrev big : Nat := 1073741824
theorem getD_at {β : Type} {e : β → TV} {xs : List β} {j : Nat} {x : β} (h : xs[j]? = some x) : (xs.map e).getD (0 + ((j : Nat) : Int).toNat) (.dead ()) = e x := by
  rw [zN]; exact getD_map' h
theorem not_any {β : Type} {xs : List β} {p : β → Prop} [DecidablePred p] : (!xs.any fun x => !decide (p x)) = decide (∀ x ∈ xs, p x) := by
  induction xs with
  | nil => simp
  | cons x xs ih =>
    rw [List.any_cons, Bool.not_or, Bool.not_not, ih]
    simp
theorem all_dec {β : Type} {xs : List β} {p : β → Prop} [DecidablePred p] : xs.all (fun x => decide (p x)) = decide (∀ x ∈ xs, p x) := by
  induction xs with
  | nil => simp
  | cons x xs ih => rw [List.all_cons, ih]; simp
/-! ### Rows of lines -/
theorem t151 (x : F) : tw cx 151 [eF x, .pt true () (i64 12)] = some ([tb (!decide (flatP x))], []) := by
  refine e151 ?_
  rw [N151, C152_S (t152 x), S_ret]
theorem t181 (xs : List F) (hl : xs.length ≤ big) : ∃ r : Int, tw cx 181 [rF true xs, .cl 151 [.pt true () (i64 12)]] = some ([i64 r], []) ∧ decide (r ≥ 0) = xs.any fun x => !decide (flatP x) := by
  obtain ⟨r, h1, h2⟩ := find_list (xs := xs) (q := fun x => !decide (flatP x)) (H := fun i => S cx 181 (H181_0 (xs.map eF) 12 i)) (fun j x hx => by
    have hj := lt_of_at hx
    have e1 : (xs.map eF).length = xs.length := List.length_map _
    have hb : xs.length ≤ 1073741824 := hl
    refine ⟨fun hq => ?_, fun hq r h => ?_⟩
    · refine eH181_0 (bif_pos (dT (by omega)) (ck_pos (dT2 (by omega)) ?_))
      rw [getD_at hx, V6_S, C151_S (t151 x)]
      exact bif_pos hq rfl
    · refine eH181_0 (bif_pos (dT (by omega)) (ck_pos (dT2 (by omega)) ?_))
      rw [getD_at hx, V6_S, C151_S (t151 x)]
      refine bif_neg hq (back_of ?_)
      rw [inc64 hj hb]
      exact h) (eH181_0 (bif_neg (dF (by simp)) rfl))
  exact ⟨r, e181 h1, h2⟩
theorem t150 (xs : List F) (hl : xs.length ≤ big) : tw cx 150 [rF true xs, .cl 151 [.pt true () (i64 12)]] = some ([tb (xs.any fun x => !decide (flatP x))], []) := by
  obtain ⟨r, h1, h2⟩ := t181 xs hl
  refine e150 ?_
  rw [N150, C181_S h1, S_ret, h2]
theorem t118 (xs : List F) (hl : xs.length ≤ big) : tw cx 118 [rF true xs, i64 12] = some ([tb (decide (xs.length ≤ 60 ∧ ∀ x ∈ xs, flatP x))], []) := by
  refine e118 ?_
  rw [N118, S_bif, C150_S (t150 xs hl), S_ret, S_ret, not_any, List.length_map]
  by_cases c : xs.length ≤ 60
  · rw [if_pos (dT (by omega))]; simp [c]
  · rw [if_neg (by rw [dF (by omega)]; simp)]; simp [c]
/-! ### Rows of words -/
def wordP (n : Int) : Prop := 0 ≤ n ∧ n ≤ 65535
instance (n : Int) : Decidable (wordP n) := by unfold wordP; infer_instance
theorem t158 (n : Int) : tw cx 158 [i64 n] = some ([tb (!decide (wordP n))], []) := by
  refine e158 ?_
  rw [N158, C159_S (t159 n), S_ret]; rfl
theorem t184 (xs : List Int) (hl : xs.length ≤ big) : ∃ r : Int, tw cx 184 [rI true xs, .cl 158 []] = some ([i64 r], []) ∧ decide (r ≥ 0) = xs.any fun x => !decide (wordP x) := by
  obtain ⟨r, h1, h2⟩ := find_list (xs := xs) (q := fun x => !decide (wordP x)) (H := fun i => S cx 184 (H184_0 (xs.map i64) i)) (fun j x hx => by
    have hj := lt_of_at hx
    have e1 : (xs.map i64).length = xs.length := List.length_map _
    have hb : xs.length ≤ 1073741824 := hl
    refine ⟨fun hq => ?_, fun hq r h => ?_⟩
    · refine eH184_0 (bif_pos (dT (by omega)) (ck_pos (dT2 (by omega)) ?_))
      rw [getD_at hx, S_int, C158_S (t158 x)]
      exact bif_pos hq rfl
    · refine eH184_0 (bif_pos (dT (by omega)) (ck_pos (dT2 (by omega)) ?_))
      rw [getD_at hx, S_int, C158_S (t158 x)]
      refine bif_neg hq (back_of ?_)
      rw [inc64 hj hb]
      exact h) (eH184_0 (bif_neg (dF (by simp)) rfl))
  exact ⟨r, e184 h1, h2⟩
theorem t156w (xs : List Int) (hl : xs.length ≤ big) : tw cx 156 [rI true xs, .cl 158 []] = some ([tb (xs.any fun x => !decide (wordP x))], []) := by
  obtain ⟨r, h1, h2⟩ := t184 xs hl
  refine e156 ?_
  rw [N156, C184_S h1, S_ret, h2]
theorem t128 (xs : List Int) (hl : xs.length ≤ big) : tw cx 128 [rI true xs] = some ([tb (decide (∀ x ∈ xs, wordP x))], []) := by
  refine e128 ?_
  rw [N128, C156_1_S (t156w xs hl), S_ret, not_any]
theorem t122 (xs : List Int) (many : Int) (hl : xs.length ≤ big) : tw cx 122 [rI true xs, i64 many] = some ([tb (decide ((∀ x ∈ xs, wordP x) ∧ (xs.length : Int) = many))], []) := by
  refine e122 ?_
  have := all_list (xs := xs) (q := fun x => decide (wordP x)) (H := fun i => S cx 122 (H122_0 (xs.map i64) many i)) (yes := fun _ => none) (no := ([tb false], [])) (fun j x hx => by
    have hj := lt_of_at hx
    have e1 : (xs.map i64).length = xs.length := List.length_map _
    have hb : xs.length ≤ 1073741824 := hl
    refine ⟨fun hq r h => ?_, fun hq => ?_⟩
    · refine eH122_0 (bif_pos (dT (by omega)) (ck_pos (dT2 (by omega)) ?_))
      rw [getD_at hx, S_int, C112_S (t112 ..)]
      refine bif_neg (by rw [show decide (0 ≤ x ∧ x ≤ 65535) = true from hq]; rfl) (back_of ?_)
      rw [inc64 hj hb]
      exact h
    · refine eH122_0 (bif_pos (dT (by omega)) (ck_pos (dT2 (by omega)) ?_))
      rw [getD_at hx, S_int, C112_S (t112 ..)]
      exact bif_pos (by rw [show decide (0 ≤ x ∧ x ≤ 65535) = false from hq]; rfl) rfl) (eH122_0 (bif_neg (dF (by simp)) rfl))
  refine Eq.trans this ?_
  rw [all_dec]
  by_cases c : ∀ x ∈ xs, wordP x
  · rw [if_pos (by simpa using c)]; exact leaf (by rw [List.length_map, beq_iff_eq]; exact ⟨fun h => ⟨c, h⟩, fun h => h.2⟩)
  · rw [if_neg (by simpa using c)]; exact leaf (by simp only [Bool.false_eq_true, false_iff]; exact fun h => c h.1)
/-- A good state. -/
def stateP (s : Sx) : Prop := s.loc.length = 8 ∧ s.mem.length = 16 ∧ s.told.length ≤ 100 ∧ (∀ x ∈ s.loc, wordP x) ∧ (∀ x ∈ s.mem, wordP x) ∧ (∀ x ∈ s.told, wordP x)
instance (s : Sx) : Decidable (stateP s) := by unfold stateP; infer_instance
def smallS (s : Sx) : Prop := s.loc.length ≤ big ∧ s.mem.length ≤ big ∧ s.told.length ≤ big
theorem t86 (s : Sx) (h : smallS s) : tw cx 86 [eS true s] = some ([tb (decide (stateP s))], []) := by
  refine e86 ?_
  simp only [N86, C122_S (t122 _ _ h.1), C122_S (t122 _ _ h.2.1), List.length_map, C122_S (t122 _ _ h.2.2), S_bif, S_ret, decide_eq_true_eq]
  have e : ((s.told.length : Nat) : Int) ≤ 100 ↔ s.told.length ≤ 100 := by omega
  have e1 : ((s.loc.length : Nat) : Int) = 8 ↔ s.loc.length = 8 := by omega
  have e2 : ((s.mem.length : Nat) : Int) = 16 ↔ s.mem.length = 16 := by omega
  simp only [e, e1, e2]
  repeat' split
  all_goals exact leaf (by simp only [stateP, decide_eq_true_eq, Bool.false_eq_true, false_iff, true_iff, eq_self]; grind)
theorem t92 (s : Sx) (h : smallS s) : tw cx 92 [eS true s] = some ([tb (decide (stateP s))], []) := by
  refine e92 ?_
  simp only [N92, C128_S (t128 _ h.1), C128_S (t128 _ h.2.1), List.length_map, C128_S (t128 _ h.2.2), S_bif, S_ret, decide_eq_true_eq, beq_iff_eq]
  have e : ((s.told.length : Nat) : Int) ≤ 100 ↔ s.told.length ≤ 100 := by omega
  have e1 : ((s.loc.length : Nat) : Int) = 8 ↔ s.loc.length = 8 := by omega
  have e2 : ((s.mem.length : Nat) : Int) = 16 ↔ s.mem.length = 16 := by omega
  simp only [e, e1, e2]
  repeat' split
  all_goals exact leaf (by simp only [stateP, decide_eq_true_eq, Bool.false_eq_true, false_iff, true_iff, eq_self]; grind)
end Go.Tree.Q

/- Good blocks and flows. -/
namespace Go.Tree.Q
open Go.Proofs
set_option linter.unusedVariables false
set_option linter.unusedSimpArgs false
def goP (b : Bk) : Prop :=
  (b.go = 1 ∧ b.next.length = 1 ∧ b.test = 0) ∨ (b.go = 2 ∧ b.next.length = 2 ∧ 0 ≤ b.test ∧ b.test ≤ 11) ∨
    (b.go = 5 ∧ (2 ≤ b.next.length ∧ b.next.length ≤ 6) ∧ 0 ≤ b.test ∧ b.test ≤ 11) ∨ ((b.go = 3 ∨ b.go = 4) ∧ b.next.length = 0 ∧ b.test = 0)
instance (b : Bk) : Decidable (goP b) := by unfold goP; infer_instance
/-- A good block. -/
def blockP (n : Int) (b : Bk) : Prop := (∀ x ∈ b.code, flatP x) ∧ b.code.length ≤ 60 ∧ (∀ k ∈ b.next, 0 ≤ k ∧ k < n) ∧ goP b
instance (n : Int) (b : Bk) : Decidable (blockP n b) := by unfold blockP; infer_instance
/-- A good flow. -/
def flowP (f : List Bk) : Prop := (∀ b ∈ f, blockP f.length b) ∧ 1 ≤ f.length ∧ f.length ≤ 64
instance (f : List Bk) : Decidable (flowP f) := by unfold flowP; infer_instance
def smallB (b : Bk) : Prop := b.code.length ≤ big ∧ b.next.length ≤ big
def smallF (f : List Bk) : Prop := f.length ≤ big ∧ ∀ b ∈ f, smallB b
theorem t157 (k many : Int) (hm : 0 ≤ many ∧ many ≤ 1073741824) : tw cx 157 [i64 k, .pt true () (i64 many)] = some ([tb (!decide (0 ≤ k ∧ k < many))], []) := by
  refine e157 ?_
  rw [N157, C65_S (t65 ..), S_ret, w64_id (by omega) (by omega)]
  have : (0 ≤ k ∧ k ≤ many - 1) ↔ (0 ≤ k ∧ k < many) := by omega
  simp only [this]
theorem t184b (xs : List Int) (many : Int) (hm : 0 ≤ many ∧ many ≤ 1073741824) (hl : xs.length ≤ big) : ∃ r : Int, tw cx 184 [rI true xs, .cl 157 [.pt true () (i64 many)]] = some ([i64 r], []) ∧ decide (r ≥ 0) = xs.any fun k => !decide (0 ≤ k ∧ k < many) := by
  obtain ⟨r, h1, h2⟩ := find_list (xs := xs) (q := fun k => !decide (0 ≤ k ∧ k < many)) (H := fun i => S cx 184 (H184_b_0 (xs.map i64) many i)) (fun j x hx => by
    have hj := lt_of_at hx
    have e1 : (xs.map i64).length = xs.length := List.length_map _
    have hb : xs.length ≤ 1073741824 := hl
    refine ⟨fun hq => ?_, fun hq r h => ?_⟩
    · refine eH184_b_0 (bif_pos (dT (by omega)) (ck_pos (dT2 (by omega)) ?_))
      rw [getD_at hx, S_int, C157_S (t157 x many hm)]
      exact bif_pos hq rfl
    · refine eH184_b_0 (bif_pos (dT (by omega)) (ck_pos (dT2 (by omega)) ?_))
      rw [getD_at hx, S_int, C157_S (t157 x many hm)]
      refine bif_neg hq (back_of ?_)
      rw [inc64 hj hb]
      exact h) (eH184_b_0 (bif_neg (dF (by simp)) rfl))
  exact ⟨r, e184b h1, h2⟩
theorem t156 (xs : List Int) (many : Int) (hm : 0 ≤ many ∧ many ≤ 1073741824) (hl : xs.length ≤ big) : tw cx 156 [rI true xs, .cl 157 [.pt true () (i64 many)]] = some ([tb (xs.any fun k => !decide (0 ≤ k ∧ k < many))], []) := by
  obtain ⟨r, h1, h2⟩ := t184b xs many hm hl
  refine e156b ?_
  rw [N156b, C184_1_S h1, S_ret, h2]
theorem any_not {β : Type} {xs : List β} {p : β → Prop} [DecidablePred p] : ((xs.any fun x => !decide (p x)) = true) ↔ ¬ ∀ x ∈ xs, p x := by
  have := not_any (xs := xs) (p := p)
  cases h : (xs.any fun x => !decide (p x)) with
  | true => rw [h] at this; simp only [Bool.not_true] at this; simpa using (of_decide_eq_false this.symm)
  | false => rw [h] at this; simp only [Bool.not_false] at this; simpa using (of_decide_eq_true this.symm)
theorem t127 (b : Bk) (n : Int) (hn : 0 ≤ n ∧ n ≤ 1073741824) (h : smallB b) : tw cx 127 [i64 b.go, i64 b.test, rI true b.next, i64 12, i64 n] = some ([tb (decide ((∀ k ∈ b.next, 0 ≤ k ∧ k < n) ∧ goP b))], []) := by
  obtain ⟨code, go, test, next⟩ := b
  refine e127 ?_
  have h2 : next.length ≤ big := h.2
  have hw : w64 (12 - 1) = 11 := by rw [w64_id (by omega) (by omega)]; rfl
  simp only [N127, N127_s0, N127_s1, C155_S (t155 _), C65_S (t65 _ _ _), C156_S (t156 next n hn h2), S_bif, S_ret, decide_eq_true_eq, beq_iff_eq, bne_iff_ne, ne_eq, Bool.not_eq_true', decide_eq_false_iff_not, hw, any_not, List.length_map]
  have f1 : ((next.length : Nat) : Int) = 1 ↔ next.length = 1 := by omega
  have f2 : ((next.length : Nat) : Int) = 2 ↔ next.length = 2 := by omega
  have f0 : ((next.length : Nat) : Int) = 0 ↔ next.length = 0 := by omega
  have f3 : (2 ≤ ((next.length : Nat) : Int) ∧ ((next.length : Nat) : Int) ≤ 6) ↔ (2 ≤ next.length ∧ next.length ≤ 6) := by omega
  repeat' split
  all_goals exact leaf (by simp only [goP, decide_eq_true_eq, beq_iff_eq, Bool.false_eq_true, false_iff, true_iff, eq_self, f1, f2, f0, f3]; grind)
theorem t126 (b : Bk) (f : List Bk) (hn : f.length ≤ big) (h : smallB b) (q : Bool) : tw cx 126 [eB true b, .pt true () (rB true q f)] = some ([tb (!decide (blockP f.length b))], []) := by
  refine e126 ?_
  have hb : f.length ≤ 1073741824 := hn
  rw [N126, C118_S (t118 b.code h.1), List.length_map, S_bif, C127_S (t127 b f.length (by omega) h), S_ret, S_ret]
  have e : ∀ {x : Bool} {p : Prop} [Decidable p], (x = true ↔ ¬ p) → (some ([tb x], []) : Option Res) = some ([tb (!decide p)], []) := fun {x p} _ hx => by
    have : x = !decide p := by
      cases x with
      | true => simpa using hx
      | false => simpa using hx
    rw [this]
  split
  · rename_i c
    exact e (by simp only [blockP, Bool.not_eq_true', decide_eq_false_iff_not] at c ⊢; grind)
  · rename_i c
    exact e (by simp only [blockP, Bool.not_eq_true', decide_eq_false_iff_not] at c ⊢; grind)
theorem t154 (f : List Bk) (hf : smallF f) : ∃ r : Int, tw cx 154 [rB true false f, .cl 126 [.pt true () (rB true false f)]] = some ([i64 r], []) ∧ decide (r ≥ 0) = f.any fun b => !decide (blockP f.length b) := by
  obtain ⟨r, h1, h2⟩ := find_list (xs := f) (q := fun b => !decide (blockP f.length b)) (H := fun i => S cx 154 (H154_0 (f.map (eB false)) (f.map (eB false)) i)) (fun j x hx => by
    have hj := lt_of_at hx
    have e1 : (f.map (eB false)).length = f.length := List.length_map _
    have hb : f.length ≤ 1073741824 := hf.1
    have hs := hf.2 x (List.mem_of_getElem? hx)
    refine ⟨fun hq => ?_, fun hq r h => ?_⟩
    · refine eH154_0 (bif_pos (dT (by omega)) (ck_pos (dT2 (by omega)) ?_))
      rw [getD_at hx, V4_S, C126_S (t126 x f hf.1 hs false)]
      exact bif_pos hq rfl
    · refine eH154_0 (bif_pos (dT (by omega)) (ck_pos (dT2 (by omega)) ?_))
      rw [getD_at hx, V4_S, C126_S (t126 x f hf.1 hs false)]
      refine bif_neg hq (back_of ?_)
      rw [inc64 hj hb]
      exact h) (eH154_0 (bif_neg (dF (by simp)) rfl))
  exact ⟨r, e154 h1, h2⟩
theorem t91 (f : List Bk) (hf : smallF f) : tw cx 91 [rB true false f] = some ([tb (decide (flowP f))], []) := by
  refine e91 ?_
  obtain ⟨r, h1, h2⟩ := t154 f hf
  have h3 : tw cx 125 [rB true false f, .cl 126 [.pt true () (rB true false f)]] = some ([tb (f.any fun b => !decide (blockP f.length b))], []) := by
    refine e125 ?_
    rw [N125, C154_S h1, S_ret, h2]
  rw [N91, List.length_map, C65_S (t65 ..), S_bif, C125_S h3, S_ret, S_ret, not_any]
  split
  · rename_i c
    exact leaf (by simp only [flowP, Bool.not_eq_true', decide_eq_false_iff_not, Bool.false_eq_true, false_iff] at c ⊢; omega)
  · rename_i c
    exact leaf (by simp only [flowP, Bool.not_eq_true', decide_eq_false_iff_not, decide_eq_true_eq] at c ⊢; exact ⟨fun h => ⟨h, by omega, by omega⟩, fun h => h.1⟩)
theorem t121 (b : Bk) (n : Int) (h : smallB b) : tw cx 121 [eB true b, i64 n] = some ([tb (decide (blockP n b))], []) := by
  obtain ⟨code, go, test, next⟩ := b
  refine e121 ?_
  have h1 : code.length ≤ 1073741824 := h.1
  have h2 : next.length ≤ 1073741824 := h.2
  have f1 : ((next.length : Nat) : Int) = 1 ↔ next.length = 1 := by omega
  have f2 : ((next.length : Nat) : Int) = 2 ↔ next.length = 2 := by omega
  have f0 : ((next.length : Nat) : Int) = 0 ↔ next.length = 0 := by omega
  have f3 : (2 ≤ ((next.length : Nat) : Int) ∧ ((next.length : Nat) : Int) ≤ 6) ↔ (2 ≤ next.length ∧ next.length ≤ 6) := by omega
  have f6 : ((code.length : Nat) : Int) ≤ 60 ↔ code.length ≤ 60 := by omega
  have hend : S cx 121 (H121_1 n (code.map eF) go test (next.map i64) (next.length : Int)) = some ([tb (decide (code.length ≤ 60 ∧ goP ⟨code, go, test, next⟩))], []) := by
    refine eH121_1 (bif_neg (dF (by simp)) ?_)
    simp only [NH121_1_s0, C147_S (t147 _), C112_S (t112 _ _ _), S_bif, S_ret, decide_eq_true_eq, beq_iff_eq, List.length_map, f0, f1, f2, f3, f6]
    repeat' split
    all_goals exact leaf (by simp only [goP, decide_eq_true_eq, Bool.false_eq_true, false_iff, true_iff, eq_self]; grind)
  have hin := all_list (xs := next) (q := fun k => decide (0 ≤ k ∧ k < n)) (H := fun i => S cx 121 (H121_1 n (code.map eF) go test (next.map i64) i)) (yes := fun _ => none) (no := ([tb false], [])) (fun j x hx => by
    have hj := lt_of_at hx
    have e1 : (next.map i64).length = next.length := List.length_map _
    refine ⟨fun hq r h => ?_, fun hq => ?_⟩
    · refine eH121_1 (bif_pos (dT (by omega)) (ck_pos (dT2 (by omega)) ?_))
      have hq' := of_decide_eq_true hq
      rw [getD_at hx, S_int]
      refine bif_neg (dF (by omega)) (bif_neg (dF (by omega)) (back_of ?_))
      rw [inc64 hj h2]
      exact h
    · refine eH121_1 (bif_pos (dT (by omega)) (ck_pos (dT2 (by omega)) ?_))
      have hq' := of_decide_eq_false hq
      rw [getD_at hx, S_int]
      by_cases c : x < 0
      · exact bif_pos (dT c) rfl
      · exact bif_neg (dF c) (bif_pos (dT (by omega)) rfl)) hend
  have hout := all_list (xs := code) (q := fun x => decide (flatP x)) (H := fun i => S cx 121 (H121_0 n (code.map eF) go test (next.map i64) i)) (yes := fun _ => none) (no := ([tb false], [])) (fun j x hx => by
    have hj := lt_of_at hx
    have e1 : (code.map eF).length = code.length := List.length_map _
    refine ⟨fun hq r h => ?_, fun hq => ?_⟩
    · refine eH121_0 (bif_pos (dT (by omega)) (ck_pos (dT2 (by omega)) ?_))
      rw [getD_at hx, V6_S, C111_S (t111 x)]
      refine bif_neg (by rw [show decide (flatP x) = true from hq]; rfl) (back_of ?_)
      rw [inc64 hj h1]
      exact h
    · refine eH121_0 (bif_pos (dT (by omega)) (ck_pos (dT2 (by omega)) ?_))
      rw [getD_at hx, V6_S, C111_S (t111 x)]
      exact bif_pos (by rw [show decide (flatP x) = false from hq]; rfl) rfl) (eH121_0 (bif_neg (dF (by simp)) hin))
  refine Eq.trans hout ?_
  rw [all_dec, all_dec]
  by_cases c1 : ∀ x ∈ code, flatP x
  · rw [if_pos (by simpa using c1)]
    by_cases c2 : ∀ k ∈ next, 0 ≤ k ∧ k < n
    · rw [if_pos (by simpa using c2)]
      exact leaf (by simp only [blockP, decide_eq_true_eq]; exact ⟨fun h => ⟨c1, h.1, c2, h.2⟩, fun h => ⟨h.2.1, h.2.2.2⟩⟩)
    · rw [if_neg (by simpa using c2)]
      exact leaf (by simp only [blockP, Bool.false_eq_true, false_iff]; exact fun h => c2 h.2.2.1)
  · rw [if_neg (by simpa using c1)]
    exact leaf (by simp only [blockP, Bool.false_eq_true, false_iff]; exact fun h => c1 h.1)
theorem t85 (f : List Bk) (hf : smallF f) : tw cx 85 [rB true false f] = some ([tb (decide (flowP f))], []) := by
  refine e85 ?_
  have hend : S cx 85 (H85_0 (f.map (eB false)) (f.length : Int)) = some ([tb (decide (1 ≤ f.length ∧ f.length ≤ 64))], []) := by
    refine eH85_0 (bif_neg (dF (by simp)) ?_)
    rw [C112_S (t112 ..), S_ret, List.length_map]
    exact leaf (by simp only [decide_eq_true_eq]; omega)
  have hout := all_list (xs := f) (q := fun b => decide (blockP f.length b)) (H := fun i => S cx 85 (H85_0 (f.map (eB false)) i)) (yes := fun _ => none) (no := ([tb false], [])) (fun j x hx => by
    have hj := lt_of_at hx
    have e1 : (f.map (eB false)).length = f.length := List.length_map _
    have hb : f.length ≤ 1073741824 := hf.1
    have hs := hf.2 x (List.mem_of_getElem? hx)
    refine ⟨fun hq r h => ?_, fun hq => ?_⟩
    · refine eH85_0 (bif_pos (dT (by omega)) (ck_pos (dT2 (by omega)) ?_))
      rw [getD_at hx, V4_S, e1, C121_S (t121 x f.length hs)]
      refine bif_neg (by rw [show decide (blockP f.length x) = true from hq]; rfl) (back_of ?_)
      rw [inc64 hj hb]
      exact h
    · refine eH85_0 (bif_pos (dT (by omega)) (ck_pos (dT2 (by omega)) ?_))
      rw [getD_at hx, V4_S, e1, C121_S (t121 x f.length hs)]
      exact bif_pos (by rw [show decide (blockP f.length x) = false from hq]; rfl) rfl) hend
  refine Eq.trans hout ?_
  rw [all_dec]
  by_cases c1 : ∀ b ∈ f, blockP f.length b
  · rw [if_pos (by simpa using c1)]
    exact leaf (by simp only [flowP, decide_eq_true_eq]; exact ⟨fun h => ⟨c1, h⟩, fun h => h.2⟩)
  · rw [if_neg (by simpa using c1)]
    exact leaf (by simp only [flowP, Bool.false_eq_true, false_iff]; exact fun h => c1 h.1)
end Go.Tree.Q

/- A flat step. -/
namespace Go.Tree.Q
open Go.Proofs
set_option linter.unusedVariables false
set_option linter.unusedSimpArgs false
def bitV (p : Prop) [Decidable p] : Int := if p then 1 else 0
/-- A word's step: what comes of it, and whether it does. -/
def doV (op a b : Int) : Int × Bool :=
  if op = 4 then (w64 (((BitVec.ofInt 64 (w64 (a + b)) &&& BitVec.ofInt 64 65535).toNat : Int)), true)
  else if op = 5 then (w64 (((BitVec.ofInt 64 (w64 (a - b)) &&& BitVec.ofInt 64 65535).toNat : Int)), true)
  else if op = 6 then (w64 (((BitVec.ofInt 64 (w64 (a * b)) &&& BitVec.ofInt 64 65535).toNat : Int)), true)
  else if op = 7 then (if b = 0 then (0, false) else (w64 (a.tdiv b), true))
  else if op = 8 then (bitV (a < b), true)
  else (bitV (a = b), true)
theorem t183 (b : Bool) : tw cx 183 [tb b] = some ([i64 (bitV (b = true))], []) := by
  refine e183 ?_
  cases b <;> rfl
theorem t134 (b : Bool) : tw cx 134 [tb b] = some ([i64 (bitV (b = true))], []) := by
  refine e134 ?_
  cases b <;> rfl
theorem bitV_dec (p : Prop) [Decidable p] : bitV (decide p = true) = bitV p := by
  unfold bitV; by_cases h : p <;> simp [h]
theorem t153 (op a b : Int) : tw cx 153 [i64 op, i64 a, i64 b] = some ([i64 (doV op a b).1, tb (doV op a b).2], []) := by
  refine e153 ?_
  simp only [N153, C183_S (t183 _), S_bif, S_ret, S_ck, beq_iff_eq, doV, bitV_dec]
  have e : bitV ((a == b) = true) = bitV (a = b) := by unfold bitV; simp
  try simp only [e]
  repeat' split
  all_goals first | rfl | (rename_i h1 h2; simp only [Bool.not_eq_true', decide_eq_false_iff_not] at h2; exact absurd h1 h2) | skip
theorem t130 (op a b : Int) : tw cx 130 [i64 op, i64 a, i64 b] = some ([i64 (doV op a b).1, tb (doV op a b).2], []) := by
  refine e130 ?_
  simp only [N130, C134_S (t134 _), S_bif, S_ret, S_ck, beq_iff_eq, doV, bitV_dec]
  have e : bitV ((a == b) = true) = bitV (a = b) := by unfold bitV; simp
  try simp only [e]
  repeat' split
  all_goals first | rfl | (rename_i h1 h2; simp only [Bool.not_eq_true', decide_eq_false_iff_not] at h2; exact absurd h1 h2) | skip
theorem and_word (x : Int) : wordP (w64 (((BitVec.ofInt 64 x &&& BitVec.ofInt 64 65535).toNat : Int))) := by
  have h : (BitVec.ofInt 64 x &&& BitVec.ofInt 64 65535).toNat ≤ 65535 := by
    rw [BitVec.toNat_and]
    exact Nat.le_trans Nat.and_le_right (by decide)
  rw [w64_id (by omega) (by omega)]
  exact ⟨by omega, by omega⟩
theorem doV_word {op a b : Int} (ha : wordP a) (hb : wordP b) : wordP (doV op a b).1 := by
  obtain ⟨a0, a1⟩ := ha
  obtain ⟨b0, b1⟩ := hb
  have hbit : ∀ (p : Prop) [Decidable p], wordP (bitV p) := fun p _ => by unfold bitV wordP; split <;> omega
  unfold doV
  split
  · exact and_word _
  · split
    · exact and_word _
    · split
      · exact and_word _
      · split
        · split
          · exact ⟨by omega, by omega⟩
          · have h1 : 0 ≤ a.tdiv b := Int.tdiv_nonneg a0 b0
            have h2 : a.tdiv b ≤ a := by
              rw [Int.tdiv_eq_ediv_of_nonneg a0]
              exact Int.ediv_le_self b a0
            show wordP (w64 (a.tdiv b))
            rw [w64_id (by omega) (by omega)]
            exact ⟨h1, by omega⟩
        · split <;> exact hbit _
abbrev rdV (v : List Int) (i : Int) : Int := v.getD i.toNat 0
/-- A flat step: whether it does, the names, the state. -/
def stepV (x : F) (v : List Int) (s : Sx) : Bool × List Int × Sx :=
  if x.op = 1 then (true, v.set x.dst.toNat x.n, s)
  else if x.op = 2 then (true, v.set x.dst.toNat (rdV v x.a), s)
  else if x.op = 3 then (if (doV x.fdo (rdV v x.a) (rdV v x.b)).2 = true then (true, v.set x.dst.toNat (doV x.fdo (rdV v x.a) (rdV v x.b)).1, s) else (false, v, s))
  else if x.op = 4 then (if rdV v x.a ≥ 16 then (false, v, s) else (true, v.set x.dst.toNat (rdV s.mem (rdV v x.a)), s))
  else if x.op = 5 then (if rdV v x.a ≥ 16 then (false, v, s) else (true, v, { s with mem := s.mem.set (rdV v x.a).toNat (rdV v x.b) }))
  else if s.told.length = 100 then (false, v, s) else (true, v, { s with told := s.told ++ [rdV v x.a] })
/-- What stands while a flow runs. -/
structure Inv (v : List Int) (s : Sx) : Prop where
  vl : v.length = 12
  vw : ∀ x ∈ v, wordP x
  ml : s.mem.length = 16
  mw : ∀ x ∈ s.mem, wordP x
  tl : s.told.length ≤ 100
theorem rdV_word {v : List Int} {i : Int} (hv : ∀ x ∈ v, wordP x) : wordP (rdV v i) := by
  unfold rdV
  rw [List.getD_eq_getElem?_getD]
  cases h : v[i.toNat]? with
  | none => exact ⟨by simp, by simp⟩
  | some y => exact hv y (List.mem_of_getElem? h)
theorem set_word {v : List Int} {i : Nat} {n : Int} (hv : ∀ x ∈ v, wordP x) (hn : wordP n) : ∀ x ∈ v.set i n, wordP x := fun x hx => by
  rcases List.mem_or_eq_of_mem_set hx with h | h
  · exact hv x h
  · rw [h]; exact hn
theorem Inv.step {x : F} {v : List Int} {s : Sx} (h : Inv v s) (hx : flatP x) : Inv (stepV x v s).2.1 (stepV x v s).2.2 := by
  have hn : x.op = 1 → wordP x.n := fun h1 => by
    obtain ⟨_, _, h⟩ := hx
    unfold wordP; omega
  have ra := rdV_word (i := x.a) h.vw
  have rb := rdV_word (i := x.b) h.vw
  unfold stepV
  split
  · rename_i c; exact ⟨by rw [List.length_set]; exact h.vl, set_word h.vw (hn c), h.ml, h.mw, h.tl⟩
  · split
    · exact ⟨by rw [List.length_set]; exact h.vl, set_word h.vw ra, h.ml, h.mw, h.tl⟩
    · split
      · split
        · exact ⟨by rw [List.length_set]; exact h.vl, set_word h.vw (doV_word ra rb), h.ml, h.mw, h.tl⟩
        · exact h
      · split
        · split
          · exact h
          · exact ⟨by rw [List.length_set]; exact h.vl, set_word h.vw (rdV_word h.mw), h.ml, h.mw, h.tl⟩
        · split
          · split
            · exact h
            · exact ⟨h.vl, h.vw, by rw [List.length_set]; exact h.ml, set_word h.mw rb, h.tl⟩
          · split
            · exact h
            · refine ⟨h.vl, h.vw, h.ml, h.mw, ?_⟩
              have := h.tl
              simp only [List.length_append, List.length_cons, List.length_nil]
              omega
abbrev eP (s : Sx) : TV := .pt false () (eS false s)
theorem getD_I {v : List Int} {i : Int} (h : i.toNat < v.length) : (v.map i64).getD (0 + i.toNat) (.dead ()) = i64 (rdV v i) := by
  rw [Nat.zero_add, List.getD_eq_getElem?_getD, List.getElem?_map, rdV, List.getD_eq_getElem?_getD, List.getElem?_eq_getElem h]
  rfl
theorem set_I {v : List Int} {i n : Int} : (v.map i64).set (0 + i.toNat) (i64 n) = (v.set i.toNat n).map i64 := by
  rw [Nat.zero_add, List.map_set]
theorem app_lim {xs ys : List Int} (h : xs.length + ys.length ≤ 1000000) : decide (((xs.map i64).length + (ys.map i64).length) * 8 < lim) = true := by
  have hl : lim = 140737488355328 := rfl
  rw [List.length_map, List.length_map, hl]
  exact dT (by omega)
set_option maxHeartbeats 1000000 in
theorem t123 (x : F) (v : List Int) (s : Sx) (h : Inv v s) (hx : flatP x) : tw cx 123 [eF x, rI false v, eP s] = some ([tb (stepV x v s).1], [rI false (stepV x v s).2.1, eP (stepV x v s).2.2]) := by
  obtain ⟨op, fdo, dst, a, b, n⟩ := x
  obtain ⟨loc, mem, told⟩ := s
  have hvl : v.length = 12 := h.vl
  have hml : mem.length = 16 := h.ml
  have htl : told.length ≤ 100 := h.tl
  have e1 : (v.map i64).length = 12 := by rw [List.length_map, hvl]
  have e2 : (mem.map i64).length = 16 := by rw [List.length_map, hml]
  have ra : wordP (rdV v a) := rdV_word h.vw
  obtain ⟨ra0, ra1⟩ := ra
  obtain ⟨_, _, hx⟩ := hx
  simp only at hx
  show tw cx 123 [.st [i64 op, i64 fdo, i64 dst, i64 a, i64 b, i64 n], rI false v, .pt false () (.st [rI false loc, rI false mem, rI false told])] = _
  refine e123 ?_
  rcases (show op = 1 ∨ op = 2 ∨ op = 3 ∨ op = 4 ∨ op = 5 ∨ op = 6 by omega) with rfl | rfl | rfl | rfl | rfl | rfl
  · refine bif_pos rfl (ck_pos (dT2 (by omega)) ?_)
    rw [S_ret, set_I]; rfl
  · refine bif_neg rfl (bif_pos rfl (ck_pos (dT2 (by omega)) ?_))
    rw [getD_I (by omega), S_int]
    refine ck_pos (dT2 (by omega)) ?_
    rw [S_ret, set_I]; rfl
  · refine bif_neg rfl (bif_neg rfl (bif_pos rfl (ck_pos (dT2 (by omega)) ?_)))
    rw [getD_I (by omega), S_int]
    refine ck_pos (dT2 (by omega)) ?_
    rw [getD_I (by omega), S_int, C153_S (t153 ..)]
    have es : stepV ⟨3, fdo, dst, a, b, n⟩ v ⟨loc, mem, told⟩ = (if (doV fdo (rdV v a) (rdV v b)).2 = true then (true, v.set dst.toNat (doV fdo (rdV v a) (rdV v b)).1, ⟨loc, mem, told⟩) else (false, v, ⟨loc, mem, told⟩)) := rfl
    rw [es]
    cases hd : (doV fdo (rdV v a) (rdV v b)).2 with
    | true =>
      refine bif_neg rfl (ck_pos (dT2 (by omega)) ?_)
      rw [S_ret, set_I]; rfl
    | false => exact bif_pos rfl rfl
  · refine bif_neg rfl (bif_neg rfl (bif_neg rfl (bif_pos rfl (ck_pos (dT2 (by omega)) ?_))))
    rw [getD_I (by omega), S_int]
    have es : stepV ⟨4, fdo, dst, a, b, n⟩ v ⟨loc, mem, told⟩ = (if rdV v a ≥ 16 then (false, v, ⟨loc, mem, told⟩) else (true, v.set dst.toNat (rdV mem (rdV v a)), ⟨loc, mem, told⟩)) := rfl
    rw [es]
    by_cases c : rdV v a ≥ 16
    · rw [if_pos c]
      exact bif_pos (dT c) rfl
    · rw [if_neg c]
      refine bif_neg (dF c) (ck_pos (dT2 (by omega)) ?_)
      rw [S_int]
      refine ck_pos (dT2 (by omega)) ?_
      rw [getD_I (by omega), S_int]
      refine ck_pos (dT2 (by omega)) ?_
      rw [S_ret, set_I]
  · refine bif_neg rfl (bif_neg rfl (bif_neg rfl (bif_neg rfl (bif_pos rfl (ck_pos (dT2 (by omega)) ?_)))))
    rw [getD_I (by omega), S_int]
    have es : stepV ⟨5, fdo, dst, a, b, n⟩ v ⟨loc, mem, told⟩ = (if rdV v a ≥ 16 then (false, v, ⟨loc, mem, told⟩) else (true, v, ⟨loc, mem.set (rdV v a).toNat (rdV v b), told⟩)) := rfl
    rw [es]
    by_cases c : rdV v a ≥ 16
    · rw [if_pos c]
      exact bif_pos (dT c) rfl
    · rw [if_neg c]
      refine bif_neg (dF c) (ck_pos (dT2 (by omega)) ?_)
      rw [S_int]
      refine ck_pos (dT2 (by omega)) ?_
      rw [getD_I (by omega), S_int]
      refine ck_pos (dT2 (by omega)) ?_
      rw [S_ret, set_I]
  · refine bif_neg rfl (bif_neg rfl (bif_neg rfl (bif_neg rfl (bif_neg rfl ?_))))
    have es : stepV ⟨6, fdo, dst, a, b, n⟩ v ⟨loc, mem, told⟩ = (if told.length = 100 then (false, v, ⟨loc, mem, told⟩) else (true, v, ⟨loc, mem, told ++ [rdV v a]⟩)) := rfl
    rw [es]
    have e3 : (told.map i64).length = told.length := List.length_map _
    by_cases c : told.length = 100
    · rw [if_pos c]
      exact bif_pos (by rw [e3, c]; rfl) rfl
    · rw [if_neg c]
      refine bif_neg (by rw [e3, beq_eq_false_iff_ne]; omega) (ck_pos (dT2 (by omega)) ?_)
      rw [getD_I (by omega), S_int]
      refine ck_pos (app_lim (ys := [rdV v a]) (by simp; omega)) ?_
      rw [S_ret]
      show _ = some ([tb true], [rI false v, Tr.pt false () (.st [rI false loc, rI false mem, sl false ⟨1, false⟩ ((told ++ [rdV v a]).map i64)])])
      rw [List.map_append]
      rfl
/-! ### The program's own -/
theorem t131 (s : Sx) (n : Int) (h : s.mem.length = 16) (hn : wordP n) : tw cx 131 [.pt true () (eS false s), i64 n] = some (if n ≥ 16 then ([i64 0, tb false], []) else ([i64 (rdV s.mem n), tb true], [])) := by
  obtain ⟨n0, n1⟩ := hn
  have e2 : (s.mem.map i64).length = 16 := by rw [List.length_map, h]
  refine e131 ?_
  by_cases c : n ≥ 16
  · rw [if_pos c]
    exact bif_pos (dT c) rfl
  · rw [if_neg c]
    refine bif_neg (dF c) (ck_pos (dT2 (by omega)) ?_)
    rw [getD_I (by omega), S_int, S_ret]
theorem t132 (s : Sx) (n m : Int) (h : s.mem.length = 16) (hn : wordP n) : tw cx 132 [eP s, i64 n, i64 m] = some (if n ≥ 16 then ([tb false], [eP s]) else ([tb true], [eP { s with mem := s.mem.set n.toNat m }])) := by
  obtain ⟨n0, n1⟩ := hn
  have e2 : (s.mem.map i64).length = 16 := by rw [List.length_map, h]
  refine e132 ?_
  by_cases c : n ≥ 16
  · rw [if_pos c]
    exact bif_pos (dT c) rfl
  · rw [if_neg c]
    refine bif_neg (dF c) (ck_pos (dT2 (by omega)) ?_)
    rw [S_ret, set_I]
theorem t133 (s : Sx) (n : Int) (h : s.told.length ≤ 100) : tw cx 133 [eP s, i64 n] = some (if s.told.length = 100 then ([tb false], [eP s]) else ([tb true], [eP { s with told := s.told ++ [n] }])) := by
  have e3 : (s.told.map i64).length = s.told.length := List.length_map _
  refine e133 ?_
  by_cases c : s.told.length = 100
  · rw [if_pos c]
    exact bif_pos (by rw [e3, c]; rfl) rfl
  · rw [if_neg c]
    refine bif_neg (by rw [e3, beq_eq_false_iff_ne]; omega) (ck_pos (app_lim (ys := [n]) (by simp; omega)) ?_)
    rw [S_ret]
    show _ = some ([tb true], [Tr.pt false () (.st [rI false s.loc, rI false s.mem, sl false ⟨1, false⟩ ((s.told ++ [n]).map i64)])])
    rw [List.map_append]
    rfl
set_option maxHeartbeats 1000000 in
theorem t94 (x : F) (v : List Int) (s : Sx) (h : Inv v s) (hx : flatP x) : tw cx 94 [eP s, eF x, rI false v] = some ([tb (stepV x v s).1], [eP (stepV x v s).2.2, rI false (stepV x v s).2.1]) := by
  have h131 := fun n hn => t131 s n h.ml hn
  have h132 := fun n m hn => t132 s n m h.ml hn
  have h133 := fun n => t133 s n h.tl
  obtain ⟨op, fdo, dst, a, b, n⟩ := x
  obtain ⟨loc, mem, told⟩ := s
  have hvl : v.length = 12 := h.vl
  have hml : mem.length = 16 := h.ml
  have htl : told.length ≤ 100 := h.tl
  have e1 : (v.map i64).length = 12 := by rw [List.length_map, hvl]
  have e2 : (mem.map i64).length = 16 := by rw [List.length_map, hml]
  have ra : wordP (rdV v a) := rdV_word h.vw
  have ra' := ra
  obtain ⟨ra0, ra1⟩ := ra'
  obtain ⟨_, _, hx⟩ := hx
  simp only at hx
  have hG : ∀ (ok : Bool) (v' : List Int) (s' : Sx), S cx 94 (G94_0 ok (s'.loc.map i64) (s'.mem.map i64) (s'.told.map i64) (v'.map i64)) = some ([tb ok], [eP s', rI false v']) := fun ok v' s' => eG94_0 rfl
  show tw cx 94 [Tr.pt false () (.st [rI false loc, rI false mem, rI false told]), .st [i64 op, i64 fdo, i64 dst, i64 a, i64 b, i64 n], rI false v] = _
  refine e94 ?_
  rcases (show op = 1 ∨ op = 2 ∨ op = 3 ∨ op = 4 ∨ op = 5 ∨ op = 6 by omega) with rfl | rfl | rfl | rfl | rfl | rfl
  · refine bif_pos rfl (ck_pos (dT2 (by omega)) ?_)
    rw [set_I]; exact hG true _ ⟨loc, mem, told⟩
  · refine bif_neg rfl (bif_pos rfl (ck_pos (dT2 (by omega)) ?_))
    rw [getD_I (by omega), S_int]
    refine ck_pos (dT2 (by omega)) ?_
    rw [set_I]; exact hG true _ ⟨loc, mem, told⟩
  · refine bif_neg rfl (bif_neg rfl (bif_pos rfl (ck_pos (dT2 (by omega)) ?_)))
    rw [getD_I (by omega), S_int]
    refine ck_pos (dT2 (by omega)) ?_
    rw [getD_I (by omega), S_int, C130_S (t130 ..)]
    have es : stepV ⟨3, fdo, dst, a, b, n⟩ v ⟨loc, mem, told⟩ = (if (doV fdo (rdV v a) (rdV v b)).2 = true then (true, v.set dst.toNat (doV fdo (rdV v a) (rdV v b)).1, ⟨loc, mem, told⟩) else (false, v, ⟨loc, mem, told⟩)) := rfl
    rw [es]
    cases hd : (doV fdo (rdV v a) (rdV v b)).2 with
    | true =>
      refine bif_pos rfl (ck_pos (dT2 (by omega)) ?_)
      rw [set_I]; exact hG true _ ⟨loc, mem, told⟩
    | false => exact bif_neg rfl (hG false v ⟨loc, mem, told⟩)
  · refine bif_neg rfl (bif_neg rfl (bif_neg rfl (bif_pos rfl (ck_pos (dT2 (by omega)) ?_))))
    rw [getD_I (by omega), S_int]
    have es : stepV ⟨4, fdo, dst, a, b, n⟩ v ⟨loc, mem, told⟩ = (if rdV v a ≥ 16 then (false, v, ⟨loc, mem, told⟩) else (true, v.set dst.toNat (rdV mem (rdV v a)), ⟨loc, mem, told⟩)) := rfl
    have h1 := h131 _ ra
    rw [es]
    by_cases c : rdV v a ≥ 16
    · rw [if_pos c] at h1 ⊢
      rw [C131_S h1]
      exact bif_neg rfl (hG false v ⟨loc, mem, told⟩)
    · rw [if_neg c] at h1 ⊢
      rw [C131_S h1]
      refine bif_pos rfl (ck_pos (dT2 (by omega)) ?_)
      rw [set_I]; exact hG true _ ⟨loc, mem, told⟩
  · refine bif_neg rfl (bif_neg rfl (bif_neg rfl (bif_neg rfl (bif_pos rfl (ck_pos (dT2 (by omega)) ?_)))))
    rw [getD_I (by omega), S_int]
    refine ck_pos (dT2 (by omega)) ?_
    rw [getD_I (by omega), S_int]
    have es : stepV ⟨5, fdo, dst, a, b, n⟩ v ⟨loc, mem, told⟩ = (if rdV v a ≥ 16 then (false, v, ⟨loc, mem, told⟩) else (true, v, ⟨loc, mem.set (rdV v a).toNat (rdV v b), told⟩)) := rfl
    have h1 := h132 _ (rdV v b) ra
    rw [es]
    by_cases c : rdV v a ≥ 16
    · rw [if_pos c] at h1 ⊢
      rw [C132_S h1]
      exact hG false v ⟨loc, mem, told⟩
    · rw [if_neg c] at h1 ⊢
      rw [C132_S h1]
      exact hG true v ⟨loc, mem.set (rdV v a).toNat (rdV v b), told⟩
  · refine bif_neg rfl (bif_neg rfl (bif_neg rfl (bif_neg rfl (bif_neg rfl (ck_pos (dT2 (by omega)) ?_)))))
    rw [getD_I (by omega), S_int]
    have es : stepV ⟨6, fdo, dst, a, b, n⟩ v ⟨loc, mem, told⟩ = (if told.length = 100 then (false, v, ⟨loc, mem, told⟩) else (true, v, ⟨loc, mem, told ++ [rdV v a]⟩)) := rfl
    have h1 := h133 (rdV v a)
    rw [es]
    by_cases c : told.length = 100
    · rw [if_pos c] at h1 ⊢
      rw [C133_S h1]
      exact hG false v ⟨loc, mem, told⟩
    · rw [if_neg c] at h1 ⊢
      rw [C133_S h1]
      exact hG true v ⟨loc, mem, told ++ [rdV v a]⟩
end Go.Tree.Q

/- States that are cloned; the next block; a block's code. -/
namespace Go.Tree.Q
open Go.Proofs
set_option linter.unusedVariables false
set_option linter.unusedSimpArgs false
theorem lim_ok {n : Nat} (h : n ≤ 1073741824) : decide ((0 + n) * 8 < lim) = true := by
  have hl : lim = 140737488355328 := rfl
  rw [hl]; exact dT (by omega)
theorem t129 (xs : List Int) (hl : xs.length ≤ big) : tw cx 129 [rI true xs] = some ([rI false xs], []) := by
  have h0 : decide ((0 + (xs.map i64).length) * 8 < lim) = true := lim_ok (by rw [List.length_map]; exact hl)
  refine e129 (S_isNil (fun h => S_amb2 ?_ (ck_pos h0 ?_)) (fun h => ck_pos h0 ?_))
  · rw [S_ret]; show _ = some ([sl false ⟨1, false⟩ (xs.map i64)], []); rw [h]
  · rw [S_ret, List.nil_append]
  · rw [S_ret, List.nil_append]
theorem all89 {s_0 : List TV} {s_1 : List TV} {s_2 : List TV} {X : Option Res} (h0 : (decide ((0 + s_0.length) * 8 < lim)) = true) (h1 : (decide ((0 + s_1.length) * 8 < lim)) = true) (h2 : (decide ((0 + s_2.length) * 8 < lim)) = true) (hX : some (([Tr.st [sl false ⟨1, false⟩ (([]) ++ s_0), sl false ⟨1, false⟩ (([]) ++ s_1), sl false ⟨1, false⟩ (([]) ++ s_2)]] : List TV), ([] : List TV)) = X) : S cx 89 (N89 s_0 s_1 s_2) = X := by
  subst hX
  have rR89_33 : S cx 89 (R89_33 s_0 s_1 s_2) = some (([Tr.st [sl false ⟨1, false⟩ (([]) ++ s_0), sl false ⟨1, false⟩ (([]) ++ s_1), sl false ⟨1, false⟩ (([]) ++ s_2)]] : List TV), ([] : List TV)) := eR89_33 (ck_pos h2 rfl)
  have rR89_45 : S cx 89 (R89_45 s_0 s_1 s_2) = some (([Tr.st [sl false ⟨1, false⟩ (([]) ++ s_0), sl false ⟨1, false⟩ (([]) ++ s_1), sl false ⟨1, false⟩ (([]) ++ s_2)]] : List TV), ([] : List TV)) := eR89_45 (ck_pos h2 rfl)
  have rR89_46 : S cx 89 (R89_46 s_0 s_1 s_2) = some (([Tr.st [sl false ⟨1, false⟩ (([]) ++ s_0), sl false ⟨1, false⟩ (([]) ++ s_1), sl false ⟨1, false⟩ (([]) ++ s_2)]] : List TV), ([] : List TV)) := eR89_46 (ck_pos h1 (ck_pos h2 rfl))
  have rR89_34 : S cx 89 (R89_34 s_0 s_1 s_2) = some (([Tr.st [sl false ⟨1, false⟩ (([]) ++ s_0), sl false ⟨1, false⟩ (([]) ++ s_1), sl false ⟨1, false⟩ (([]) ++ s_2)]] : List TV), ([] : List TV)) := eR89_34 (S_amb2 (ck_pos h1 rR89_45) rR89_46)
  have rR89_47 : S cx 89 (R89_47 s_0 s_1 s_2) = some (([Tr.st [sl false ⟨1, false⟩ (([]) ++ s_0), sl false ⟨1, false⟩ (([]) ++ s_1), sl false ⟨1, false⟩ (([]) ++ s_2)]] : List TV), ([] : List TV)) := eR89_47 (ck_pos h2 rfl)
  have rR89_35 : S cx 89 (R89_35 s_0 s_1 s_2) = some (([Tr.st [sl false ⟨1, false⟩ (([]) ++ s_0), sl false ⟨1, false⟩ (([]) ++ s_1), sl false ⟨1, false⟩ (([]) ++ s_2)]] : List TV), ([] : List TV)) := eR89_35 (S_amb2 (ck_pos h1 rR89_47) rR89_46)
  have rR89_16 : S cx 89 (R89_16 s_0 s_1 s_2) = some (([Tr.st [sl false ⟨1, false⟩ (([]) ++ s_0), sl false ⟨1, false⟩ (([]) ++ s_1), sl false ⟨1, false⟩ (([]) ++ s_2)]] : List TV), ([] : List TV)) := eR89_16 (S_amb3 (ck_pos h1 rR89_33) rR89_34 rR89_35)
  have rR89_36 : S cx 89 (R89_36 s_0 s_1 s_2) = some (([Tr.st [sl false ⟨1, false⟩ (([]) ++ s_0), sl false ⟨1, false⟩ (([]) ++ s_1), sl false ⟨1, false⟩ (([]) ++ s_2)]] : List TV), ([] : List TV)) := eR89_36 (ck_pos h1 (ck_pos h2 rfl))
  have rR89_17 : S cx 89 (R89_17 s_0 s_1 s_2) = some (([Tr.st [sl false ⟨1, false⟩ (([]) ++ s_0), sl false ⟨1, false⟩ (([]) ++ s_1), sl false ⟨1, false⟩ (([]) ++ s_2)]] : List TV), ([] : List TV)) := eR89_17 (S_amb2 rR89_34 rR89_36)
  have rR89_18 : S cx 89 (R89_18 s_0 s_1 s_2) = some (([Tr.st [sl false ⟨1, false⟩ (([]) ++ s_0), sl false ⟨1, false⟩ (([]) ++ s_1), sl false ⟨1, false⟩ (([]) ++ s_2)]] : List TV), ([] : List TV)) := eR89_18 (S_amb2 rR89_35 rR89_36)
  have rR89_5 : S cx 89 (R89_5 s_0 s_1 s_2) = some (([Tr.st [sl false ⟨1, false⟩ (([]) ++ s_0), sl false ⟨1, false⟩ (([]) ++ s_1), sl false ⟨1, false⟩ (([]) ++ s_2)]] : List TV), ([] : List TV)) := eR89_5 (S_amb3 rR89_16 rR89_17 rR89_18)
  have rR89_19 : S cx 89 (R89_19 s_0 s_1 s_2) = some (([Tr.st [sl false ⟨1, false⟩ (([]) ++ s_0), sl false ⟨1, false⟩ (([]) ++ s_1), sl false ⟨1, false⟩ (([]) ++ s_2)]] : List TV), ([] : List TV)) := eR89_19 (S_amb3 (ck_pos h1 rR89_33) rR89_34 rR89_35)
  have rR89_48 : S cx 89 (R89_48 s_0 s_1 s_2) = some (([Tr.st [sl false ⟨1, false⟩ (([]) ++ s_0), sl false ⟨1, false⟩ (([]) ++ s_1), sl false ⟨1, false⟩ (([]) ++ s_2)]] : List TV), ([] : List TV)) := eR89_48 (ck_pos h0 (ck_pos h1 (ck_pos h2 rfl)))
  have rR89_37 : S cx 89 (R89_37 s_0 s_1 s_2) = some (([Tr.st [sl false ⟨1, false⟩ (([]) ++ s_0), sl false ⟨1, false⟩ (([]) ++ s_1), sl false ⟨1, false⟩ (([]) ++ s_2)]] : List TV), ([] : List TV)) := eR89_37 (S_amb2 (ck_pos h0 rR89_34) rR89_48)
  have rR89_38 : S cx 89 (R89_38 s_0 s_1 s_2) = some (([Tr.st [sl false ⟨1, false⟩ (([]) ++ s_0), sl false ⟨1, false⟩ (([]) ++ s_1), sl false ⟨1, false⟩ (([]) ++ s_2)]] : List TV), ([] : List TV)) := eR89_38 (S_amb2 (ck_pos h0 rR89_35) rR89_48)
  have rR89_20 : S cx 89 (R89_20 s_0 s_1 s_2) = some (([Tr.st [sl false ⟨1, false⟩ (([]) ++ s_0), sl false ⟨1, false⟩ (([]) ++ s_1), sl false ⟨1, false⟩ (([]) ++ s_2)]] : List TV), ([] : List TV)) := eR89_20 (S_amb3 (ck_pos h0 rR89_16) rR89_37 rR89_38)
  have rR89_39 : S cx 89 (R89_39 s_0 s_1 s_2) = some (([Tr.st [sl false ⟨1, false⟩ (([]) ++ s_0), sl false ⟨1, false⟩ (([]) ++ s_1), sl false ⟨1, false⟩ (([]) ++ s_2)]] : List TV), ([] : List TV)) := eR89_39 (S_amb2 (ck_pos h1 rR89_45) rR89_46)
  have rR89_49 : S cx 89 (R89_49 s_0 s_1 s_2) = some (([Tr.st [sl false ⟨1, false⟩ (([]) ++ s_0), sl false ⟨1, false⟩ (([]) ++ s_1), sl false ⟨1, false⟩ (([]) ++ s_2)]] : List TV), ([] : List TV)) := eR89_49 (ck_pos h1 (ck_pos h2 rfl))
  have rR89_40 : S cx 89 (R89_40 s_0 s_1 s_2) = some (([Tr.st [sl false ⟨1, false⟩ (([]) ++ s_0), sl false ⟨1, false⟩ (([]) ++ s_1), sl false ⟨1, false⟩ (([]) ++ s_2)]] : List TV), ([] : List TV)) := eR89_40 (S_amb2 (ck_pos h0 rR89_49) rR89_48)
  have rR89_21 : S cx 89 (R89_21 s_0 s_1 s_2) = some (([Tr.st [sl false ⟨1, false⟩ (([]) ++ s_0), sl false ⟨1, false⟩ (([]) ++ s_1), sl false ⟨1, false⟩ (([]) ++ s_2)]] : List TV), ([] : List TV)) := eR89_21 (S_amb3 (ck_pos h0 rR89_39) rR89_37 rR89_40)
  have rR89_41 : S cx 89 (R89_41 s_0 s_1 s_2) = some (([Tr.st [sl false ⟨1, false⟩ (([]) ++ s_0), sl false ⟨1, false⟩ (([]) ++ s_1), sl false ⟨1, false⟩ (([]) ++ s_2)]] : List TV), ([] : List TV)) := eR89_41 (S_amb2 (ck_pos h1 rR89_47) rR89_46)
  have rR89_22 : S cx 89 (R89_22 s_0 s_1 s_2) = some (([Tr.st [sl false ⟨1, false⟩ (([]) ++ s_0), sl false ⟨1, false⟩ (([]) ++ s_1), sl false ⟨1, false⟩ (([]) ++ s_2)]] : List TV), ([] : List TV)) := eR89_22 (S_amb3 (ck_pos h0 rR89_41) rR89_38 rR89_40)
  have rR89_6 : S cx 89 (R89_6 s_0 s_1 s_2) = some (([Tr.st [sl false ⟨1, false⟩ (([]) ++ s_0), sl false ⟨1, false⟩ (([]) ++ s_1), sl false ⟨1, false⟩ (([]) ++ s_2)]] : List TV), ([] : List TV)) := eR89_6 (S_amb4 (ck_pos h0 rR89_19) rR89_20 rR89_21 rR89_22)
  have rR89_23 : S cx 89 (R89_23 s_0 s_1 s_2) = some (([Tr.st [sl false ⟨1, false⟩ (([]) ++ s_0), sl false ⟨1, false⟩ (([]) ++ s_1), sl false ⟨1, false⟩ (([]) ++ s_2)]] : List TV), ([] : List TV)) := eR89_23 (S_amb3 rR89_16 rR89_17 rR89_18)
  have rR89_42 : S cx 89 (R89_42 s_0 s_1 s_2) = some (([Tr.st [sl false ⟨1, false⟩ (([]) ++ s_0), sl false ⟨1, false⟩ (([]) ++ s_1), sl false ⟨1, false⟩ (([]) ++ s_2)]] : List TV), ([] : List TV)) := eR89_42 (S_amb2 (ck_pos h0 rR89_36) rR89_48)
  have rR89_24 : S cx 89 (R89_24 s_0 s_1 s_2) = some (([Tr.st [sl false ⟨1, false⟩ (([]) ++ s_0), sl false ⟨1, false⟩ (([]) ++ s_1), sl false ⟨1, false⟩ (([]) ++ s_2)]] : List TV), ([] : List TV)) := eR89_24 (S_amb3 (ck_pos h0 rR89_17) rR89_37 rR89_42)
  have rR89_25 : S cx 89 (R89_25 s_0 s_1 s_2) = some (([Tr.st [sl false ⟨1, false⟩ (([]) ++ s_0), sl false ⟨1, false⟩ (([]) ++ s_1), sl false ⟨1, false⟩ (([]) ++ s_2)]] : List TV), ([] : List TV)) := eR89_25 (S_amb3 (ck_pos h0 rR89_18) rR89_38 rR89_42)
  have rR89_7 : S cx 89 (R89_7 s_0 s_1 s_2) = some (([Tr.st [sl false ⟨1, false⟩ (([]) ++ s_0), sl false ⟨1, false⟩ (([]) ++ s_1), sl false ⟨1, false⟩ (([]) ++ s_2)]] : List TV), ([] : List TV)) := eR89_7 (S_amb4 (ck_pos h0 rR89_23) rR89_20 rR89_24 rR89_25)
  have rR89_26 : S cx 89 (R89_26 s_0 s_1 s_2) = some (([Tr.st [sl false ⟨1, false⟩ (([]) ++ s_0), sl false ⟨1, false⟩ (([]) ++ s_1), sl false ⟨1, false⟩ (([]) ++ s_2)]] : List TV), ([] : List TV)) := eR89_26 (S_amb2 rR89_34 rR89_36)
  have rR89_43 : S cx 89 (R89_43 s_0 s_1 s_2) = some (([Tr.st [sl false ⟨1, false⟩ (([]) ++ s_0), sl false ⟨1, false⟩ (([]) ++ s_1), sl false ⟨1, false⟩ (([]) ++ s_2)]] : List TV), ([] : List TV)) := eR89_43 (ck_pos h1 (ck_pos h2 rfl))
  have rR89_27 : S cx 89 (R89_27 s_0 s_1 s_2) = some (([Tr.st [sl false ⟨1, false⟩ (([]) ++ s_0), sl false ⟨1, false⟩ (([]) ++ s_1), sl false ⟨1, false⟩ (([]) ++ s_2)]] : List TV), ([] : List TV)) := eR89_27 (S_amb3 (ck_pos h0 rR89_43) rR89_40 rR89_42)
  have rR89_8 : S cx 89 (R89_8 s_0 s_1 s_2) = some (([Tr.st [sl false ⟨1, false⟩ (([]) ++ s_0), sl false ⟨1, false⟩ (([]) ++ s_1), sl false ⟨1, false⟩ (([]) ++ s_2)]] : List TV), ([] : List TV)) := eR89_8 (S_amb4 (ck_pos h0 rR89_26) rR89_21 rR89_24 rR89_27)
  have rR89_28 : S cx 89 (R89_28 s_0 s_1 s_2) = some (([Tr.st [sl false ⟨1, false⟩ (([]) ++ s_0), sl false ⟨1, false⟩ (([]) ++ s_1), sl false ⟨1, false⟩ (([]) ++ s_2)]] : List TV), ([] : List TV)) := eR89_28 (S_amb2 rR89_35 rR89_36)
  have rR89_9 : S cx 89 (R89_9 s_0 s_1 s_2) = some (([Tr.st [sl false ⟨1, false⟩ (([]) ++ s_0), sl false ⟨1, false⟩ (([]) ++ s_1), sl false ⟨1, false⟩ (([]) ++ s_2)]] : List TV), ([] : List TV)) := eR89_9 (S_amb4 (ck_pos h0 rR89_28) rR89_22 rR89_25 rR89_27)
  have rR89_0 : S cx 89 (R89_0 s_0 s_1 s_2) = some (([Tr.st [sl false ⟨1, false⟩ (([]) ++ s_0), sl false ⟨1, false⟩ (([]) ++ s_1), sl false ⟨1, false⟩ (([]) ++ s_2)]] : List TV), ([] : List TV)) := eR89_0 (S_amb5 (ck_pos h0 rR89_5) rR89_6 rR89_7 rR89_8 rR89_9)
  have rR89_44 : S cx 89 (R89_44 s_0 s_1 s_2) = some (([Tr.st [sl false ⟨1, false⟩ (([]) ++ s_0), sl false ⟨1, false⟩ (([]) ++ s_1), sl false ⟨1, false⟩ (([]) ++ s_2)]] : List TV), ([] : List TV)) := eR89_44 (ck_pos h0 (ck_pos h1 (ck_pos h2 rfl)))
  have rR89_29 : S cx 89 (R89_29 s_0 s_1 s_2) = some (([Tr.st [sl false ⟨1, false⟩ (([]) ++ s_0), sl false ⟨1, false⟩ (([]) ++ s_1), sl false ⟨1, false⟩ (([]) ++ s_2)]] : List TV), ([] : List TV)) := eR89_29 (S_amb2 rR89_37 rR89_44)
  have rR89_30 : S cx 89 (R89_30 s_0 s_1 s_2) = some (([Tr.st [sl false ⟨1, false⟩ (([]) ++ s_0), sl false ⟨1, false⟩ (([]) ++ s_1), sl false ⟨1, false⟩ (([]) ++ s_2)]] : List TV), ([] : List TV)) := eR89_30 (S_amb2 rR89_38 rR89_44)
  have rR89_10 : S cx 89 (R89_10 s_0 s_1 s_2) = some (([Tr.st [sl false ⟨1, false⟩ (([]) ++ s_0), sl false ⟨1, false⟩ (([]) ++ s_1), sl false ⟨1, false⟩ (([]) ++ s_2)]] : List TV), ([] : List TV)) := eR89_10 (S_amb3 rR89_20 rR89_29 rR89_30)
  have rR89_31 : S cx 89 (R89_31 s_0 s_1 s_2) = some (([Tr.st [sl false ⟨1, false⟩ (([]) ++ s_0), sl false ⟨1, false⟩ (([]) ++ s_1), sl false ⟨1, false⟩ (([]) ++ s_2)]] : List TV), ([] : List TV)) := eR89_31 (S_amb2 rR89_40 rR89_44)
  have rR89_11 : S cx 89 (R89_11 s_0 s_1 s_2) = some (([Tr.st [sl false ⟨1, false⟩ (([]) ++ s_0), sl false ⟨1, false⟩ (([]) ++ s_1), sl false ⟨1, false⟩ (([]) ++ s_2)]] : List TV), ([] : List TV)) := eR89_11 (S_amb3 rR89_21 rR89_29 rR89_31)
  have rR89_12 : S cx 89 (R89_12 s_0 s_1 s_2) = some (([Tr.st [sl false ⟨1, false⟩ (([]) ++ s_0), sl false ⟨1, false⟩ (([]) ++ s_1), sl false ⟨1, false⟩ (([]) ++ s_2)]] : List TV), ([] : List TV)) := eR89_12 (S_amb3 rR89_22 rR89_30 rR89_31)
  have rR89_1 : S cx 89 (R89_1 s_0 s_1 s_2) = some (([Tr.st [sl false ⟨1, false⟩ (([]) ++ s_0), sl false ⟨1, false⟩ (([]) ++ s_1), sl false ⟨1, false⟩ (([]) ++ s_2)]] : List TV), ([] : List TV)) := eR89_1 (S_amb4 rR89_6 rR89_10 rR89_11 rR89_12)
  have rR89_32 : S cx 89 (R89_32 s_0 s_1 s_2) = some (([Tr.st [sl false ⟨1, false⟩ (([]) ++ s_0), sl false ⟨1, false⟩ (([]) ++ s_1), sl false ⟨1, false⟩ (([]) ++ s_2)]] : List TV), ([] : List TV)) := eR89_32 (S_amb2 rR89_42 rR89_44)
  have rR89_13 : S cx 89 (R89_13 s_0 s_1 s_2) = some (([Tr.st [sl false ⟨1, false⟩ (([]) ++ s_0), sl false ⟨1, false⟩ (([]) ++ s_1), sl false ⟨1, false⟩ (([]) ++ s_2)]] : List TV), ([] : List TV)) := eR89_13 (S_amb3 rR89_24 rR89_29 rR89_32)
  have rR89_14 : S cx 89 (R89_14 s_0 s_1 s_2) = some (([Tr.st [sl false ⟨1, false⟩ (([]) ++ s_0), sl false ⟨1, false⟩ (([]) ++ s_1), sl false ⟨1, false⟩ (([]) ++ s_2)]] : List TV), ([] : List TV)) := eR89_14 (S_amb3 rR89_25 rR89_30 rR89_32)
  have rR89_2 : S cx 89 (R89_2 s_0 s_1 s_2) = some (([Tr.st [sl false ⟨1, false⟩ (([]) ++ s_0), sl false ⟨1, false⟩ (([]) ++ s_1), sl false ⟨1, false⟩ (([]) ++ s_2)]] : List TV), ([] : List TV)) := eR89_2 (S_amb4 rR89_7 rR89_10 rR89_13 rR89_14)
  have rR89_15 : S cx 89 (R89_15 s_0 s_1 s_2) = some (([Tr.st [sl false ⟨1, false⟩ (([]) ++ s_0), sl false ⟨1, false⟩ (([]) ++ s_1), sl false ⟨1, false⟩ (([]) ++ s_2)]] : List TV), ([] : List TV)) := eR89_15 (S_amb3 rR89_27 rR89_31 rR89_32)
  have rR89_3 : S cx 89 (R89_3 s_0 s_1 s_2) = some (([Tr.st [sl false ⟨1, false⟩ (([]) ++ s_0), sl false ⟨1, false⟩ (([]) ++ s_1), sl false ⟨1, false⟩ (([]) ++ s_2)]] : List TV), ([] : List TV)) := eR89_3 (S_amb4 rR89_8 rR89_11 rR89_13 rR89_15)
  have rR89_4 : S cx 89 (R89_4 s_0 s_1 s_2) = some (([Tr.st [sl false ⟨1, false⟩ (([]) ++ s_0), sl false ⟨1, false⟩ (([]) ++ s_1), sl false ⟨1, false⟩ (([]) ++ s_2)]] : List TV), ([] : List TV)) := eR89_4 (S_amb4 rR89_9 rR89_12 rR89_14 rR89_15)
  exact (S_amb5 rR89_0 rR89_1 rR89_2 rR89_3 rR89_4)

theorem t89 (s : Sx) (h : smallS s) : tw cx 89 [eS true s] = some ([eS false s], []) := by
  obtain ⟨h0, h1, h2⟩ := h
  exact e89 (all89 (lim_ok (by rw [List.length_map]; exact h0)) (lim_ok (by rw [List.length_map]; exact h1)) (lim_ok (by rw [List.length_map]; exact h2)) rfl)
theorem t93 (s : Sx) (h : smallS s) : tw cx 93 [eS true s] = some ([eS false s], []) := by
  obtain ⟨h0, h1, h2⟩ := h
  have r0 : ∀ K, S cx 93 (C129 (s.loc.map i64) K) = S cx 93 (K (s.loc.map i64)) := fun K => C129_S (t129 _ h0)
  have r1 : ∀ K, S cx 93 (C129 (s.mem.map i64) K) = S cx 93 (K (s.mem.map i64)) := fun K => C129_S (t129 _ h1)
  have r2 : ∀ K, S cx 93 (C129 (s.told.map i64) K) = S cx 93 (K (s.told.map i64)) := fun K => C129_S (t129 _ h2)
  have a0 : S cx 93 (N93_s0 (s.mem.map i64) (s.told.map i64) (s.loc.map i64)) = some ([eS false s], []) := by
    rw [N93_s0, r1, r2, S_ret]
  have a1 : S cx 93 (N93_s1 (s.loc.map i64) (s.mem.map i64) (s.told.map i64)) = some ([eS false s], []) := by
    rw [N93_s1, r0]; exact S_amb2 a0 a0
  have a2 : S cx 93 (N93_s2 (s.loc.map i64) (s.mem.map i64) (s.told.map i64)) = some ([eS false s], []) := by
    rw [N93_s2, r0]; exact a0
  exact e93 (S_amb3 a1 (S_amb2 a1 a2) (S_amb2 a2 a2))
/-- The block at which a block goes on. -/
def nextV (b : Bk) (v : List Int) : Int :=
  if b.go = 1 then rdV b.next 0 else if b.go = 2 then (if rdV v b.test ≠ 0 then rdV b.next 0 else rdV b.next 1) else rdV b.next (if rdV v b.test ≥ b.next.length then (b.next.length : Int) - 1 else rdV v b.test)
theorem t124 (b : Bk) (v : List Int) (n : Int) (hb : blockP n b) (h : v.length = 12) (hw : ∀ x ∈ v, wordP x) :
    tw cx 124 [eB true b, rI true v] = some ([i64 (if b.go = 3 then -1 else if b.go = 4 then -2 else nextV b v)], []) := by
  obtain ⟨code, go, test, next⟩ := b
  obtain ⟨_, _, _, hg⟩ := hb
  obtain ⟨r0, r1⟩ := rdV_word (i := test) hw
  have e1 : (v.map i64).length = 12 := by rw [List.length_map, h]
  have e2 : (next.map i64).length = next.length := List.length_map _
  simp only [goP] at hg
  show tw cx 124 [.st [rF true code, i64 go, i64 test, rI true next], rI true v] = _
  refine e124 ?_
  rcases hg with ⟨rfl, hn, ht⟩ | ⟨rfl, hn, ht⟩ | ⟨rfl, hn, ht⟩ | ⟨hgo, hn, ht⟩
  · refine bif_pos rfl (ck_pos (dT (by omega)) ?_)
    rw [show (next.map i64).getD 0 (.dead ()) = i64 (rdV next 0) from getD_I (i := 0) (by simp; omega), S_int]
    rfl
  · refine bif_neg rfl (bif_pos rfl (ck_pos (dT2 (by omega)) ?_))
    rw [getD_I (by omega), S_int]
    show _ = some ([i64 (if rdV v test ≠ 0 then rdV next 0 else rdV next 1)], [])
    by_cases c : rdV v test = 0
    · refine bif_neg (by rw [c]; rfl) (ck_pos (dT (by omega)) ?_)
      rw [show (next.map i64).getD 1 (.dead ()) = i64 (rdV next 1) from getD_I (i := 1) (by simp; omega), S_int, S_ret, if_neg (by simpa using c)]
    · refine bif_pos (by simpa using c) (ck_pos (dT (by omega)) ?_)
      rw [show (next.map i64).getD 0 (.dead ()) = i64 (rdV next 0) from getD_I (i := 0) (by simp; omega), S_int, S_ret, if_pos c]
  · refine bif_neg rfl (bif_neg rfl (bif_pos rfl (ck_pos (dT2 (by omega)) ?_)))
    rw [getD_I (by omega), S_int]
    show _ = some ([i64 (rdV next (if rdV v test ≥ next.length then (next.length : Int) - 1 else rdV v test))], [])
    have hG : ∀ k : Int, 0 ≤ k → k < next.length → S cx 124 (G124_0 (code.map eF) 5 test (next.map i64) k) = some ([i64 (rdV next k)], []) := fun k k0 k1 => by
      refine eG124_0 (ck_pos (dT2 (by omega)) ?_)
      rw [getD_I (by omega), S_int, S_ret]
    by_cases c : rdV v test ≥ next.length
    · rw [if_pos c]
      refine bif_pos (dT (by omega)) ?_
      rw [e2, w64_id (by omega) (by omega)]
      exact hG _ (by omega) (by omega)
    · rw [if_neg c]
      exact bif_neg (dF (by omega)) (hG _ (by omega) (by omega))
  · rcases hgo with rfl | rfl
    · exact bif_neg rfl (bif_neg rfl (bif_neg rfl (bif_pos rfl rfl)))
    · exact bif_neg rfl (bif_neg rfl (bif_neg rfl (bif_neg rfl rfl)))
theorem t95 (b : Bk) (v : List Int) (n : Int) (hb : blockP n b) (hw : ∀ x ∈ v, wordP x) (h34 : ¬ (b.go = 3 ∨ b.go = 4)) :
    ∃ k : Int, tw cx 95 [i64 b.go, i64 (rdV v b.test), i64 (b.next.length : Int)] = some ([i64 k], []) ∧ 0 ≤ k ∧ k < b.next.length ∧ rdV b.next k = nextV b v := by
  obtain ⟨code, go, test, next⟩ := b
  obtain ⟨_, _, _, hg⟩ := hb
  obtain ⟨r0, r1⟩ := rdV_word (i := test) hw
  simp only [goP] at hg
  simp only at h34 ⊢
  rcases hg with ⟨rfl, hn, ht⟩ | ⟨rfl, hn, ht⟩ | ⟨rfl, hn, ht⟩ | ⟨hgo, hn, ht⟩
  · exact ⟨0, e95 (bif_neg rfl (bif_neg rfl rfl)), by omega, by omega, rfl⟩
  · by_cases c : rdV v test = 0
    · refine ⟨1, e95 (bif_pos rfl ?_), by omega, by omega, ?_⟩
      · rw [C134_S (t134 _), S_ret, c]; rfl
      · show _ = (if rdV v test ≠ 0 then rdV next 0 else rdV next 1)
        rw [if_neg (by simpa using c)]
    · refine ⟨0, e95 (bif_pos rfl ?_), by omega, by omega, ?_⟩
      · rw [C134_S (t134 _), S_ret]
        have : bitV ((rdV v test != 0) = true) = 1 := by unfold bitV; rw [if_pos (bne_iff_ne.2 c)]
        rw [this]; rfl
      · show _ = (if rdV v test ≠ 0 then rdV next 0 else rdV next 1)
        rw [if_pos c]
  · have hw1 : w64 ((next.length : Int) - 1) = (next.length : Int) - 1 := w64_id (by omega) (by omega)
    refine ⟨if (next.length : Int) - 1 < rdV v test then (next.length : Int) - 1 else rdV v test, e95 (bif_neg rfl (bif_pos rfl ?_)), by split <;> omega, by split <;> omega, ?_⟩
    · rw [S_ret, hw1]
    · show _ = rdV next (if rdV v test ≥ next.length then (next.length : Int) - 1 else rdV v test)
      congr 1
      split <;> split <;> omega
  · exact absurd hgo h34
end Go.Tree.Q

/- A flow is run. -/
namespace Go.Tree.Q
open Go.Proofs
set_option linter.unusedVariables false
set_option linter.unusedSimpArgs false
/-- A block's code. -/
def blkV : List F → List Int → Sx → Bool × List Int × Sx
  | [], v, s => (true, v, s)
  | x :: xs, v, s => if (stepV x v s).1 = true then blkV xs (stepV x v s).2.1 (stepV x v s).2.2 else (false, (stepV x v s).2.1, (stepV x v s).2.2)
theorem Inv.blk : ∀ (xs : List F) {v : List Int} {s : Sx}, Inv v s → (∀ x ∈ xs, flatP x) → Inv (blkV xs v s).2.1 (blkV xs v s).2.2
  | [], v, s, h, _ => h
  | x :: xs, v, s, h, hx => by
    rw [blkV]
    have h1 := h.step (hx x (by simp))
    split
    · exact Inv.blk xs h1 fun y hy => hx y (by simp [hy])
    · exact h1
/-- What a run comes to: state, names, how it ended, how many blocks. -/
def runV (f : List Bk) : Nat → Int → List Int → Sx → Sx × List Int × Int × Nat
  | 0, _, v, s => (s, v, 3, 0)
  | k + 1, at', v, s =>
    let b := f.getD at'.toNat default
    let r := blkV b.code v s
    if r.1 = true then
      (if b.go = 3 then (r.2.2, r.2.1, 1, 1) else if b.go = 4 then (r.2.2, r.2.1, 2, 1) else
        let q := runV f k (nextV b r.2.1) r.2.1 r.2.2
        (q.1, q.2.1, q.2.2.1, q.2.2.2 + 1))
    else (r.2.2, r.2.1, 2, 1)
theorem next_in {b : Bk} {v : List Int} {n : Int} (hb : blockP n b) (hw : ∀ x ∈ v, wordP x) (h34 : ¬ (b.go = 3 ∨ b.go = 4)) : 0 ≤ nextV b v ∧ nextV b v < n := by
  obtain ⟨k, _, h1, h2, h3⟩ := t95 b v n hb hw h34
  rw [← h3, rdV, List.getD_eq_getElem?_getD, List.getElem?_eq_getElem (by omega)]
  exact hb.2.2.1 _ (List.getElem_mem _)
theorem getD_some {β : Type} [Inhabited β] {xs : List β} {i : Nat} (h : i < xs.length) : xs[i]? = some (xs.getD i default) := by
  rw [List.getD_eq_getElem?_getD, List.getElem?_eq_getElem h]; rfl
theorem getD_B {f : List Bk} {i : Int} (h0 : 0 ≤ i) (h : i < f.length) : (f.map (eB false)).getD (0 + i.toNat) (.dead ()) = eB false (f.getD i.toNat default) := by
  rw [Nat.zero_add]; exact getD_map' (getD_some (by omega))
/-! ### The reference's -/
/-- What the reference answers where a run ends. -/
def sOut (s : Sx) (v : List Int) (e n : Int) : Res := ([eS false ⟨v.take 8, s.mem, s.told⟩, i64 e, i64 n], [])
theorem sEnd (s : Sx) (v : List Int) (e n : Int) (h : v.length = 12) : S cx 88 (G88_1 (s.loc.map i64) (s.mem.map i64) (s.told.map i64) (v.map i64) n e) = some (sOut s v e n) := by
  refine eG88_1 (ck_pos (dT (by rw [List.length_map]; omega)) (ck_pos (lim_ok (by simp; omega)) ?_))
  rw [S_ret, List.nil_append, List.drop_zero, ← List.map_take]
  rfl
/-- The rest of a block's code, behind a trap. -/
theorem sSkip (f : List Bk) (fuel : Int) (s : Sx) (v : List Int) (n at' : Int) (xs : List F) (hl : xs.length ≤ 60) (h : v.length = 12) : ∀ d j : Nat, xs.length - j = d → j ≤ xs.length →
    S cx 88 (H88_2 (f.map (eB false)) fuel (s.loc.map i64) (s.mem.map i64) (s.told.map i64) (v.map i64) n 2 at' (xs.map eF) j) = some (sOut s v 2 n) := by
  intro d
  induction d with
  | zero =>
    intro j hd hj
    have e1 : (xs.map eF).length = xs.length := List.length_map _
    exact eH88_2 (bif_neg (dF (by omega)) (bif_pos rfl (sEnd s v 2 n h)))
  | succ d ih =>
    intro j hd hj
    obtain ⟨x, hx⟩ := at_some (show j < xs.length by omega)
    have e1 : (xs.map eF).length = xs.length := List.length_map _
    refine eH88_2 (bif_pos (dT (by omega)) (ck_pos (dT2 (by omega)) ?_))
    rw [getD_at hx, V6_S]
    refine bif_neg rfl (back_of ?_)
    rw [inc64 (n := xs.length) (by omega) (by omega)]
    exact ih (j + 1) (by omega) (by omega)
theorem drop_at {β : Type} {xs : List β} {j : Nat} {x : β} (h : xs[j]? = some x) : xs.drop j = x :: xs.drop (j + 1) := by
  have hlt := lt_of_at h
  rw [List.drop_eq_getElem_cons hlt]
  rw [List.getElem?_eq_getElem hlt] at h
  rw [Option.some.inj h]
theorem sRun (f : List Bk) (hf : flowP f) (fuel : Nat) (hfu : fuel ≤ 2000) : ∀ (k : Nat) (n : Nat) (at' : Int) (v : List Int) (s : Sx), n + k = fuel → 0 ≤ at' → at' < f.length → Inv v s →
    S cx 88 (H88_0 (f.map (eB false)) fuel (s.loc.map i64) (s.mem.map i64) (s.told.map i64) (v.map i64) n 0 at') = some (sOut (runV f k at' v s).1 (runV f k at' v s).2.1 (runV f k at' v s).2.2.1 ((n + (runV f k at' v s).2.2.2 : Nat) : Int)) := by
  intro k
  induction k with
  | zero =>
    intro n at' v s hn h0 h1 hi
    obtain rfl : n = fuel := by omega
    exact eH88_0 (bif_pos rfl (bif_pos (by simp) (sEnd s v 3 n hi.vl)))
  | succ k ih =>
    intro n at' v s hn h0 h1 hi
    have e1 : (f.map (eB false)).length = f.length := List.length_map _
    have hb := hf.1 _ (List.mem_of_getElem? (getD_some (xs := f) (i := at'.toNat) (by omega)))
    have hr : runV f (k + 1) at' v s = (if (blkV (f.getD at'.toNat default).code v s).1 = true then
      (if (f.getD at'.toNat default).go = 3 then ((blkV (f.getD at'.toNat default).code v s).2.2, (blkV (f.getD at'.toNat default).code v s).2.1, 1, 1) else if (f.getD at'.toNat default).go = 4 then ((blkV (f.getD at'.toNat default).code v s).2.2, (blkV (f.getD at'.toNat default).code v s).2.1, 2, 1) else
        ((runV f k (nextV (f.getD at'.toNat default) (blkV (f.getD at'.toNat default).code v s).2.1) (blkV (f.getD at'.toNat default).code v s).2.1 (blkV (f.getD at'.toNat default).code v s).2.2).1, (runV f k (nextV (f.getD at'.toNat default) (blkV (f.getD at'.toNat default).code v s).2.1) (blkV (f.getD at'.toNat default).code v s).2.1 (blkV (f.getD at'.toNat default).code v s).2.2).2.1, (runV f k (nextV (f.getD at'.toNat default) (blkV (f.getD at'.toNat default).code v s).2.1) (blkV (f.getD at'.toNat default).code v s).2.1 (blkV (f.getD at'.toNat default).code v s).2.2).2.2.1, (runV f k (nextV (f.getD at'.toNat default) (blkV (f.getD at'.toNat default).code v s).2.1) (blkV (f.getD at'.toNat default).code v s).2.1 (blkV (f.getD at'.toNat default).code v s).2.2).2.2.2 + 1))
      else ((blkV (f.getD at'.toNat default).code v s).2.2, (blkV (f.getD at'.toNat default).code v s).2.1, 2, 1)) := rfl
    have hgb := getD_B (f := f) h0 h1
    generalize hbb : f.getD at'.toNat default = b at hb hr hgb
    obtain ⟨hb1, hb2, hb3, hb4⟩ := hb
    have hbP : blockP f.length b := ⟨hb1, hb2, hb3, hb4⟩
    refine eH88_0 (bif_pos rfl (bif_neg (by rw [beq_eq_false_iff_ne]; omega) (ck_pos (dT2 (by omega)) ?_)))
    rw [hgb, V4_S, w64_id (by omega) (by omega)]
    -- the block's code
    have key : ∀ d j : Nat, b.code.length - j = d → j ≤ b.code.length → ∀ (v' : List Int) (s' : Sx), Inv v' s' → blkV b.code v s = blkV (b.code.drop j) v' s' →
        S cx 88 (H88_2 (f.map (eB false)) fuel (s'.loc.map i64) (s'.mem.map i64) (s'.told.map i64) (v'.map i64) ((n : Int) + 1) 0 at' (b.code.map eF) j) = some (sOut (runV f (k + 1) at' v s).1 (runV f (k + 1) at' v s).2.1 (runV f (k + 1) at' v s).2.2.1 ((n + (runV f (k + 1) at' v s).2.2.2 : Nat) : Int)) := by
      intro d
      have e2 : (b.code.map eF).length = b.code.length := List.length_map _
      induction d with
      | zero =>
        intro j hd hj v' s' hi' he
        have hj' : j = b.code.length := by omega
        subst hj'
        rw [List.drop_length] at he
        have he : blkV b.code v s = (true, v', s') := he
        rw [hr, he]
        refine eH88_2 (bif_neg (dF (by omega)) (bif_neg rfl (ck_pos (dT2 (by omega)) ?_)))
        rw [hgb, V4_S, C124_S (t124 b v' f.length hbP hi'.vl hi'.vw)]
        simp only [if_true]
        by_cases c3 : b.go = 3
        · rw [if_pos c3, if_pos c3]
          refine bif_pos rfl (back_of (eH88_0 (bif_neg rfl ?_)))
          exact sEnd s' v' 1 ((n : Int) + 1) hi'.vl
        · rw [if_neg c3, if_neg c3]
          by_cases c4 : b.go = 4
          · rw [if_pos c4, if_pos c4]
            refine bif_neg rfl (bif_pos rfl (back_of (eH88_0 (bif_neg rfl ?_))))
            exact sEnd s' v' 2 ((n : Int) + 1) hi'.vl
          · rw [if_neg c4, if_neg c4]
            obtain ⟨q0, q1⟩ := next_in hbP hi'.vw (by omega)
            refine bif_neg (by rw [beq_eq_false_iff_ne]; omega) (bif_neg (by rw [beq_eq_false_iff_ne]; omega) (back_of ?_))
            have := ih (n + 1) (nextV b v') v' s' (by omega) q0 q1 hi'
            rw [show ((n + 1 : Nat) : Int) = (n : Int) + 1 by omega] at this
            rw [this]
            refine congrArg (fun z : Nat => some (sOut _ _ _ (z : Int))) ?_
            show n + 1 + _ = n + (_ + 1)
            omega
      | succ d ihd =>
        intro j hd hj v' s' hi' he
        obtain ⟨x, hx⟩ := at_some (show j < b.code.length by omega)
        have hxP := hb1 x (List.mem_of_getElem? hx)
        rw [drop_at hx, blkV] at he
        refine eH88_2 (bif_pos (dT (by omega)) (ck_pos (dT2 (by omega)) ?_))
        rw [getD_at hx, V6_S]
        refine bif_pos rfl ?_
        rw [C123_S (t123 x v' s' hi' hxP)]
        have hi2 := hi'.step hxP
        cases hst : (stepV x v' s').1 with
        | true =>
          rw [if_pos hst] at he
          refine bif_neg rfl (back_of ?_)
          rw [inc64 (n := b.code.length) (by omega) (by omega)]
          exact ihd (j + 1) (by omega) (by omega) _ _ hi2 he
        | false =>
          rw [if_neg (by rw [hst]; simp)] at he
          refine bif_pos rfl (back_of ?_)
          rw [inc64 (n := b.code.length) (by omega) (by omega), hr, he]
          exact sSkip f fuel _ _ ((n : Int) + 1) at' b.code hb2 hi2.vl _ (j + 1) rfl (by omega)
    exact key b.code.length 0 (by omega) (by omega) v s hi rfl
end Go.Tree.Q

/- A flow is run: the program's own. -/
namespace Go.Tree.Q
open Go.Proofs
set_option linter.unusedVariables false
set_option linter.unusedSimpArgs false
theorem step_loc (x : F) (v : List Int) (s : Sx) : (stepV x v s).2.2.loc = s.loc := by
  unfold stepV
  repeat' split
  all_goals rfl
def iOut (s : Sx) (v : List Int) (e n : Int) : Res := ([eS false ⟨v.take 8, s.mem, s.told⟩, i64 e, i64 n, tb true], [])
theorem iEnd (s : Sx) (v : List Int) (e n : Int) (h : v.length = 12) (h8 : s.loc.length = 8) : S cx 39 (.ck (decide ((8 : Int) ≤ (((v.map i64).length : Nat) : Int))) <| .ret [.st [sl false ⟨1, false⟩ (cpyT (s.loc.map i64) (((v.map i64).drop 0).take 8)), sl false ⟨1, false⟩ (s.mem.map i64), sl false ⟨1, false⟩ (s.told.map i64)], i64 e, i64 n, tb true] []) = some (iOut s v e n) := by
  refine ck_pos (dT (by rw [List.length_map]; omega)) ?_
  have e1 : cpyT (s.loc.map i64) (((v.map i64).drop 0).take 8) = (v.take 8).map i64 := by
    rw [List.drop_zero, ← List.map_take]
    unfold cpyT
    rw [List.length_map, List.length_map, h8, List.drop_eq_nil_of_le (by simp [h8, h]), List.append_nil, List.take_of_length_le (by simp; omega)]
  rw [S_ret, e1]
  rfl
theorem iRun (f : List Bk) (hf : flowP f) (fuel : Nat) (hfu : fuel ≤ 2000) : ∀ (k : Nat) (n : Nat) (at' : Int) (v : List Int) (s : Sx), n + k = fuel → 0 ≤ at' → at' < f.length → Inv v s → s.loc.length = 8 →
    S cx 39 (H39_1 (f.map (eB false)) fuel (s.loc.map i64) (s.mem.map i64) (s.told.map i64) (v.map i64) 3 n at') = some (iOut (runV f k at' v s).1 (runV f k at' v s).2.1 (runV f k at' v s).2.2.1 ((n + (runV f k at' v s).2.2.2 : Nat) : Int)) := by
  intro k
  induction k with
  | zero =>
    intro n at' v s hn h0 h1 hi h8
    obtain rfl : n = fuel := by omega
    exact eH39_1 (bif_pos rfl (bif_neg (dF (by omega)) (iEnd s v 3 n hi.vl h8)))
  | succ k ih =>
    intro n at' v s hn h0 h1 hi h8
    have e1 : (f.map (eB false)).length = f.length := List.length_map _
    have hb := hf.1 _ (List.mem_of_getElem? (getD_some (xs := f) (i := at'.toNat) (by omega)))
    have hr : runV f (k + 1) at' v s = (if (blkV (f.getD at'.toNat default).code v s).1 = true then
      (if (f.getD at'.toNat default).go = 3 then ((blkV (f.getD at'.toNat default).code v s).2.2, (blkV (f.getD at'.toNat default).code v s).2.1, 1, 1) else if (f.getD at'.toNat default).go = 4 then ((blkV (f.getD at'.toNat default).code v s).2.2, (blkV (f.getD at'.toNat default).code v s).2.1, 2, 1) else
        ((runV f k (nextV (f.getD at'.toNat default) (blkV (f.getD at'.toNat default).code v s).2.1) (blkV (f.getD at'.toNat default).code v s).2.1 (blkV (f.getD at'.toNat default).code v s).2.2).1, (runV f k (nextV (f.getD at'.toNat default) (blkV (f.getD at'.toNat default).code v s).2.1) (blkV (f.getD at'.toNat default).code v s).2.1 (blkV (f.getD at'.toNat default).code v s).2.2).2.1, (runV f k (nextV (f.getD at'.toNat default) (blkV (f.getD at'.toNat default).code v s).2.1) (blkV (f.getD at'.toNat default).code v s).2.1 (blkV (f.getD at'.toNat default).code v s).2.2).2.2.1, (runV f k (nextV (f.getD at'.toNat default) (blkV (f.getD at'.toNat default).code v s).2.1) (blkV (f.getD at'.toNat default).code v s).2.1 (blkV (f.getD at'.toNat default).code v s).2.2).2.2.2 + 1))
      else ((blkV (f.getD at'.toNat default).code v s).2.2, (blkV (f.getD at'.toNat default).code v s).2.1, 2, 1)) := rfl
    have hgb := getD_B (f := f) h0 h1
    generalize hbb : f.getD at'.toNat default = b at hb hr hgb
    obtain ⟨hb1, hb2, hb3, hb4⟩ := hb
    have hbP : blockP f.length b := ⟨hb1, hb2, hb3, hb4⟩
    refine eH39_1 (bif_pos rfl (bif_pos (dT (by omega)) (ck_pos (dT2 (by omega)) ?_)))
    rw [hgb, V4_S]
    have hw1 : w64 ((n : Int) + 1) = (n : Int) + 1 := w64_id (by omega) (by omega)
    -- a trap
    have htrap : ∀ (v' : List Int) (s' : Sx), Inv v' s' → s'.loc.length = 8 → S cx 39 (G39_3 (f.map (eB false)) fuel (s'.loc.map i64) (s'.mem.map i64) (s'.told.map i64) (v'.map i64) 2 n at' (b.code.map eF) b.go b.test (b.next.map i64)) = some (iOut s' v' 2 ((n : Int) + 1)) := fun v' s' hi' h8' => by
      refine eG39_3 (bif_pos rfl (back_of ?_))
      rw [hw1]
      exact eH39_1 (bif_neg rfl (iEnd s' v' 2 ((n : Int) + 1) hi'.vl h8'))
    -- the block's code
    have key : ∀ d j : Nat, b.code.length - j = d → j ≤ b.code.length → ∀ (v' : List Int) (s' : Sx), Inv v' s' → s'.loc.length = 8 → blkV b.code v s = blkV (b.code.drop j) v' s' →
        S cx 39 (H39_2 (f.map (eB false)) fuel (s'.loc.map i64) (s'.mem.map i64) (s'.told.map i64) (v'.map i64) 3 n at' (b.code.map eF) b.go b.test (b.next.map i64) j) = some (iOut (runV f (k + 1) at' v s).1 (runV f (k + 1) at' v s).2.1 (runV f (k + 1) at' v s).2.2.1 ((n + (runV f (k + 1) at' v s).2.2.2 : Nat) : Int)) := by
      intro d
      have e2 : (b.code.map eF).length = b.code.length := List.length_map _
      induction d with
      | zero =>
        intro j hd hj v' s' hi' h8' he
        have hj' : j = b.code.length := by omega
        subst hj'
        rw [List.drop_length] at he
        have he : blkV b.code v s = (true, v', s') := he
        rw [hr, he]
        refine eH39_2 (bif_neg (dF (by omega)) (eG39_3 (bif_neg rfl ?_)))
        simp only [if_true]
        by_cases c3 : b.go = 3
        · rw [if_pos c3]
          refine bif_pos (by rw [c3]; rfl) (back_of ?_)
          rw [hw1]
          exact eH39_1 (bif_neg rfl (iEnd s' v' 1 ((n : Int) + 1) hi'.vl h8'))
        · rw [if_neg c3]
          refine bif_neg (by rw [beq_eq_false_iff_ne]; exact c3) ?_
          by_cases c4 : b.go = 4
          · rw [if_pos c4]
            refine bif_pos (by rw [c4]; rfl) (back_of ?_)
            rw [hw1]
            exact eH39_1 (bif_neg rfl (iEnd s' v' 2 ((n : Int) + 1) hi'.vl h8'))
          · rw [if_neg c4]
            refine bif_neg (by rw [beq_eq_false_iff_ne]; exact c4) ?_
            have e3 : (v'.map i64).length = 12 := by rw [List.length_map, hi'.vl]
            have ht : 0 ≤ b.test ∧ b.test ≤ 11 := by
              simp only [goP] at hb4
              omega
            refine ck_pos (dT2 (by omega)) ?_
            have hvl := hi'.vl
            rw [getD_I (by omega), S_int]
            obtain ⟨q0, q1⟩ := next_in hbP hi'.vw (by omega)
            obtain ⟨kk, hk, k0, k1, k2⟩ := t95 b v' f.length hbP hi'.vw (by omega)
            have e4 : (b.next.map i64).length = b.next.length := List.length_map _
            have one : S cx 39 (NG39_3_s0 (f.map (eB false)) fuel (s'.loc.map i64) (s'.mem.map i64) (s'.told.map i64) (v'.map i64) 3 n b.go (b.next.map i64) (rdV v' b.test)) = some (iOut (runV f k (nextV b v') v' s').1 (runV f k (nextV b v') v' s').2.1 (runV f k (nextV b v') v' s').2.2.1 ((n + ((runV f k (nextV b v') v' s').2.2.2 + 1) : Nat) : Int)) := by
              rw [NG39_3_s0, e4, C95_S hk]
              refine ck_pos (dT2 (by omega)) ?_
              rw [getD_I (by omega), S_int, k2, hw1]
              refine back_of ?_
              have := ih (n + 1) (nextV b v') v' s' (by omega) q0 q1 hi' h8'
              rw [show ((n + 1 : Nat) : Int) = (n : Int) + 1 by omega] at this
              rw [this]
              refine congrArg (fun z : Nat => some (iOut _ _ _ (z : Int))) ?_
              omega
            exact S_amb2 one one
      | succ d ihd =>
        intro j hd hj v' s' hi' h8' he
        obtain ⟨x, hx⟩ := at_some (show j < b.code.length by omega)
        have hxP := hb1 x (List.mem_of_getElem? hx)
        rw [drop_at hx, blkV] at he
        refine eH39_2 (bif_pos (dT (by omega)) (ck_pos (dT2 (by omega)) ?_))
        rw [getD_at hx, V6_S, C94_S (t94 x v' s' hi' hxP)]
        have hi2 := hi'.step hxP
        have h82 : (stepV x v' s').2.2.loc.length = 8 := by rw [step_loc]; exact h8'
        cases hst : (stepV x v' s').1 with
        | true =>
          rw [if_pos hst] at he
          refine bif_neg rfl (back_of ?_)
          rw [inc64 (n := b.code.length) (by omega) (by omega)]
          exact ihd (j + 1) (by omega) (by omega) _ _ hi2 h82 he
        | false =>
          rw [if_neg (by rw [hst]; simp)] at he
          rw [hr, he]
          exact bif_pos rfl (htrap _ _ hi2 h82)
    exact key b.code.length 0 (by omega) (by omega) v s hi h8 rfl
/-! ### Whole -/
/-- What both answer. -/
def ansV (f : List Bk) (s : Sx) (fuel : Int) : Sx × Int × Int × Bool :=
  if flowP f ∧ stateP s ∧ 0 ≤ fuel ∧ fuel ≤ 2000 then
    (⟨(runV f fuel.toNat 0 (s.loc ++ List.replicate 4 0) s).2.1.take 8, (runV f fuel.toNat 0 (s.loc ++ List.replicate 4 0) s).1.mem, (runV f fuel.toNat 0 (s.loc ++ List.replicate 4 0) s).1.told⟩, (runV f fuel.toNat 0 (s.loc ++ List.replicate 4 0) s).2.2.1, ((runV f fuel.toNat 0 (s.loc ++ List.replicate 4 0) s).2.2.2 : Int), true)
  else (⟨[], [], []⟩, 0, 0, false)
def ansT (f : List Bk) (s : Sx) (fuel : Int) : Res := ([eS false (ansV f s fuel).1, i64 (ansV f s fuel).2.1, i64 (ansV f s fuel).2.2.1, tb (ansV f s fuel).2.2.2], [])
theorem Inv.init {s : Sx} (h : stateP s) : Inv (s.loc ++ List.replicate 4 0) s := by
  obtain ⟨h1, h2, h3, h4, h5, h6⟩ := h
  refine ⟨by simp [h1], fun x hx => ?_, h2, h5, h3⟩
  rcases List.mem_append.1 hx with h | h
  · exact h4 x h
  · rw [(List.mem_replicate.1 h).2]; exact ⟨by omega, by omega⟩
theorem run_small : ∀ (f : List Bk) (k : Nat) (at' : Int) (v : List Int) (s : Sx), flowP f → 0 ≤ at' → at' < f.length → Inv v s → Inv (runV f k at' v s).2.1 (runV f k at' v s).1 := by
  intro f k
  induction k with
  | zero => intro at' v s _ _ _ hi; exact hi
  | succ k ih =>
    intro at' v s hf h0 h1 hi
    have hb := hf.1 _ (List.mem_of_getElem? (getD_some (xs := f) (i := at'.toNat) (by omega)))
    simp only [runV]
    generalize f.getD at'.toNat default = b at hb ⊢
    have hi2 := Inv.blk b.code hi hb.1
    split
    · split
      · exact hi2
      · split
        · exact hi2
        · obtain ⟨q0, q1⟩ := next_in hb hi2.vw (by omega)
          exact ih _ _ _ hf q0 q1 hi2
    · exact hi2
theorem t36 (f : List Bk) (s : Sx) (fuel : Int) (hf : smallF f) (hs : smallS s) : tw cx 36 [rB true false f, eS true s, i64 fuel] = some (ansT f s fuel) := by
  refine e36 ?_
  rw [N36, C85_S (t85 f hf), S_bif]
  unfold ansT ansV
  by_cases c1 : flowP f
  · rw [if_neg (by rw [dT c1]; simp), C86_S (t86 s hs), S_bif]
    by_cases c2 : stateP s
    · rw [if_neg (by rw [dT c2]; simp), C87_S (t87 fuel), S_bif]
      by_cases c3 : 0 ≤ fuel ∧ fuel ≤ 2000
      · rw [if_neg (by rw [dT c3]; simp), if_pos ⟨c1, c2, c3⟩]
        obtain ⟨n, rfl⟩ : ∃ n : Nat, fuel = n := ⟨fuel.toNat, by omega⟩
        rw [Int.toNat_natCast]
        have hin := Inv.init c2
        have h1 := sRun f c1 n (by omega) n 0 0 (s.loc ++ List.replicate 4 0) s (by omega) (Int.le_refl _) (by have := c1.2.1; omega) hin
        have h88 : tw cx 88 [rB true false f, eS true s, i64 n] = some (sOut (runV f n 0 (s.loc ++ List.replicate 4 0) s).1 (runV f n 0 (s.loc ++ List.replicate 4 0) s).2.1 (runV f n 0 (s.loc ++ List.replicate 4 0) s).2.2.1 ((0 + (runV f n 0 (s.loc ++ List.replicate 4 0) s).2.2.2 : Nat) : Int)) := by
          refine e88 ?_
          have hl8 := c2.1
          rw [N88, C89_S (t89 s hs)]
          refine ck_pos (lim_ok (by rw [List.length_map]; omega)) (ck_pos (by have hl : lim = 140737488355328 := rfl; rw [hl]; exact dT (by simp; omega)) ?_)
          rw [List.nil_append, show s.loc.map i64 ++ List.replicate 4 (i64 0) = (s.loc ++ List.replicate 4 0).map i64 by rw [List.map_append, List.map_replicate]]
          exact h1
        have hsm := run_small f n 0 _ s c1 (Int.le_refl _) (by have := c1.2.1; omega) hin
        rw [C88_S h88]
        have h89 := t89 ⟨(runV f n 0 (s.loc ++ List.replicate 4 0) s).2.1.take 8, (runV f n 0 (s.loc ++ List.replicate 4 0) s).1.mem, (runV f n 0 (s.loc ++ List.replicate 4 0) s).1.told⟩ ⟨by have h12 := hsm.vl; show _ ≤ 1073741824; simp; omega, Nat.le_trans (Nat.le_of_eq hsm.ml) (by decide), Nat.le_trans hsm.tl (by decide)⟩
        rw [C89_S h89, S_ret, Nat.zero_add]
      · rw [if_pos (by rw [dF c3]; rfl), if_neg (fun h => c3 h.2.2)]; rfl
    · rw [if_pos (by rw [dF c2]; rfl), if_neg (fun h => c2 h.2.1)]; rfl
  · rw [if_pos (by rw [dF c1]; rfl), if_neg (fun h => c1 h.1)]; rfl
theorem t39 (f : List Bk) (s : Sx) (fuel : Int) (hf : smallF f) (hs : smallS s) : tw cx 39 [rB true false f, eS true s, i64 fuel] = some (ansT f s fuel) := by
  refine e39 ?_
  rw [N39, C91_S (t91 f hf), S_bif]
  unfold ansT ansV
  by_cases c1 : flowP f
  · rw [if_neg (by rw [dT c1]; simp), C92_S (t92 s hs), S_bif]
    by_cases c2 : stateP s
    · rw [if_neg (by rw [dT c2]; simp), C65_S (t65 ..), S_bif]
      by_cases c3 : 0 ≤ fuel ∧ fuel ≤ 2000
      · rw [if_neg (by rw [dT c3]; simp), if_pos ⟨c1, c2, c3⟩]
        obtain ⟨n, rfl⟩ : ∃ n : Nat, fuel = n := ⟨fuel.toNat, by omega⟩
        rw [Int.toNat_natCast]
        have hin := Inv.init c2
        have h1 := iRun f c1 n (by omega) n 0 0 (s.loc ++ List.replicate 4 0) s (by omega) (Int.le_refl _) (by have := c1.2.1; omega) hin c2.1
        have g0 : S cx 39 (G39_0 (f.map (eB false)) n (s.loc.map i64) (s.mem.map i64) (s.told.map i64) (s.loc.map i64) (s.mem.map i64) (s.told.map i64)) = some ([eS false ⟨(runV f n 0 (s.loc ++ List.replicate 4 0) s).2.1.take 8, (runV f n 0 (s.loc ++ List.replicate 4 0) s).1.mem, (runV f n 0 (s.loc ++ List.replicate 4 0) s).1.told⟩, i64 (runV f n 0 (s.loc ++ List.replicate 4 0) s).2.2.1, i64 ((runV f n 0 (s.loc ++ List.replicate 4 0) s).2.2.2 : Int), tb true], []) := by
          refine eG39_0 ?_
          have hl8 := c2.1
          have e1 : cpyT (List.replicate 12 (i64 0)) (s.loc.map i64) = (s.loc ++ List.replicate 4 0).map i64 := by
            unfold cpyT
            rw [List.length_replicate, List.length_map, hl8, List.take_of_length_le (by simp [hl8]), List.drop_replicate, List.map_append, List.map_replicate]
          rw [NG39_0, e1]
          rw [Nat.zero_add] at h1
          exact h1
        have r93 : ∀ K, S cx 39 (C93 (s.loc.map i64) (s.mem.map i64) (s.told.map i64) K) = S cx 39 (K (s.loc.map i64) (s.mem.map i64) (s.told.map i64)) := fun K => C93_S (t93 s hs)
        refine Eq.trans ?_ g0
        have a0 : S cx 39 (N39_s0 (f.map (eB false)) (s.loc.map i64) (s.mem.map i64) (s.told.map i64) n) = S cx 39 (G39_0 (f.map (eB false)) n (s.loc.map i64) (s.mem.map i64) (s.told.map i64) (s.loc.map i64) (s.mem.map i64) (s.told.map i64)) := by
          rw [N39_s0, r93]
        have a1 : S cx 39 (N39_s1 (f.map (eB false)) (s.loc.map i64) (s.mem.map i64) (s.told.map i64) n) = S cx 39 (G39_0 (f.map (eB false)) n (s.loc.map i64) (s.mem.map i64) (s.told.map i64) (s.loc.map i64) (s.mem.map i64) (s.told.map i64)) := by
          rw [N39_s1]; exact S_amb2 a0 a0
        have a2 : S cx 39 (N39_s2 (f.map (eB false)) (s.loc.map i64) (s.mem.map i64) (s.told.map i64) n) = S cx 39 (G39_0 (f.map (eB false)) n (s.loc.map i64) (s.mem.map i64) (s.told.map i64) (s.loc.map i64) (s.mem.map i64) (s.told.map i64)) := by
          rw [N39_s2]; exact S_amb2 (by rw [r93]; exact S_amb2 rfl rfl) a0
        refine S_amb3 (S_amb3 ?_ a1 a2) a1 (S_amb2 a2 a0)
        rw [r93]
        exact S_amb2 rfl (S_amb2 rfl rfl)
      · rw [if_pos (by rw [dF c3]; rfl), if_neg (fun h => c3 h.2.2)]; rfl
    · rw [if_pos (by rw [dF c2]; rfl), if_neg (fun h => c2 h.2.1)]; rfl
  · rw [if_pos (by rw [dF c1]; rfl), if_neg (fun h => c1 h.1)]; rfl
end Go.Tree.Q

/- The law FnExactRunFlow: what it comes to. -/
namespace Go.Tree.Q
open Go.Proofs
set_option linter.unusedVariables false
set_option linter.unusedSimpArgs false
/-! ### Sizes -/
theorem t14 (xs : List F) (left : Int) (hx : xs.length ≤ 9223372036854775807) (h0 : 0 ≤ left ∧ left ≤ 1048576) : tw cx 14 [rF true xs, i64 left] = some ([i64 (if left - xs.length < 0 then -1 else left - xs.length)], []) := by
  refine e14 ?_
  rw [N14, List.length_map, S_bif, w64_id (by omega) (by omega), S_ret, S_ret]
  by_cases c : left - (xs.length : Int) < 0
  · rw [if_pos (dT c), if_pos c]
  · rw [if_neg (by rw [dF c]; simp), if_neg c]
theorem t84 (xs : List Int) (left : Int) (hx : xs.length ≤ 9223372036854775807) (h0 : 0 ≤ left ∧ left ≤ 1048576) : tw cx 84 [rI true xs, i64 left] = some ([i64 (if left - xs.length < 0 then -1 else left - xs.length)], []) := by
  refine e84 ?_
  rw [N84, List.length_map, S_bif, w64_id (by omega) (by omega), S_ret, S_ret]
  by_cases c : left - (xs.length : Int) < 0
  · rw [if_pos (dT c), if_pos c]
  · rw [if_neg (by rw [dF c]; simp), if_neg c]
theorem t83 (b : Bk) (left : Int) (h1 : b.code.length ≤ 9223372036854775807) (h2 : b.next.length ≤ 9223372036854775807) (h0 : 0 ≤ left ∧ left ≤ 1048576) :
    ∃ r : Int, tw cx 83 [eB true b, i64 left] = some ([i64 r], []) ∧ r ≤ 1048576 ∧ (0 ≤ r → b.code.length ≤ 1048576 ∧ b.next.length ≤ 1048576) := by
  by_cases c : left - (b.code.length : Int) < 0
  · refine ⟨-1, e83 ?_, by omega, fun h => by omega⟩
    have := t14 b.code left h1 h0
    rw [if_pos c] at this
    rw [N83, C14_S this]
    exact bif_pos rfl rfl
  · have := t14 b.code left h1 h0
    rw [if_neg c] at this
    have h84 := t84 b.next (left - b.code.length) h2 ⟨by omega, by omega⟩
    by_cases c2 : left - (b.code.length : Int) - (b.next.length : Int) < 0
    · refine ⟨-1, e83 ?_, by omega, fun h => by omega⟩
      rw [if_pos c2] at h84
      rw [N83, C14_S this]
      refine bif_neg (dF c) ?_
      rw [C84_S h84]
      exact bif_pos rfl rfl
    · refine ⟨left - b.code.length - b.next.length, e83 ?_, ?_, fun h => ⟨by omega, by omega⟩⟩
      · rw [if_neg c2] at h84
        rw [N83, C14_S this]
        refine bif_neg (dF c) ?_
        rw [C84_S h84]
        exact bif_neg (dF c2) rfl
      · omega
theorem t34 (f : List Bk) (hx : f.length ≤ 9223372036854775807) (hb : ∀ b ∈ f, b.code.length ≤ 9223372036854775807 ∧ b.next.length ≤ 9223372036854775807) :
    ∃ r : Int, tw cx 34 [rB true true f, i64 1048576] = some ([i64 r], []) ∧ r ≤ 1048576 ∧ (0 ≤ r → f.length ≤ 1048576 ∧ ∀ b ∈ f, b.code.length ≤ 1048576 ∧ b.next.length ≤ 1048576) := by
  have e1 : (f.map (eB true)).length = f.length := List.length_map _
  by_cases c : (1048576 : Int) - (f.length : Int) < 0
  · refine ⟨-1, e34 ?_, by omega, fun h => by omega⟩
    rw [N34, e1, w64_id (by omega) (by omega)]
    exact bif_pos (dT c) rfl
  · have key : ∀ d j : Nat, f.length - j = d → j ≤ f.length → ∀ left : Int, 0 ≤ left ∧ left ≤ 1048576 →
        ∃ r : Int, S cx 34 (H34_0 (f.map (eB true)) left j) = some ([i64 r], []) ∧ r ≤ 1048576 ∧ (0 ≤ r → ∀ b ∈ f.drop j, b.code.length ≤ 1048576 ∧ b.next.length ≤ 1048576) := by
      intro d
      induction d with
      | zero =>
        intro j hd hj left hl
        have : j = f.length := by omega
        subst this
        exact ⟨left, eH34_0 (bif_neg (dF (by omega)) rfl), hl.2, fun _ b hb => by simp at hb⟩
      | succ d ih =>
        intro j hd hj left hl
        obtain ⟨b, hbj⟩ := at_some (show j < f.length by omega)
        have hbm := hb b (List.mem_of_getElem? hbj)
        obtain ⟨r1, h1, h2, h3⟩ := t83 b left hbm.1 hbm.2 hl
        by_cases c1 : r1 < 0
        · refine ⟨-1, eH34_0 (bif_pos (dT (by omega)) (ck_pos (dT2 (by omega)) ?_)), by omega, fun h => by omega⟩
          rw [getD_at hbj, V4_S, C83_S h1]
          exact bif_pos (dT c1) rfl
        · obtain ⟨r, g1, g2, g3⟩ := ih (j + 1) (by omega) (by omega) r1 ⟨by omega, h2⟩
          refine ⟨r, eH34_0 (bif_pos (dT (by omega)) (ck_pos (dT2 (by omega)) ?_)), g2, fun h => ?_⟩
          · rw [getD_at hbj, V4_S, C83_S h1]
            refine bif_neg (dF c1) (back_of ?_)
            rw [inc64 (n := f.length) (by omega) (by omega)]
            exact g1
          · rw [drop_at hbj]
            intro b' hb'
            rcases List.mem_cons.1 hb' with rfl | hb'
            · exact h3 (by omega)
            · exact g3 h b' hb'
    obtain ⟨r, g1, g2, g3⟩ := key f.length 0 (by omega) (by omega) (1048576 - f.length) ⟨by omega, by omega⟩
    refine ⟨r, e34 ?_, g2, fun h => ⟨by omega, by simpa using g3 h⟩⟩
    rw [N34, e1, w64_id (by omega) (by omega)]
    exact bif_neg (dF c) g1
theorem t35 (s : Sx) (left : Int) (h1 : s.loc.length ≤ 9223372036854775807) (h2 : s.mem.length ≤ 9223372036854775807) (h3 : s.told.length ≤ 9223372036854775807) (h0 : 0 ≤ left ∧ left ≤ 1048576) :
    ∃ r : Int, tw cx 35 [eS true s, i64 left] = some ([i64 r], []) ∧ (0 ≤ r → s.loc.length ≤ 1048576 ∧ s.mem.length ≤ 1048576 ∧ s.told.length ≤ 1048576) := by
  have a1 := t84 s.loc left h1 h0
  by_cases c1 : left - (s.loc.length : Int) < 0
  · rw [if_pos c1] at a1
    refine ⟨-1, e35 ?_, fun h => by omega⟩
    rw [N35, C84_S a1]
    exact bif_pos rfl rfl
  · rw [if_neg c1] at a1
    have a2 := t84 s.mem (left - s.loc.length) h2 ⟨by omega, by omega⟩
    by_cases c2 : left - (s.loc.length : Int) - (s.mem.length : Int) < 0
    · rw [if_pos c2] at a2
      refine ⟨-1, e35 ?_, fun h => by omega⟩
      rw [N35, C84_S a1]
      refine bif_neg (dF c1) ?_
      rw [C84_S a2]
      exact bif_pos rfl rfl
    · rw [if_neg c2] at a2
      have a3 := t84 s.told (left - s.loc.length - s.mem.length) h3 ⟨by omega, by omega⟩
      by_cases c3 : left - (s.loc.length : Int) - (s.mem.length : Int) - (s.told.length : Int) < 0
      · rw [if_pos c3] at a3
        refine ⟨-1, e35 ?_, fun h => by omega⟩
        rw [N35, C84_S a1]
        refine bif_neg (dF c1) ?_
        rw [C84_S a2]
        refine bif_neg (dF c2) ?_
        rw [C84_S a3]
        exact bif_pos rfl rfl
      · rw [if_neg c3] at a3
        refine ⟨left - s.loc.length - s.mem.length - s.told.length, e35 ?_, fun h => ⟨by omega, by omega, by omega⟩⟩
        rw [N35, C84_S a1]
        refine bif_neg (dF c1) ?_
        rw [C84_S a2]
        refine bif_neg (dF c2) ?_
        rw [C84_S a3]
        exact bif_neg (dF c3) rfl
/-! ### What is alike -/
theorem t68 (x : F) : tw cx 68 [eF x, eF x] = some ([tb true], []) := by
  refine e68 ?_
  simp only [N68, S_bif, S_ret, bne_self_eq_false, Bool.false_eq_true, if_false]
theorem t20 (xs : List Int) (hl : xs.length ≤ big) : tw cx 20 [rI true xs, rI true xs] = some ([tb true], []) := by
  have hb : xs.length ≤ 1073741824 := hl
  have e1 : (xs.map i64).length = xs.length := List.length_map _
  have := all_list (xs := xs) (q := fun _ => true) (H := fun i => S cx 20 (H20_0 (xs.map i64) (xs.map i64) i)) (yes := fun _ => none) (no := ([tb false], [])) (fun j x hx => by
    have hj := lt_of_at hx
    refine ⟨fun _ r h => ?_, fun hq => by cases hq⟩
    refine eH20_0 (bif_pos (dT (by omega)) (ck_pos (dT2 (by omega)) ?_))
    rw [getD_at hx, S_int]
    refine ck_pos (dT2 (by omega)) ?_
    rw [S_int]
    refine bif_neg (by simp) (back_of ?_)
    rw [inc64 hj hb]
    exact h) (eH20_0 (bif_neg (dF (by omega)) rfl))
  refine e20 (bif_neg (by simp) ?_)
  refine Eq.trans this ?_
  simp
theorem t19 (xs : List F) (hl : xs.length ≤ big) : tw cx 19 [rF true xs, rF true xs] = some ([tb true], []) := by
  have hb : xs.length ≤ 1073741824 := hl
  have e1 : (xs.map eF).length = xs.length := List.length_map _
  have := all_list (xs := xs) (q := fun _ => true) (H := fun i => S cx 19 (H19_0 (xs.map eF) (xs.map eF) i)) (yes := fun _ => none) (no := ([tb false], [])) (fun j x hx => by
    have hj := lt_of_at hx
    refine ⟨fun _ r h => ?_, fun hq => by cases hq⟩
    refine eH19_0 (bif_pos (dT (by omega)) (ck_pos (dT2 (by omega)) ?_))
    rw [getD_at hx, V6_S]
    refine ck_pos (dT2 (by omega)) ?_
    rw [V6_S, C68_S (t68 x)]
    refine bif_neg rfl (back_of ?_)
    rw [inc64 hj hb]
    exact h) (eH19_0 (bif_neg (dF (by omega)) rfl))
  refine e19 (bif_neg (by simp) ?_)
  refine Eq.trans this ?_
  simp
theorem t96 (b : Bk) (h : smallB b) : tw cx 96 [eB true b, eB true b] = some ([tb true], []) := by
  refine e96 ?_
  rw [N96, C19_S (t19 b.code h.1)]
  refine bif_neg rfl (bif_neg (by simp) (bif_neg (by simp) ?_))
  rw [C20_S (t20 b.next h.2)]
  exact bif_neg rfl rfl
theorem t41 (f : List Bk) (hf : smallF f) : tw cx 41 [rB true false f, rB true false f] = some ([tb true], []) := by
  have hb : f.length ≤ 1073741824 := hf.1
  have e1 : (f.map (eB false)).length = f.length := List.length_map _
  have := all_list (xs := f) (q := fun _ => true) (H := fun i => S cx 41 (H41_0 (f.map (eB false)) (f.map (eB false)) i)) (yes := fun _ => none) (no := ([tb false], [])) (fun j x hx => by
    have hj := lt_of_at hx
    refine ⟨fun _ r h => ?_, fun hq => by cases hq⟩
    refine eH41_0 (bif_pos (dT (by omega)) (ck_pos (dT2 (by omega)) ?_))
    rw [getD_at hx, V4_S]
    refine ck_pos (dT2 (by omega)) ?_
    rw [V4_S, C96_S (t96 x (hf.2 x (List.mem_of_getElem? hx)))]
    refine bif_neg rfl (back_of ?_)
    rw [inc64 hj hb]
    exact h) (eH41_0 (bif_neg (dF (by omega)) rfl))
  refine e41 (bif_neg (by simp) ?_)
  refine Eq.trans this ?_
  simp
theorem t40 (s : Sx) (h : smallS s) : tw cx 40 [eS true s, eS true s] = some ([tb true], []) := by
  refine e40 ?_
  rw [N40, C20_S (t20 s.loc h.1)]
  refine bif_neg rfl ?_
  rw [C20_S (t20 s.mem h.2.1)]
  refine bif_neg rfl ?_
  rw [C20_S (t20 s.told h.2.2)]
  exact bif_neg rfl rfl
end Go.Tree.Q

/- The law FnExactRunFlow: marks, and the whole. -/
namespace Go.Tree.Q
open Go.Proofs
set_option linter.unusedVariables false
set_option linter.unusedSimpArgs false
/-- Numbers from one on. -/
def marksV (k : Int) (n : Nat) : List Int := (List.range n).map fun (i : Nat) => k + (i : Int)
theorem marks_eq (k : Int) (n : Nat) : marks k n = (marksV k n).map i64 := by
  unfold marks marksV
  rw [List.map_map]
  rfl
theorem marksV_len (k : Int) (n : Nat) : (marksV k n).length = n := by simp [marksV]
theorem marksV_at {k : Int} {n j : Nat} (h : j < n) : (marksV k n)[j]? = some (k + (j : Int)) := by
  simp [marksV, h]
/-- A loop that goes on to a row's end. -/
theorem go_loop {n : Nat} {H : Int → Option Res} {r : Res} (I : Nat → Prop)
    (hr : ∀ j : Nat, j < n → H ((j + 1 : Nat) : Int) = some r → H (j : Int) = some r) (he : H (n : Int) = some r) : H 0 = some r := by
  have key : ∀ d j : Nat, n - j = d → j ≤ n → H (j : Int) = some r := by
    intro d
    induction d with
    | zero =>
      intro j hd hj
      have : j = n := by omega
      subst this; exact he
    | succ d ih =>
      intro j hd hj
      exact hr j (by omega) (ih (j + 1) (by omega) (by omega))
  exact key n 0 (by omega) (by omega)
theorem t25 (k : Int) (n : Nat) (hk : 0 ≤ k ∧ k ≤ 1152921504606846976) (hn : n ≤ big) : tw cx 25 [rI true (marksV k n), i64 k] = some ([i64 (k + n)], []) := by
  have hb : n ≤ 1073741824 := hn
  have e1 : ((marksV k n).map i64).length = n := by rw [List.length_map, marksV_len]
  have key : ∀ d j : Nat, n - j = d → j ≤ n → S cx 25 (H25_0 ((marksV k n).map i64) (k + j) j) = some ([i64 (k + n)], []) := by
    intro d
    induction d with
    | zero =>
      intro j hd hj
      have : j = n := by omega
      subst this
      exact eH25_0 (bif_neg (dF (by omega)) rfl)
    | succ d ih =>
      intro j hd hj
      refine eH25_0 (bif_pos (dT (by omega)) (ck_pos (dT2 (by omega)) ?_))
      rw [getD_at (marksV_at (show j < n by omega)), S_int]
      refine bif_neg (by simp) (back_of ?_)
      rw [inc64 (n := n) (by omega) hb, w64_id (by omega) (by omega), show k + (j : Int) + 1 = k + ((j + 1 : Nat) : Int) by omega]
      exact ih (j + 1) (by omega) (by omega)
  refine e25 ?_
  have := key n 0 (by omega) (by omega)
  simpa [N25] using this
theorem t24 (xs : List Int) (k : Int) (hk : 0 ≤ k ∧ k ≤ 1152921504606846976) (hl : xs.length ≤ big) : tw cx 24 [rI false xs, i64 k] = some ([i64 (k + xs.length)], [rI false (marksV k xs.length)]) := by
  have hb : xs.length ≤ 1073741824 := hl
  have key : ∀ d j : Nat, xs.length - j = d → j ≤ xs.length → S cx 24 (H24_0 (k + j) j (((marksV k j) ++ xs.drop j).map i64)) = some ([i64 (k + xs.length)], [rI false (marksV k xs.length)]) := by
    intro d
    induction d with
    | zero =>
      intro j hd hj
      have : j = xs.length := by omega
      subst this
      rw [List.drop_length, List.append_nil]
      exact eH24_0 (bif_neg (dF (by rw [List.length_map, marksV_len]; omega)) rfl)
    | succ d ih =>
      intro j hd hj
      have e1 : (((marksV k j) ++ xs.drop j).map i64).length = xs.length := by
        rw [List.length_map, List.length_append, marksV_len, List.length_drop]; omega
      refine eH24_0 (bif_pos (dT (by omega)) (ck_pos (dT2 (by omega)) (back_of ?_)))
      rw [inc64 (n := xs.length) (by omega) hb, w64_id (by omega) (by omega), set_I]
      have e2 : ((marksV k j) ++ xs.drop j).set ((j : Int)).toNat (k + j) = marksV k (j + 1) ++ xs.drop (j + 1) := by
        obtain ⟨x, hx⟩ := at_some (show j < xs.length by omega)
        rw [Int.toNat_natCast, List.set_append_right _ _ (by rw [marksV_len]; exact Nat.le_refl _), marksV_len, Nat.sub_self, drop_at hx, List.set_cons_zero]
        simp [marksV, List.range_succ]
      rw [e2, show k + (j : Int) + 1 = k + ((j + 1 : Nat) : Int) by omega]
      exact ih (j + 1) (by omega) (by omega)
  refine e24 ?_
  have := key xs.length 0 (by omega) (by omega)
  simpa [N24, marksV] using this
theorem set_T {xs : List F} {j : Nat} {x : F} : (xs.map eF).set (0 + ((j : Nat) : Int).toNat) (.st [i64 x.op, i64 x.fdo, i64 x.dst, i64 x.a, i64 x.b, i64 x.n]) = (xs.set j x).map eF := by
  rw [zN]; exact set_map'
set_option maxRecDepth 20000 in
set_option maxHeartbeats 2000000 in
theorem t23 (xs : List F) (k : Int) (hk : 0 ≤ k ∧ k ≤ 1152921504606846976) (hl : xs.length ≤ big) : ∃ ys : List F, tw cx 23 [rF false xs, i64 k] = some ([i64 (k + 6 * xs.length)], [rF false ys]) := by
  have hb : xs.length ≤ 1073741824 := hl
  have key : ∀ d j : Nat, xs.length - j = d → j ≤ xs.length → ∀ zs : List F, zs.length = xs.length → ∃ ys : List F, S cx 23 (H23_0 (k + 6 * j) j (zs.map eF)) = some ([i64 (k + 6 * xs.length)], [rF false ys]) := by
    intro d
    induction d with
    | zero =>
      intro j hd hj zs hz
      have : j = xs.length := by omega
      subst this
      exact ⟨zs, eH23_0 (bif_neg (dF (by rw [List.length_map]; omega)) rfl)⟩
    | succ d ih =>
      intro j hd hj zs hz
      obtain ⟨x, hx⟩ := at_some (show j < zs.length by omega)
      have w1 : w64 (k + 6 * j + 1) = k + 6 * j + 1 := w64_id (by omega) (by omega)
      have w2 : w64 (k + 6 * j + 1 + 1) = k + 6 * j + 1 + 1 := w64_id (by omega) (by omega)
      have w3 : w64 (k + 6 * j + 1 + 1 + 1) = k + 6 * j + 1 + 1 + 1 := w64_id (by omega) (by omega)
      have w4 : w64 (k + 6 * j + 1 + 1 + 1 + 1) = k + 6 * j + 1 + 1 + 1 + 1 := w64_id (by omega) (by omega)
      have w5 : w64 (k + 6 * j + 1 + 1 + 1 + 1 + 1) = k + 6 * j + 1 + 1 + 1 + 1 + 1 := w64_id (by omega) (by omega)
      have w6 : w64 (k + 6 * j + 1 + 1 + 1 + 1 + 1 + 1) = k + 6 * j + 1 + 1 + 1 + 1 + 1 + 1 := w64_id (by omega) (by omega)
      have nx : ∀ {ws : List F} {y z : F} (hws : ws[j]? = some y), (ws.set j z)[j]? = some z := fun {ws y z} hws => by
        rw [List.getElem?_set_self (lt_of_at hws)]
      have s1 := nx (z := ⟨k + 6 * j, x.fdo, x.dst, x.a, x.b, x.n⟩) hx
      have s2 := nx (z := ⟨k + 6 * j, k + 6 * j + 1, x.dst, x.a, x.b, x.n⟩) s1
      have s3 := nx (z := ⟨k + 6 * j, k + 6 * j + 1, k + 6 * j + 1 + 1, x.a, x.b, x.n⟩) s2
      have s4 := nx (z := ⟨k + 6 * j, k + 6 * j + 1, k + 6 * j + 1 + 1, k + 6 * j + 1 + 1 + 1, x.b, x.n⟩) s3
      have s5 := nx (z := ⟨k + 6 * j, k + 6 * j + 1, k + 6 * j + 1 + 1, k + 6 * j + 1 + 1 + 1, k + 6 * j + 1 + 1 + 1 + 1, x.n⟩) s4
      obtain ⟨ys, hy⟩ := ih (j + 1) (by omega) (by omega) (((((((zs.set j ⟨k + 6 * j, x.fdo, x.dst, x.a, x.b, x.n⟩).set j ⟨k + 6 * j, k + 6 * j + 1, x.dst, x.a, x.b, x.n⟩).set j ⟨k + 6 * j, k + 6 * j + 1, k + 6 * j + 1 + 1, x.a, x.b, x.n⟩).set j ⟨k + 6 * j, k + 6 * j + 1, k + 6 * j + 1 + 1, k + 6 * j + 1 + 1 + 1, x.b, x.n⟩).set j ⟨k + 6 * j, k + 6 * j + 1, k + 6 * j + 1 + 1, k + 6 * j + 1 + 1 + 1, k + 6 * j + 1 + 1 + 1 + 1, x.n⟩)).set j ⟨k + 6 * j, k + 6 * j + 1, k + 6 * j + 1 + 1, k + 6 * j + 1 + 1 + 1, k + 6 * j + 1 + 1 + 1 + 1, k + 6 * j + 1 + 1 + 1 + 1 + 1⟩) (by simp [hz])
      refine ⟨ys, ?_⟩
      have hj1 : (j : Int) < (xs.length : Int) := by omega
      refine eH23_0 (bif_pos (dT (by rw [List.length_map]; omega)) (ck_pos (dT2 (by rw [List.length_map]; omega)) ?_))
      rw [getD_at hx, V6_S]
      simp only [w1, w2, w3, w4, w5, w6]
      have c1 := set_T (xs := zs) (j := j) (x := ⟨k + 6 * j, x.fdo, x.dst, x.a, x.b, x.n⟩)
      simp only at c1
      rw [c1]
      refine ck_pos (dT2 (by simp [hz]; omega)) ?_
      rw [getD_at s1, V6_S]
      have c2 := set_T (xs := zs.set j ⟨k + 6 * j, x.fdo, x.dst, x.a, x.b, x.n⟩) (j := j) (x := ⟨k + 6 * j, k + 6 * j + 1, x.dst, x.a, x.b, x.n⟩)
      simp only at c2 ⊢
      rw [c2]
      refine ck_pos (dT2 (by simp [hz]; omega)) ?_
      rw [getD_at s2, V6_S]
      have c3 := set_T (xs := (zs.set j ⟨k + 6 * j, x.fdo, x.dst, x.a, x.b, x.n⟩).set j ⟨k + 6 * j, k + 6 * j + 1, x.dst, x.a, x.b, x.n⟩) (j := j) (x := ⟨k + 6 * j, k + 6 * j + 1, k + 6 * j + 1 + 1, x.a, x.b, x.n⟩)
      simp only at c3 ⊢
      rw [c3]
      refine ck_pos (dT2 (by simp [hz]; omega)) ?_
      rw [getD_at s3, V6_S]
      have c4 := set_T (xs := ((zs.set j ⟨k + 6 * j, x.fdo, x.dst, x.a, x.b, x.n⟩).set j ⟨k + 6 * j, k + 6 * j + 1, x.dst, x.a, x.b, x.n⟩).set j ⟨k + 6 * j, k + 6 * j + 1, k + 6 * j + 1 + 1, x.a, x.b, x.n⟩) (j := j) (x := ⟨k + 6 * j, k + 6 * j + 1, k + 6 * j + 1 + 1, k + 6 * j + 1 + 1 + 1, x.b, x.n⟩)
      simp only at c4 ⊢
      rw [c4]
      refine ck_pos (dT2 (by simp [hz]; omega)) ?_
      rw [getD_at s4, V6_S]
      have c5 := set_T (xs := (((zs.set j ⟨k + 6 * j, x.fdo, x.dst, x.a, x.b, x.n⟩).set j ⟨k + 6 * j, k + 6 * j + 1, x.dst, x.a, x.b, x.n⟩).set j ⟨k + 6 * j, k + 6 * j + 1, k + 6 * j + 1 + 1, x.a, x.b, x.n⟩).set j ⟨k + 6 * j, k + 6 * j + 1, k + 6 * j + 1 + 1, k + 6 * j + 1 + 1 + 1, x.b, x.n⟩) (j := j) (x := ⟨k + 6 * j, k + 6 * j + 1, k + 6 * j + 1 + 1, k + 6 * j + 1 + 1 + 1, k + 6 * j + 1 + 1 + 1 + 1, x.n⟩)
      simp only at c5 ⊢
      rw [c5]
      refine ck_pos (dT2 (by simp [hz]; omega)) ?_
      rw [getD_at s5, V6_S]
      have c6 := set_T (xs := ((((zs.set j ⟨k + 6 * j, x.fdo, x.dst, x.a, x.b, x.n⟩).set j ⟨k + 6 * j, k + 6 * j + 1, x.dst, x.a, x.b, x.n⟩).set j ⟨k + 6 * j, k + 6 * j + 1, k + 6 * j + 1 + 1, x.a, x.b, x.n⟩).set j ⟨k + 6 * j, k + 6 * j + 1, k + 6 * j + 1 + 1, k + 6 * j + 1 + 1 + 1, x.b, x.n⟩).set j ⟨k + 6 * j, k + 6 * j + 1, k + 6 * j + 1 + 1, k + 6 * j + 1 + 1 + 1, k + 6 * j + 1 + 1 + 1 + 1, x.n⟩) (j := j) (x := ⟨k + 6 * j, k + 6 * j + 1, k + 6 * j + 1 + 1, k + 6 * j + 1 + 1 + 1, k + 6 * j + 1 + 1 + 1 + 1, k + 6 * j + 1 + 1 + 1 + 1 + 1⟩)
      simp only at c6 ⊢
      rw [c6]
      refine back_of ?_
      rw [inc64 (n := xs.length) (by omega) hb, show k + 6 * (j : Int) + 1 + 1 + 1 + 1 + 1 + 1 = k + 6 * ((j + 1 : Nat) : Int) by omega]
      exact hy
  obtain ⟨ys, hy⟩ := key xs.length 0 (by omega) (by omega) xs rfl
  exact ⟨ys, e23 (by simpa [N23] using hy)⟩
end Go.Tree.Q

/- The law FnExactRunFlow: marks, and the whole. -/
namespace Go.Tree.Q
open Go.Proofs
set_option linter.unusedVariables false
set_option linter.unusedSimpArgs false
theorem set_get {l : List TV} {j : Nat} {y : TV} (h : j < l.length) : (l.set (0 + ((j : Nat) : Int).toNat) y).getD (0 + ((j : Nat) : Int).toNat) (.dead ()) = y := by
  rw [zN, List.getD_eq_getElem?_getD, List.getElem?_set_self h]; rfl
theorem fk0 {a b c d : TV} : fieldOk cx.P 110 0 [a, b, c, d] = true := by kernel_rfl
theorem fk3 {p : Bool} {m : Ek} {a : List TV} {b c : Int} {t : TV} : fieldOk cx.P 110 3 [sl p m a, i64 b, i64 c, t] = true := by kernel_rfl
theorem set_B {xs : List Bk} {j : Nat} {x : Bk} : (xs.map (eB false)).set (0 + ((j : Nat) : Int).toNat) (eB false x) = (xs.set j x).map (eB false) := by
  rw [zN]; exact set_map'
set_option maxRecDepth 20000 in
set_option maxHeartbeats 2000000 in
theorem t42 (f : List Bk) (hf : f.length ≤ 1048576 ∧ ∀ b ∈ f, b.code.length ≤ 1048576 ∧ b.next.length ≤ 1048576) : ∃ (r : Int) (L : List TV), tw cx 42 [rB false false f, i64 1] = some ([i64 r], [sl false ⟨4, true⟩ L]) ∧ 0 ≤ r ∧ r ≤ 1152921504606846976 := by
  obtain ⟨hl, hb⟩ := hf
  have key : ∀ d j : Nat, f.length - j = d → j ≤ f.length → ∀ (k : Int) (ys zs : List Bk), ys ++ zs = ys ++ f.drop j → ys.length = j → 0 ≤ k → k ≤ 1 + j * 16777216 → ∃ (r : Int) (L : List TV), S cx 42 (H42_0 k j ((ys ++ zs).map (eB false))) = some ([i64 r], [sl false ⟨4, true⟩ L]) ∧ 0 ≤ r ∧ r ≤ 1152921504606846976 := by
    intro d
    induction d with
    | zero =>
      intro j hd hj k ys zs e hy h0 h1
      have hzs : zs = f.drop j := List.append_cancel_left e
      have hz : zs = [] := by rw [hzs]; exact List.drop_of_length_le (by omega)
      subst hz
      exact ⟨k, _, eH42_0 (bif_neg (dF (by rw [List.length_map, List.append_nil]; omega)) rfl), h0, by omega⟩
    | succ d ih =>
      intro j hd hj k ys zs e hy h0 h1
      have hzs : zs = f.drop j := List.append_cancel_left e
      obtain ⟨x, hx⟩ := at_some (show j < f.length by omega)
      have hx2 : (ys ++ zs)[j]? = some x := by
        rw [List.getElem?_append_right (by omega), hy, Nat.sub_self, hzs, List.getElem?_drop]; simpa using hx
      obtain ⟨c1, c2⟩ := hb x (List.mem_of_getElem? hx)
      have e1 : ((ys ++ zs).map (eB false)).length = f.length := by
        rw [List.length_map, List.length_append, hzs, List.length_drop]; omega
      obtain ⟨cs, hc⟩ := t23 x.code k ⟨h0, by omega⟩ (by show _ ≤ 1073741824; omega)
      have w1 : w64 (k + 6 * x.code.length + 1) = k + 6 * x.code.length + 1 := w64_id (by omega) (by omega)
      have w2 : w64 (k + 6 * x.code.length + 1 + 1) = k + 6 * x.code.length + 1 + 1 := w64_id (by omega) (by omega)
      have hn := t24 x.next (k + 6 * x.code.length + 1 + 1) ⟨by omega, by omega⟩ (by show _ ≤ 1073741824; omega)
      have hj1 : j < ((ys ++ zs).map (eB false)).length := by omega
      have hck : (decide ((0 : Int) ≤ (j : Int)) && decide ((j : Int) < (((ys ++ zs).map (eB false)).length : Int))) = true := dT2 (by omega)
      obtain ⟨r, L, g1, g2⟩ := ih (j + 1) (by omega) (by omega) (k + 6 * x.code.length + 1 + 1 + x.next.length) (ys ++ [⟨cs, k + 6 * x.code.length, k + 6 * x.code.length + 1, marksV (k + 6 * x.code.length + 1 + 1) x.next.length⟩]) (f.drop (j + 1)) rfl (by simp [hy]) (by omega) (by omega)
      refine ⟨r, L, ?_, g2⟩
      refine eH42_0 (bif_pos (dT (by omega)) (ck_pos hck ?_))
      rw [getD_at hx2, V4_1_S, V4_1_S, V4_1_S, S_call hc]
      rw [S_cons, S_int, S_nil, S_cons, S_slO, set_get hj1, S_st]
      refine ck_pos fk0 ?_
      refine ck_pos (by kernel_rfl) ?_
      rw [S_nil, List.set_set]
      have st0 : ∀ (a b c d t : TV), ([a, b, c, d] : List TV).set 0 t = [t, b, c, d] := fun _ _ _ _ _ => rfl
      have st3 : ∀ (a b c d t : TV), ([a, b, c, d] : List TV).set 3 t = [a, b, c, t] := fun _ _ _ _ _ => rfl
      have hs : ∀ (t : TV), ((((ys ++ zs).map (eB false)).set (0 + (j : Int).toNat) t).length : Int) = (((ys ++ zs).map (eB false)).length : Int) := fun t => by rw [List.length_set]
      rw [st0]
      refine ck_pos (by rw [hs]; exact hck) ?_
      rw [set_get hj1, V4_1_S, List.set_set]
      refine ck_pos (by rw [hs]; exact hck) ?_
      rw [set_get hj1, V4_1_S, List.set_set, w1]
      refine ck_pos (by rw [hs]; exact hck) ?_
      rw [set_get hj1, V4_1_S, V4_1_S, V4_1_S, w2, S_call hn, List.set_set]
      rw [S_cons, S_int, S_nil, S_cons, S_slO, set_get hj1, S_st]
      refine ck_pos fk3 ?_
      refine ck_pos (by kernel_rfl) ?_
      rw [S_nil, List.set_set, st3]
      refine back_of ?_
      rw [inc64 (n := f.length) (by omega) (by omega)]
      have e2 := set_B (xs := ys ++ zs) (j := j) (x := ⟨cs, k + 6 * x.code.length, k + 6 * x.code.length + 1, marksV (k + 6 * x.code.length + 1 + 1) x.next.length⟩)
      have e3 : (ys ++ zs).set j (⟨cs, k + 6 * x.code.length, k + 6 * x.code.length + 1, marksV (k + 6 * x.code.length + 1 + 1) x.next.length⟩ : Bk) = (ys ++ [⟨cs, k + 6 * x.code.length, k + 6 * x.code.length + 1, marksV (k + 6 * x.code.length + 1 + 1) x.next.length⟩]) ++ f.drop (j + 1) := by
        rw [List.set_append_right _ _ (by omega), hy, Nat.sub_self, hzs, drop_at hx, List.set_cons_zero, List.append_assoc]; rfl
      rw [e3] at e2
      rw [e2]
      exact g1
  obtain ⟨r, L, g1, g2⟩ := key f.length 0 (by omega) (by omega) 1 [] f rfl rfl (by omega) (by omega)
  exact ⟨r, L, e42 (by simpa [N42] using g1), g2⟩
theorem t43 (s : Sx) (k : Int) (hk : 0 ≤ k ∧ k ≤ 1152921504606846976) (h : smallS s) : tw cx 43 [eS false s, i64 k] = some ([i64 (k + s.loc.length + s.mem.length + s.told.length)], [eS false ⟨marksV k s.loc.length, marksV (k + s.loc.length) s.mem.length, marksV (k + s.loc.length + s.mem.length) s.told.length⟩]) := by
  refine tw_given (g := g43) rfl ?_
  obtain ⟨h1, h2, h3⟩ := h
  have h1' : s.loc.length ≤ 1073741824 := h1
  have h2' : s.mem.length ≤ 1073741824 := h2
  have h3' : s.told.length ≤ 1073741824 := h3
  simp only [eS, rI, g43, List.length_map]
  rw [if_pos ⟨hk.1, hk.2, h1', h2', h3'⟩]
  simp only [marks_eq]
theorem t44 (k : Int) (a b c : Nat) (hk : 0 ≤ k ∧ k ≤ 1000000) (ha : a ≤ 1048576) (hb : b ≤ 1048576) (hc : c ≤ 1048576) : tw cx 44 [eS true ⟨marksV k a, marksV (k + a) b, marksV (k + a + b) c⟩, i64 k] = some ([i64 (k + a + b + c)], []) := by
  refine e44 ?_
  rw [N44, C25_S (t25 k a ⟨hk.1, by omega⟩ (by show _ ≤ 1073741824; omega))]
  refine bif_neg (dF (by omega)) ?_
  rw [C25_S (t25 (k + a) b ⟨by omega, by omega⟩ (by show _ ≤ 1073741824; omega))]
  refine bif_neg (dF (by omega)) ?_
  rw [C25_S (t25 (k + a + b) c ⟨by omega, by omega⟩ (by show _ ≤ 1073741824; omega))]
  exact bif_neg (dF (by omega)) rfl
theorem smallS_loc {s : Sx} (h : s.loc.length ≤ 1048576 ∧ s.mem.length ≤ 1048576 ∧ s.told.length ≤ 1048576) : smallS s := by
  refine ⟨?_, ?_, ?_⟩ <;> show _ ≤ 1073741824 <;> omega
end Go.Tree.Q

/- The law FnExactRunFlow: it answers true. -/
namespace Go.Tree.Q
open Go.Proofs
set_option linter.unusedVariables false
set_option linter.unusedSectionVars false
set_option linter.unusedSimpArgs false
theorem ansV_small (f : List Bk) (s : Sx) (fuel : Int) : (ansV f s fuel).1.loc.length ≤ 1048576 ∧ (ansV f s fuel).1.mem.length ≤ 1048576 ∧ (ansV f s fuel).1.told.length ≤ 1048576 := by
  unfold ansV
  split
  case isTrue h =>
    obtain ⟨hf, hs, h0, h1⟩ := h
    have hi := run_small f fuel.toNat 0 (s.loc ++ List.replicate 4 0) s hf (by omega) (by have := hf.2.1; omega) (Inv.init hs)
    refine ⟨?_, ?_, ?_⟩
    · simp only [List.length_take]; omega
    · have := hi.ml; simp only; omega
    · have := hi.tl; simp only; omega
  case isFalse h => exact ⟨by simp, by simp, by simp⟩
section
variable (f : List Bk) (s : Sx) (fuel : Int)
  (hf : f.length ≤ 1048576 ∧ ∀ b ∈ f, b.code.length ≤ 1048576 ∧ b.next.length ≤ 1048576)
  (hs : s.loc.length ≤ 1048576 ∧ s.mem.length ≤ 1048576 ∧ s.told.length ≤ 1048576)
include hf hs
theorem c37 : tw cx 37 [rB true true f] = some ([rB false false f], []) :=
  t37 f (by omega) (fun x hx => by have := hf.2 x hx; omega)
theorem c38 : tw cx 38 [eS true s] = some ([eS false s], []) := t38 s (by omega) (by omega) (by omega)
theorem sF : smallF f := ⟨by show _ ≤ 1073741824; omega, fun b hb => by have := hf.2 b hb; exact ⟨by show _ ≤ 1073741824; omega, by show _ ≤ 1073741824; omega⟩⟩
theorem c36 : tw cx 36 [rB true false f, eS true s, i64 fuel] = some (ansT f s fuel) := t36 f s fuel (sF f s hf hs) (smallS_loc hs)
theorem c39 : tw cx 39 [rB true false f, eS true s, i64 fuel] = some (ansT f s fuel) := t39 f s fuel (sF f s hf hs) (smallS_loc hs)
theorem end7 : S cx 7 (G7_1 ((ansV f s fuel).1.loc.map i64) ((ansV f s fuel).1.mem.map i64) ((ansV f s fuel).1.told.map i64) (ansV f s fuel).2.1 (ansV f s fuel).2.2.1 (ansV f s fuel).2.2.2 ((marksV 1 (ansV f s fuel).1.loc.length).map i64) ((marksV (1 + (ansV f s fuel).1.loc.length) (ansV f s fuel).1.mem.length).map i64) ((marksV (1 + (ansV f s fuel).1.loc.length + (ansV f s fuel).1.mem.length) (ansV f s fuel).1.told.length).map i64) (1 + (ansV f s fuel).1.loc.length + (ansV f s fuel).1.mem.length + (ansV f s fuel).1.told.length) ((ansV f s fuel).1.loc.map i64) ((ansV f s fuel).1.mem.map i64) ((ansV f s fuel).1.told.map i64) (ansV f s fuel).2.1 (ansV f s fuel).2.2.1 (ansV f s fuel).2.2.2) = some ([tb true], []) := by
  have hw := ansV_small f s fuel
  generalize ansV f s fuel = w at hw ⊢
  refine eG7_1 ?_
  rw [NG7_1, C40_S (t40 w.1 (smallS_loc hw))]
  refine bif_neg rfl (bif_neg (by simp) (bif_neg (by simp) (bif_neg (by simp) ?_)))
  rw [C44_S (t44 1 _ _ _ ⟨by omega, by omega⟩ hw.1 hw.2.1 hw.2.2)]
  exact bif_neg (dF (by omega)) (bif_neg (by simp) rfl)
theorem mid7 : S cx 7 (G7_0 (f.map (eB true)) fuel (s.loc.map i64) (s.mem.map i64) (s.told.map i64) ((ansV f s fuel).1.loc.map i64) ((ansV f s fuel).1.mem.map i64) ((ansV f s fuel).1.told.map i64) (ansV f s fuel).2.1 (ansV f s fuel).2.2.1 (ansV f s fuel).2.2.2) = some ([tb true], []) := by
  have hw := ansV_small f s fuel
  have he := end7 f s fuel hf hs
  have k37 := c37 f s hf hs
  have k38 := c38 f s hf hs
  have k39 := c39 f s fuel hf hs
  have k40 := t40 s (smallS_loc hs)
  have k41 := t41 f (sF f s hf hs)
  have j40 := t40 (ansV f s fuel).1 (smallS_loc hw)
  obtain ⟨r, L, k42, r0, r1⟩ := t42 f hf
  have k43 := t43 s r ⟨r0, r1⟩ (smallS_loc hs)
  have j43 := t43 (ansV f s fuel).1 1 ⟨by omega, by omega⟩ (smallS_loc hw)
  have j44 := t44 1 _ _ _ ⟨by omega, by omega⟩ hw.1 hw.2.1 hw.2.2
  unfold ansT at k39
  generalize ansV f s fuel = w at *
  have s0 : ∀ (m : Int), S cx 7 (NG7_0_s0 fuel (w.1.loc.map i64) (w.1.mem.map i64) (w.1.told.map i64) w.2.1 w.2.2.1 w.2.2.2 (1 + w.1.loc.length + w.1.mem.length + w.1.told.length) ((marksV 1 w.1.loc.length).map i64) ((marksV (1 + w.1.loc.length) w.1.mem.length).map i64) ((marksV (1 + w.1.loc.length + w.1.mem.length) w.1.told.length).map i64) (f.map (eB false)) (s.loc.map i64) (s.mem.map i64) (s.told.map i64)) = some ([tb true], []) := fun m => by
    rw [NG7_0_s0, C39_S k39]; exact he
  refine eG7_0 ?_
  rw [NG7_0, C37_S k37, C38_S k38, C39_S k39, C40_S j40]
  refine bif_neg rfl (bif_neg (by simp) (bif_neg (by simp) (bif_neg (by simp) ?_)))
  rw [C37_S k37, C41_S k41]
  refine bif_neg rfl ?_
  have s4 : S cx 7 (NG7_0_s4 (f.map (eB true)) fuel (s.loc.map i64) (s.mem.map i64) (s.told.map i64) (w.1.loc.map i64) (w.1.mem.map i64) (w.1.told.map i64) w.2.1 w.2.2.1 w.2.2.2 (f.map (eB false)) (s.loc.map i64) (s.mem.map i64) (s.told.map i64) (w.1.loc.map i64) (w.1.mem.map i64) (w.1.told.map i64) w.2.1 w.2.2.1 w.2.2.2) = some ([tb true], []) := by
    have a3 : S cx 7 (NG7_0_s3 (f.map (eB true)) fuel (s.loc.map i64) (s.mem.map i64) (s.told.map i64) (w.1.loc.map i64) (w.1.mem.map i64) (w.1.told.map i64) w.2.1 w.2.2.1 w.2.2.2 (1 + w.1.loc.length + w.1.mem.length + w.1.told.length) ((marksV 1 w.1.loc.length).map i64) ((marksV (1 + w.1.loc.length) w.1.mem.length).map i64) ((marksV (1 + w.1.loc.length + w.1.mem.length) w.1.told.length).map i64)) = some ([tb true], []) := by
      rw [NG7_0_s3, C37_S k37, NG7_0_s1, C38_S k38]
      exact s0 0
    have a2 : S cx 7 (NG7_0_s2 (f.map (eB true)) fuel (s.loc.map i64) (s.mem.map i64) (s.told.map i64) (w.1.loc.map i64) (w.1.mem.map i64) (w.1.told.map i64) w.2.1 w.2.2.1 w.2.2.2 (1 + w.1.loc.length + w.1.mem.length + w.1.told.length) ((marksV 1 w.1.loc.length).map i64) ((marksV (1 + w.1.loc.length) w.1.mem.length).map i64) ((marksV (1 + w.1.loc.length + w.1.mem.length) w.1.told.length).map i64)) = some ([tb true], []) := by
      rw [NG7_0_s2, C37_S k37]
      refine S_amb2 ?_ ?_
      · rw [C38_S k38]
        exact S_amb2 (s0 0) (s0 0)
      · rw [NG7_0_s1, C38_S k38]
        exact s0 0
    rw [NG7_0_s4, C38_S k38, C40_S k40]
    refine bif_neg rfl ?_
    rw [C42_S k42, C43_S k43]
    refine bif_neg (dF (by omega)) ?_
    rw [C40_S j40]
    refine bif_neg rfl (bif_neg (by simp) (bif_neg (by simp) (bif_neg (by simp) ?_)))
    rw [C43_S j43, C44_S j44]
    refine bif_neg (dF (by omega)) (bif_neg (by simp) ?_)
    exact S_amb3 a2 (S_amb2 a2 a3) (S_amb2 a3 a3)
  exact S_amb2 s4 s4
end
theorem t7 (f : List Bk) (s : Sx) (fuel : Int) (h1 : f.length ≤ 9223372036854775807) (h2 : ∀ b ∈ f, b.code.length ≤ 9223372036854775807 ∧ b.next.length ≤ 9223372036854775807)
    (h3 : s.loc.length ≤ 9223372036854775807 ∧ s.mem.length ≤ 9223372036854775807 ∧ s.told.length ≤ 9223372036854775807) :
    tw cx 7 [rB true true f, eS true s, i64 fuel] = some ([tb true], []) := by
  refine e7 ?_
  obtain ⟨v, k34, v0, v1⟩ := t34 f h1 h2
  rw [N7, C34_S k34]
  by_cases c : v < 0
  · exact bif_pos (dT c) rfl
  · refine bif_neg (dF c) ?_
    obtain ⟨u, k35, u1⟩ := t35 s v h3.1 h3.2.1 h3.2.2 ⟨by omega, v0⟩
    rw [C35_S k35]
    by_cases d : u < 0
    · exact bif_pos (dT d) rfl
    · refine bif_neg (dF d) ?_
      have hf := v1 (by omega)
      have hs := u1 (by omega)
      have k37 := c37 f s hf hs
      have k38 := c38 f s hf hs
      have k36 := c36 f s fuel hf hs
      have hm := mid7 f s fuel hf hs
      unfold ansT at k36
      have a0 : S cx 7 (N7_s0 (f.map (eB true)) (s.loc.map i64) (s.mem.map i64) (s.told.map i64) fuel (f.map (eB false)) (s.loc.map i64) (s.mem.map i64) (s.told.map i64)) = some ([tb true], []) := by
        rw [N7_s0, C36_S k36]; exact hm
      have a1 : S cx 7 (N7_s1 (f.map (eB true)) (s.loc.map i64) (s.mem.map i64) (s.told.map i64) fuel (f.map (eB false))) = some ([tb true], []) := by
        rw [N7_s1, C38_S k38]; exact a0
      have a2 : S cx 7 (N7_s2 (f.map (eB true)) (s.loc.map i64) (s.mem.map i64) (s.told.map i64) fuel) = some ([tb true], []) := by
        rw [N7_s2, C37_S k37]
        refine S_amb2 ?_ a1
        rw [C38_S k38]
        exact S_amb2 a0 a0
      have a3 : S cx 7 (N7_s3 (f.map (eB true)) (s.loc.map i64) (s.mem.map i64) (s.told.map i64) fuel) = some ([tb true], []) := by
        rw [N7_s3, C37_S k37]; exact a1
      exact S_amb3 a2 (S_amb2 a2 a3) (S_amb2 a3 a3)
end Go.Tree.Q

/- The law FnExactRunFlow: what is given is kept. -/
namespace Go.Tree.Q
open Go.Proofs
set_option linter.unusedVariables false
set_option linter.unusedSimpArgs false
theorem row_inv [Pol] {T : LT} {xs : List TV} (e : er T = .sl false ⟨1, false⟩ () xs) : ∃ h X, T = .sl false ⟨1, false⟩ h X ∧ xs = X.map er := er_sl_inv e
theorem givenOk : GivenOk cx := by
  intro f g hg Ts w r hr hm hnd hss hwm
  letI : Pol := cx.pol 43
  have hf : f = 43 := by
    by_cases c : f = 43
    · exact c
    · exfalso
      have : Nat.beq f 43 = false := by
        cases h : Nat.beq f 43 with
        | false => rfl
        | true => exact absurd (Nat.eq_of_beq_eq_true h) c
      have h2 : (bif Nat.beq f 43 then some g43 else none) = some g := hg
      rw [this] at h2; cases h2
  subst hf
  have hg : g43 = g := by injection (show some g43 = some g from hg)
  subst hg
  unfold g43 at hr
  split at hr
  · rename_i xs ys zs k e
    split at hr
    · rename_i hc
      obtain ⟨T, rest, rfl, hT, e⟩ := List.map_eq_cons_iff.1 e
      obtain ⟨K, e0, rfl, hK, e⟩ := List.map_eq_cons_iff.1 e
      have e := List.map_eq_nil_iff.1 e
      subst e
      have := er_fl_inv hK
      subst this
      obtain ⟨us, rfl, hu⟩ := er_st_inv hT
      obtain ⟨A, us1, rfl, hA, hu⟩ := List.map_eq_cons_iff.1 hu.symm
      obtain ⟨B, us2, rfl, hB, hu⟩ := List.map_eq_cons_iff.1 hu
      obtain ⟨C, us3, rfl, hC, hu⟩ := List.map_eq_cons_iff.1 hu
      have hu := List.map_eq_nil_iff.1 hu
      subst hu
      obtain ⟨h1, X1, rfl, rfl⟩ := row_inv hA
      obtain ⟨h2, X2, rfl, rfl⟩ := row_inv hB
      obtain ⟨h3, X3, rfl, rfl⟩ := row_inv hC
      simp only [List.length_map] at hc
      obtain ⟨k0, k1, l1, l2, l3⟩ := hc
      have m1 := hm.1.1
      have m2 := hm.1.2.1
      have m3 := hm.1.2.2.1
      have fl : ∀ {h : Value} {X : List LT} {w : World}, Mem w (.sl false ⟨1, false⟩ h X) → allL X = [] := fun hm => G.flat fun x hx => (hm.2.1 x hx).2 rfl
      have ow : ∀ {Y1 Y2 Y3 : List LT}, allL Y1 = [] → allL Y2 = [] → allL Y3 = [] → ownL [(.st [.sl false ⟨1, false⟩ h1 Y1, .sl false ⟨1, false⟩ h2 Y2, .sl false ⟨1, false⟩ h3 Y3] : LT)] = blk h1 ++ (blk h2 ++ blk h3) := fun a b c => by
        simp [ownL, own, G.flat_own a, G.flat_own b, G.flat_own c]
      have sh : ∀ {Y1 Y2 Y3 : List LT}, allL Y1 = [] → allL Y2 = [] → allL Y3 = [] → shrL [(.st [.sl false ⟨1, false⟩ h1 Y1, .sl false ⟨1, false⟩ h2 Y2, .sl false ⟨1, false⟩ h3 Y3] : LT)] = [] := fun a b c => by
        simp [shrL, shr, G.flat_shr a, G.flat_shr b, G.flat_shr c]
      have ot : ownL [(.st [.sl false ⟨1, false⟩ h1 X1, .sl false ⟨1, false⟩ h2 X2, .sl false ⟨1, false⟩ h3 X3] : LT), .fl (.int .i64 k)] = blk h1 ++ (blk h2 ++ blk h3) := by
        rw [← ow (fl m1) (fl m2) (fl m3)]; simp [ownL, own]
      rw [ot] at hnd
      obtain ⟨n1, n2, n3⟩ := List.nodup_append.1 hnd
      obtain ⟨n4, n5, n6⟩ := List.nodup_append.1 n2
      refine (G.calls43 h1 h2 h3 X1 X2 X3 k w ⟨k0, k1⟩ l1 l2 l3 m1 m2 m3 (fun b hb hb' => n3 b hb b (List.mem_append.2 (.inl hb')) rfl) (fun b hb hb' => n3 b hb b (List.mem_append.2 (.inr hb')) rfl) (fun b hb hb' => n6 b hb b hb' rfl)).mono ?_
      rintro e w' ⟨rfl, Y1, Y2, Y3, y1, y2, y3, o1, o2, o3, fr⟩
      have hr := Option.some.inj hr
      subst hr
      refine ⟨[.fl (.int .i64 (k + X1.length + X2.length + X3.length))], [.st [.sl false ⟨1, false⟩ h1 Y1, .sl false ⟨1, false⟩ h2 Y2, .sl false ⟨1, false⟩ h3 Y3]], ?_, ?_, rfl, ⟨rfl, ⟨o1, o2, o3, trivial⟩, trivial⟩, ?_, ?_, ?_, ?_, ?_, ?_⟩
      · simp [er_fl]
      · simp only [List.map_cons, List.map_nil, er_st, er_sl, y1, y2, y3, List.length_map]
        rfl
      · show (ownL [(.fl _ : LT), _]).Nodup
        rw [show ∀ (v : Value) (t : LT), ownL [.fl v, t] = ownL [t] from fun v t => by simp [ownL, own], ow (fl o1) (fl o2) (fl o3)]
        exact hnd
      · show ∀ b ∈ shrL [(.fl _ : LT), _], _
        rw [show ∀ (v : Value) (t : LT), shrL [.fl v, t] = shrL [t] from fun v t => by simp [shrL, shr], sh (fl o1) (fl o2) (fl o3)]
        intro b hb; cases hb
      · show ∀ b ∈ ownL [(.fl _ : LT), _], _
        rw [show ∀ (v : Value) (t : LT), ownL [.fl v, t] = ownL [t] from fun v t => by simp [ownL, own], ow (fl o1) (fl o2) (fl o3), ot]
        exact fun b hb => .inl hb
      · show ∀ b ∈ shrL [(.fl _ : LT), _], _
        rw [show ∀ (v : Value) (t : LT), shrL [.fl v, t] = shrL [t] from fun v t => by simp [shrL, shr], sh (fl o1) (fl o2) (fl o3)]
        intro b hb; cases hb
      · rw [ot, ← List.append_assoc]; exact fr
      · exact .inl ⟨rfl, rfl, _, [], rfl, rfl, .inr ⟨.inl rfl, rfl⟩⟩
    · cases hr
  · cases hr
theorem ok : CallsOk cx.P cx.sig (tw cx) := tw_calls (tcall_ok givenOk G.noNG' G.mixed)
end Go.Tree.Q

/- The law FnExactRunFlow: what it is handed. -/
namespace Go.Tree.Q
open Go.Proofs
set_option linter.unusedVariables false
set_option linter.unusedSimpArgs false
section
variable {H : Type} {enc : TypeId × Value → H} {W : World}
theorem o_int : OpensT enc Try.prog W 3 fun T => ∃ n : Int, er T = i64 n ∧ True := (opensT_int Try.underlying3).imp fun T ⟨n, h, _⟩ => ⟨n, h, trivial⟩
theorem o_ints : OpensT enc Try.prog W 23 fun T => ∃ l : List Int, er T = rI true l ∧ l.length ≤ 9223372036854775807 ∧ ∀ a ∈ l, True :=
  opensT_rowOf (k := ⟨1, false⟩) Try.underlying23 (by kernel_rfl) (by decide) o_int (fun _ _ => rfl)
set_option maxRecDepth 20000 in
theorem o_F : OpensT enc Try.prog W 80 fun T => ∃ x : F, er T = eF x ∧ True :=
  (opensT_struct Try.underlying80 (Qs := [_, _, _, _, _, _]) ⟨rfl, _, _, rfl, o_int, by kernel_rfl, _, _, rfl, o_int, by kernel_rfl, _, _, rfl, o_int, by kernel_rfl, _, _, rfl, o_int, by kernel_rfl, _, _, rfl, o_int, by kernel_rfl, _, _, rfl, o_int, rfl, of_decide_eq_true (by kernel_rfl)⟩).imp
    fun T ⟨Ts, hT, T0, _, e0, ⟨a0, q0, _⟩, T1, _, e1, ⟨a1, q1, _⟩, T2, _, e2, ⟨a2, q2, _⟩, T3, _, e3, ⟨a3, q3, _⟩, T4, _, e4, ⟨a4, q4, _⟩, T5, _, e5, ⟨a5, q5, _⟩, e6⟩ => by
      subst e6; subst e5; subst e4; subst e3; subst e2; subst e1; subst e0; subst hT
      exact ⟨⟨a0, a1, a2, a3, a4, a5⟩, by rw [er_st]; simp only [List.map_cons, List.map_nil, q0, q1, q2, q3, q4, q5], trivial⟩
theorem o_rF : OpensT enc Try.prog W 22 fun T => ∃ l : List F, er T = rF true l ∧ l.length ≤ 9223372036854775807 ∧ ∀ a ∈ l, True :=
  opensT_rowOf (k := ⟨6, false⟩) Try.underlying22 (by kernel_rfl) (by decide) o_F (fun _ _ => rfl)
set_option maxRecDepth 20000 in
theorem o_B : OpensT enc Try.prog W 103 fun T => ∃ b : Bk, er T = eB true b ∧ (b.code.length ≤ 9223372036854775807 ∧ b.next.length ≤ 9223372036854775807) :=
  (opensT_struct Try.underlying103 (Qs := [_, _, _, _]) ⟨rfl, _, _, rfl, o_rF, by kernel_rfl, _, _, rfl, o_int, by kernel_rfl, _, _, rfl, o_int, by kernel_rfl, _, _, rfl, o_ints, rfl, of_decide_eq_true (by kernel_rfl)⟩).imp
    fun T ⟨Ts, hT, T0, _, e0, ⟨a0, q0, l0, _⟩, T1, _, e1, ⟨a1, q1, _⟩, T2, _, e2, ⟨a2, q2, _⟩, T3, _, e3, ⟨a3, q3, l3, _⟩, e4⟩ => by
      subst e4; subst e3; subst e2; subst e1; subst e0; subst hT
      exact ⟨⟨a0, a1, a2, a3⟩, by rw [er_st]; simp only [List.map_cons, List.map_nil, q0, q1, q2, q3], l0, l3⟩
theorem o_rB : OpensT enc Try.prog W 46 fun T => ∃ l : List Bk, er T = rB true true l ∧ l.length ≤ 9223372036854775807 ∧ ∀ b ∈ l, b.code.length ≤ 9223372036854775807 ∧ b.next.length ≤ 9223372036854775807 :=
  opensT_rowOf (k := ⟨4, true⟩) Try.underlying46 (by kernel_rfl) (by decide) o_B (fun h => by cases h)
set_option maxRecDepth 20000 in
theorem o_S : OpensT enc Try.prog W 48 fun T => ∃ s : Sx, er T = eS true s ∧ (s.loc.length ≤ 9223372036854775807 ∧ s.mem.length ≤ 9223372036854775807 ∧ s.told.length ≤ 9223372036854775807) :=
  (opensT_struct Try.underlying48 (Qs := [_, _, _]) ⟨rfl, _, _, rfl, o_ints, by kernel_rfl, _, _, rfl, o_ints, by kernel_rfl, _, _, rfl, o_ints, rfl, of_decide_eq_true (by kernel_rfl)⟩).imp
    fun T ⟨Ts, hT, T0, _, e0, ⟨a0, q0, l0, _⟩, T1, _, e1, ⟨a1, q1, l1, _⟩, T2, _, e2, ⟨a2, q2, l2, _⟩, e3⟩ => by
      subst e3; subst e2; subst e1; subst e0; subst hT
      exact ⟨⟨a0, a1, a2⟩, by rw [er_st]; simp only [List.map_cons, List.map_nil, q0, q1, q2], l0, l1, l2⟩
end
/-- What the law computes. -/
theorem told {W : World} {T0 T1 T2 : LT} {f : List Bk} {s : Sx} {n : Int} (m0 : Mem W T0) (m1 : Mem W T1) (m2 : Mem W T2) (w0 : Tree.own T0 = []) (w1 : Tree.own T1 = []) (w2 : Tree.own T2 = []) (e0 : er T0 = rB true true f) (e1 : er T1 = eS true s) (e2 : er T2 = i64 n)
    (h1 : f.length ≤ 9223372036854775807) (h2 : ∀ b ∈ f, b.code.length ≤ 9223372036854775807 ∧ b.next.length ≤ 9223372036854775807)
    (h3 : s.loc.length ≤ 9223372036854775807 ∧ s.mem.length ≤ 9223372036854775807 ∧ s.told.length ≤ 9223372036854775807) :
    Calls Try.prog 7 #[valOf T0, valOf T1, valOf T2] W fun e w' => e = .returned (.bool true) ∧ Go.RowKit.Below W.heap.size W w' :=
  calls_ro (cx := cx) ok (f := 7) rfl (Ts := [T0, T1, T2]) (v := .bool true) (fun T hT => by
      simp only [List.mem_cons, List.not_mem_nil, or_false] at hT
      rcases hT with rfl | rfl | rfl <;> assumption)
    (fun T hT => by
      simp only [List.mem_cons, List.not_mem_nil, or_false] at hT
      rcases hT with rfl | rfl | rfl <;> assumption)
    (by rw [List.map_cons, List.map_cons, List.map_cons, List.map_nil, e0, e1, e2]; exact t7 f s n h1 h2 h3)
end Go.Tree.Q
