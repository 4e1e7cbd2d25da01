/- The machine: what these points come to: valid code. Conditions: none. -/
import Derived.Test.YtipikejhchpfnaaMt3
import Derived.Test.YtipikejhchpfnaaMm1
import Derived.Test.YtipikejhchpfnaaMm2
/- Values told natively; what both programs share. -/
namespace Go.Tree.M
open Go.Proofs
set_option linter.unusedVariables false
set_option linter.unusedSimpArgs false
theorem back_of {f : FuncId} {p : List Nat} {e : Env} {X : Option Res} (h : S cx f (.head p e) = X) : S cx f (.back p e) = X := h
theorem w64_id {x : Int} (h0 : -9223372036854775808 ≤ x) (h1 : x < 9223372036854775808) : w64 x = x := by
  show IntKind.i64.wrap x = x
  rw [IntKind.wrap_i64]; omega
theorem dT {p : Prop} [Decidable p] (h : p) : decide p = true := decide_eq_true h
theorem dF {p : Prop} [Decidable p] (h : ¬p) : decide p = false := decide_eq_false h
theorem dT2 {p q : Prop} [Decidable p] [Decidable q] (h : p ∧ q) : (decide p && decide q) = true := by simp [h]
theorem zN {j : Nat} : (0 + ((j : Nat) : Int).toNat) = j := by omega
abbrev rI (q : Bool) (xs : List Int) : TV := sl q ⟨1, false⟩ (xs.map i64)
/-- A step. -/
structure W where
  op : Int
  n : Int
  tb : List Int
  deriving DecidableEq, Inhabited
abbrev eW (q : Bool) (x : W) : TV := .st [i64 x.op, i64 x.n, rI q x.tb]
abbrev rW (q q' : Bool) (xs : List W) : TV := sl q ⟨3, true⟩ (xs.map (eW q'))
/-- A state. -/
structure Sx where
  loc : List Int
  mem : List Int
  told : List Int
  deriving DecidableEq, Inhabited
abbrev eS (q : Bool) (x : Sx) : TV := .st [rI q x.loc, rI q x.mem, rI q x.told]
theorem copy_loop {H : List TV → Int → Option Res} {l : List TV} {fin : List TV → Res} (z : TV)
    (hr : ∀ (j : Nat) (x : TV) (out : List TV), l[j]? = some x → out.length = l.length → H (out.set j x) ((j + 1 : Nat) : Int) = some (fin l) → H out (j : Int) = some (fin l))
    (he : H l (l.length : Int) = some (fin l)) : H (List.replicate l.length z) 0 = some (fin l) := by
  have key : ∀ d j : Nat, l.length - j = d → j ≤ l.length → H (l.take j ++ List.replicate (l.length - j) z) (j : Int) = some (fin l) := by
    intro d
    induction d with
    | zero =>
      intro j hd hj
      have : j = l.length := by omega
      subst this
      simpa using he
    | succ d ih =>
      intro j hd hj
      obtain ⟨x, hx⟩ := at_some (show j < l.length by omega)
      refine hr j x _ hx (by simp; omega) ?_
      have e : (l.take j ++ List.replicate (l.length - j) z).set j x = l.take (j + 1) ++ List.replicate (l.length - (j + 1)) z := by
        have h1 : (l.take j).length = j := by simp; omega
        rw [List.set_append_right _ _ (by omega), h1, Nat.sub_self, show l.length - j = (l.length - (j + 1)) + 1 by omega, List.replicate_succ, List.set_cons_zero, List.take_add_one, hx]
        simp
      rw [e]
      exact ih (j + 1) (by omega) (by omega)
  simpa using key l.length 0 (by omega) (by omega)
theorem inc64 {j : Nat} {n : Nat} (h : j < n) (hn : n ≤ 1073741824) : w64 ((j : Int) + 1) = ((j + 1 : Nat) : Int) := by
  rw [w64_id (by omega) (by omega)]; omega
theorem lt_of_at {β : Type} {l : List β} {j : Nat} {x : β} (h : l[j]? = some x) : j < l.length := (List.getElem?_eq_some_iff.1 h).1
theorem map_at {β : Type} {e : β → TV} {xs : List β} {j : Nat} {t : TV} (h : (xs.map e)[j]? = some t) : ∃ x, xs[j]? = some x ∧ t = e x := by
  rw [List.getElem?_map] at h
  obtain ⟨x, h1, h2⟩ := Option.map_eq_some_iff.1 h
  exact ⟨x, h1, h2.symm⟩
theorem mk_ok {n : Nat} {B : Int} (h : (n : Int) * B < 140737488355328) (hn : n ≤ 1073741824) : (decide ((0 : Int) ≤ (n : Int)) && decide ((n : Int) ≤ (n : Int)) && decide ((n : Int) * B < (lim : Int)) && decide ((n : Int) < 9223372036854775807) && true && true) = true := by
  have hl : (lim : Int) = 140737488355328 := rfl
  rw [hl, dT h, dT (show (0 : Int) ≤ n by omega), dT (Int.le_refl _), dT (show (n : Int) < 9223372036854775807 by omega)]
  rfl
theorem t17 (xs : List Int) (q : Bool) (hl : xs.length ≤ 1073741824) : tw cx 17 [rI true xs] = some ([rI false xs], []) := by
  refine e17 (ck_pos ?_ ?_)
  · exact mk_ok (by rw [List.length_map]; omega) (by rw [List.length_map]; omega)
  · rw [show (((xs.map i64).length : Nat) : Int).toNat = (xs.map i64).length by omega]
    refine copy_loop (H := fun out i => S cx 17 (H17_0 (xs.map i64) out i)) (fin := fun l => ([sl false ⟨1, false⟩ l], [])) _ (fun j t out hx hout h => ?_) ?_
    · obtain ⟨x, hx', rfl⟩ := map_at hx
      have hj := lt_of_at hx
      have hj' : j < xs.length := by simpa using hj
      refine eH17_0 (bif_pos (dT (by omega)) (ck_pos (dT2 (by omega)) ?_))
      rw [zN, getD_map' hx', S_int]
      refine ck_pos (dT2 (by omega)) (back_of ?_)
      rw [inc64 hj' hl]
      exact h
    · exact eH17_0 (bif_neg (dF (by omega)) rfl)
theorem t38 (x : Sx) (h0 : x.loc.length ≤ 1073741824) (h1 : x.mem.length ≤ 1073741824) (h2 : x.told.length ≤ 1073741824) : tw cx 38 [eS true x] = some ([eS false x], []) := by
  refine e38 ?_
  rw [N38, C17_S (t17 x.loc true h0), C17_S (t17 x.mem true h1), C17_S (t17 x.told true h2), S_ret]
theorem leaf {b : Bool} {p : Prop} [Decidable p] (h : b = true ↔ p) : (some ([tb b], []) : Option Res) = some ([tb (decide p)], []) := by
  have : b = decide p := by
    cases b with
    | true => exact (decide_eq_true (h.1 rfl)).symm
    | false => exact (decide_eq_false (fun hp => by cases h.2 hp)).symm
  rw [this]
theorem t112 (n lo hi : Int) : tw cx 112 [i64 n, i64 lo, i64 hi] = some ([tb (decide (lo ≤ n ∧ n ≤ hi))], []) := by
  refine e112 ?_
  simp only [N112, S_bif, S_ret, decide_eq_true_eq]
  split <;> exact leaf (by simp <;> omega)
theorem t65 (n lo hi : Int) : tw cx 65 [i64 n, i64 lo, i64 hi] = some ([tb (decide (lo ≤ n ∧ n ≤ hi))], []) := by
  refine e65 ?_
  simp only [N65, S_bif, S_ret, decide_eq_true_eq]
  split <;> exact leaf (by simp <;> omega)
theorem t87 (n : Int) : tw cx 87 [i64 n] = some ([tb (decide (0 ≤ n ∧ n ≤ 2000))], []) := by
  refine e87 ?_
  rw [N87, C112_S (t112 ..), S_ret]
theorem t159 (n : Int) : tw cx 159 [i64 n] = some ([tb (decide (0 ≤ n ∧ n ≤ 65535))], []) := by
  refine e159 ?_
  rw [N159, C65_S (t65 ..), S_ret]
theorem all_list {β : Type} {xs : List β} {q : β → Bool} {H : Int → Option Res} {yes : Bool → Option Res} {no : Res}
    (hr : ∀ (j : Nat) (x : β), xs[j]? = some x → (q x = true → ∀ r, H ((j + 1 : Nat) : Int) = some r → H (j : Int) = some r) ∧ (q x = false → H (j : Int) = some no))
    {e : Res} (he : H (xs.length : Int) = some e) : H 0 = some (if xs.all q = true then e else no) := by
  have key : ∀ d j : Nat, xs.length - j = d → j ≤ xs.length → H (j : Int) = some (if (xs.drop j).all q = true then e else no) := by
    intro d
    induction d with
    | zero =>
      intro j hd hj
      have : j = xs.length := by omega
      subst this
      simpa using he
    | succ d ih =>
      intro j hd hj
      obtain ⟨x, hx⟩ := at_some (show j < xs.length by omega)
      obtain ⟨h1, h2⟩ := hr j x hx
      have e1 : xs.drop j = x :: xs.drop (j + 1) := by
        have hlt : j < xs.length := by omega
        rw [List.drop_eq_getElem_cons hlt]
        rw [List.getElem?_eq_getElem hlt] at hx
        rw [Option.some.inj hx]
      rw [e1, List.all_cons]
      cases hq : q x with
      | true => rw [Bool.true_and]; exact h1 hq _ (ih (j + 1) (by omega) (by omega))
      | false => rw [Bool.false_and]; exact h2 hq
  simpa using key xs.length 0 (by omega) (by omega)
theorem find_list {β : Type} {xs : List β} {q : β → Bool} {H : Int → Option Res}
    (hr : ∀ (j : Nat) (x : β), xs[j]? = some x → (q x = true → H (j : Int) = some ([i64 j], [])) ∧ (q x = false → ∀ r, H ((j + 1 : Nat) : Int) = some r → H (j : Int) = some r))
    (he : H (xs.length : Int) = some ([i64 (-1)], [])) : ∃ r : Int, H 0 = some ([i64 r], []) ∧ decide (r ≥ 0) = xs.any q := by
  have key : ∀ d j : Nat, xs.length - j = d → j ≤ xs.length → ∃ r : Int, H (j : Int) = some ([i64 r], []) ∧ decide (r ≥ 0) = (xs.drop j).any q := by
    intro d
    induction d with
    | zero =>
      intro j hd hj
      have : j = xs.length := by omega
      subst this
      exact ⟨-1, he, by simp⟩
    | succ d ih =>
      intro j hd hj
      obtain ⟨x, hx⟩ := at_some (show j < xs.length by omega)
      obtain ⟨h1, h2⟩ := hr j x hx
      have e1 : xs.drop j = x :: xs.drop (j + 1) := by
        have hlt : j < xs.length := by omega
        rw [List.drop_eq_getElem_cons hlt]
        rw [List.getElem?_eq_getElem hlt] at hx
        rw [Option.some.inj hx]
      rw [e1, List.any_cons]
      cases hq : q x with
      | true => exact ⟨j, h1 hq, by simp⟩
      | false =>
        obtain ⟨r, h3, h4⟩ := ih (j + 1) (by omega) (by omega)
        exact ⟨r, h2 hq _ h3, by rw [h4]; simp⟩
  simpa using key xs.length 0 (by omega) (by omega)
abbrev big : Nat := 1073741824
theorem getD_at {β : Type} {e : β → TV} {xs : List β} {j : Nat} {x : β} (h : xs[j]? = some x) : (xs.map e).getD (0 + ((j : Nat) : Int).toNat) (.dead ()) = e x := by
  rw [zN]; exact getD_map' h
theorem not_any {β : Type} {xs : List β} {p : β → Prop} [DecidablePred p] : (!xs.any fun x => !decide (p x)) = decide (∀ x ∈ xs, p x) := by
  induction xs with
  | nil => simp
  | cons x xs ih =>
    rw [List.any_cons, Bool.not_or, Bool.not_not, ih]
    simp
theorem all_dec {β : Type} {xs : List β} {p : β → Prop} [DecidablePred p] : xs.all (fun x => decide (p x)) = decide (∀ x ∈ xs, p x) := by
  induction xs with
  | nil => simp
  | cons x xs ih => rw [List.all_cons, ih]; simp
def wordP (n : Int) : Prop := 0 ≤ n ∧ n ≤ 65535
instance (n : Int) : Decidable (wordP n) := by unfold wordP; infer_instance
theorem t158 (n : Int) : tw cx 158 [i64 n] = some ([tb (!decide (wordP n))], []) := by
  refine e158 ?_
  rw [N158, C159_S (t159 n), S_ret]; rfl
theorem t184 (xs : List Int) (hl : xs.length ≤ big) : ∃ r : Int, tw cx 184 [rI true xs, .cl 158 []] = some ([i64 r], []) ∧ decide (r ≥ 0) = xs.any fun x => !decide (wordP x) := by
  obtain ⟨r, h1, h2⟩ := find_list (xs := xs) (q := fun x => !decide (wordP x)) (H := fun i => S cx 184 (H184_0 (xs.map i64) i)) (fun j x hx => by
    have hj := lt_of_at hx
    have e1 : (xs.map i64).length = xs.length := List.length_map _
    have hb : xs.length ≤ 1073741824 := hl
    refine ⟨fun hq => ?_, fun hq r h => ?_⟩
    · refine eH184_0 (bif_pos (dT (by omega)) (ck_pos (dT2 (by omega)) ?_))
      rw [getD_at hx, S_int, C158_S (t158 x)]
      exact bif_pos hq rfl
    · refine eH184_0 (bif_pos (dT (by omega)) (ck_pos (dT2 (by omega)) ?_))
      rw [getD_at hx, S_int, C158_S (t158 x)]
      refine bif_neg hq (back_of ?_)
      rw [inc64 hj hb]
      exact h) (eH184_0 (bif_neg (dF (by simp)) rfl))
  exact ⟨r, e184 h1, h2⟩
theorem t156w (xs : List Int) (hl : xs.length ≤ big) : tw cx 156 [rI true xs, .cl 158 []] = some ([tb (xs.any fun x => !decide (wordP x))], []) := by
  obtain ⟨r, h1, h2⟩ := t184 xs hl
  refine e156 ?_
  rw [N156, C184_S h1, S_ret, h2]
theorem t128 (xs : List Int) (hl : xs.length ≤ big) : tw cx 128 [rI true xs] = some ([tb (decide (∀ x ∈ xs, wordP x))], []) := by
  refine e128 ?_
  rw [N128, C156_S (t156w xs hl), S_ret, not_any]
theorem t122 (xs : List Int) (many : Int) (hl : xs.length ≤ big) : tw cx 122 [rI true xs, i64 many] = some ([tb (decide ((∀ x ∈ xs, wordP x) ∧ (xs.length : Int) = many))], []) := by
  refine e122 ?_
  have := all_list (xs := xs) (q := fun x => decide (wordP x)) (H := fun i => S cx 122 (H122_0 (xs.map i64) many i)) (yes := fun _ => none) (no := ([tb false], [])) (fun j x hx => by
    have hj := lt_of_at hx
    have e1 : (xs.map i64).length = xs.length := List.length_map _
    have hb : xs.length ≤ 1073741824 := hl
    refine ⟨fun hq r h => ?_, fun hq => ?_⟩
    · refine eH122_0 (bif_pos (dT (by omega)) (ck_pos (dT2 (by omega)) ?_))
      rw [getD_at hx, S_int, C112_S (t112 ..)]
      refine bif_neg (by rw [show decide (0 ≤ x ∧ x ≤ 65535) = true from hq]; rfl) (back_of ?_)
      rw [inc64 hj hb]
      exact h
    · refine eH122_0 (bif_pos (dT (by omega)) (ck_pos (dT2 (by omega)) ?_))
      rw [getD_at hx, S_int, C112_S (t112 ..)]
      exact bif_pos (by rw [show decide (0 ≤ x ∧ x ≤ 65535) = false from hq]; rfl) rfl) (eH122_0 (bif_neg (dF (by simp)) rfl))
  refine Eq.trans this ?_
  rw [all_dec]
  by_cases c : ∀ x ∈ xs, wordP x
  · rw [if_pos (by simpa using c)]; exact leaf (by rw [List.length_map, beq_iff_eq]; exact ⟨fun h => ⟨c, h⟩, fun h => h.2⟩)
  · rw [if_neg (by simpa using c)]; exact leaf (by simp only [Bool.false_eq_true, false_iff]; exact fun h => c h.1)
/-- A good state. -/
def stateP (s : Sx) : Prop := s.loc.length = 8 ∧ s.mem.length = 16 ∧ s.told.length ≤ 100 ∧ (∀ x ∈ s.loc, wordP x) ∧ (∀ x ∈ s.mem, wordP x) ∧ (∀ x ∈ s.told, wordP x)
instance (s : Sx) : Decidable (stateP s) := by unfold stateP; infer_instance
def smallS (s : Sx) : Prop := s.loc.length ≤ big ∧ s.mem.length ≤ big ∧ s.told.length ≤ big
theorem t86 (s : Sx) (h : smallS s) : tw cx 86 [eS true s] = some ([tb (decide (stateP s))], []) := by
  refine e86 ?_
  simp only [N86, C122_S (t122 _ _ h.1), C122_S (t122 _ _ h.2.1), List.length_map, C122_S (t122 _ _ h.2.2), S_bif, S_ret, decide_eq_true_eq]
  have e : ((s.told.length : Nat) : Int) ≤ 100 ↔ s.told.length ≤ 100 := by omega
  have e1 : ((s.loc.length : Nat) : Int) = 8 ↔ s.loc.length = 8 := by omega
  have e2 : ((s.mem.length : Nat) : Int) = 16 ↔ s.mem.length = 16 := by omega
  simp only [e, e1, e2]
  repeat' split
  all_goals exact leaf (by simp only [stateP, decide_eq_true_eq, Bool.false_eq_true, false_iff, true_iff, eq_self]; grind)
theorem t92 (s : Sx) (h : smallS s) : tw cx 92 [eS true s] = some ([tb (decide (stateP s))], []) := by
  refine e92 ?_
  simp only [N92, C128_S (t128 _ h.1), C128_S (t128 _ h.2.1), List.length_map, C128_S (t128 _ h.2.2), S_bif, S_ret, decide_eq_true_eq, beq_iff_eq]
  have e : ((s.told.length : Nat) : Int) ≤ 100 ↔ s.told.length ≤ 100 := by omega
  have e1 : ((s.loc.length : Nat) : Int) = 8 ↔ s.loc.length = 8 := by omega
  have e2 : ((s.mem.length : Nat) : Int) = 16 ↔ s.mem.length = 16 := by omega
  simp only [e, e1, e2]
  repeat' split
  all_goals exact leaf (by simp only [stateP, decide_eq_true_eq, Bool.false_eq_true, false_iff, true_iff, eq_self]; grind)
def bitV (p : Prop) [Decidable p] : Int := if p then 1 else 0
/-- A word's step: what comes of it, and whether it does. -/
def doV (op a b : Int) : Int × Bool :=
  if op = 4 then (w64 (((BitVec.ofInt 64 (w64 (a + b)) &&& BitVec.ofInt 64 65535).toNat : Int)), true)
  else if op = 5 then (w64 (((BitVec.ofInt 64 (w64 (a - b)) &&& BitVec.ofInt 64 65535).toNat : Int)), true)
  else if op = 6 then (w64 (((BitVec.ofInt 64 (w64 (a * b)) &&& BitVec.ofInt 64 65535).toNat : Int)), true)
  else if op = 7 then (if b = 0 then (0, false) else (w64 (a.tdiv b), true))
  else if op = 8 then (bitV (a < b), true)
  else (bitV (a = b), true)
theorem t183 (b : Bool) : tw cx 183 [tb b] = some ([i64 (bitV (b = true))], []) := by
  refine e183 ?_
  cases b <;> rfl
theorem t134 (b : Bool) : tw cx 134 [tb b] = some ([i64 (bitV (b = true))], []) := by
  refine e134 ?_
  cases b <;> rfl
theorem bitV_dec (p : Prop) [Decidable p] : bitV (decide p = true) = bitV p := by
  unfold bitV; by_cases h : p <;> simp [h]
theorem t153 (op a b : Int) : tw cx 153 [i64 op, i64 a, i64 b] = some ([i64 (doV op a b).1, tb (doV op a b).2], []) := by
  refine e153 ?_
  simp only [N153, C183_S (t183 _), S_bif, S_ret, S_ck, beq_iff_eq, doV, bitV_dec]
  have e : bitV ((a == b) = true) = bitV (a = b) := by unfold bitV; simp
  try simp only [e]
  repeat' split
  all_goals first | rfl | (rename_i h1 h2; simp only [Bool.not_eq_true', decide_eq_false_iff_not] at h2; exact absurd h1 h2) | skip
theorem t130 (op a b : Int) : tw cx 130 [i64 op, i64 a, i64 b] = some ([i64 (doV op a b).1, tb (doV op a b).2], []) := by
  refine e130 ?_
  simp only [N130, C134_S (t134 _), S_bif, S_ret, S_ck, beq_iff_eq, doV, bitV_dec]
  have e : bitV ((a == b) = true) = bitV (a = b) := by unfold bitV; simp
  try simp only [e]
  repeat' split
  all_goals first | rfl | (rename_i h1 h2; simp only [Bool.not_eq_true', decide_eq_false_iff_not] at h2; exact absurd h1 h2) | skip
theorem and_word (x : Int) : wordP (w64 (((BitVec.ofInt 64 x &&& BitVec.ofInt 64 65535).toNat : Int))) := by
  have h : (BitVec.ofInt 64 x &&& BitVec.ofInt 64 65535).toNat ≤ 65535 := by
    rw [BitVec.toNat_and]
    exact Nat.le_trans Nat.and_le_right (by decide)
  rw [w64_id (by omega) (by omega)]
  exact ⟨by omega, by omega⟩
theorem doV_word {op a b : Int} (ha : wordP a) (hb : wordP b) : wordP (doV op a b).1 := by
  obtain ⟨a0, a1⟩ := ha
  obtain ⟨b0, b1⟩ := hb
  have hbit : ∀ (p : Prop) [Decidable p], wordP (bitV p) := fun p _ => by unfold bitV wordP; split <;> omega
  unfold doV
  split
  · exact and_word _
  · split
    · exact and_word _
    · split
      · exact and_word _
      · split
        · split
          · exact ⟨by omega, by omega⟩
          · have h1 : 0 ≤ a.tdiv b := Int.tdiv_nonneg a0 b0
            have h2 : a.tdiv b ≤ a := by
              rw [Int.tdiv_eq_ediv_of_nonneg a0]
              exact Int.ediv_le_self b a0
            show wordP (w64 (a.tdiv b))
            rw [w64_id (by omega) (by omega)]
            exact ⟨h1, by omega⟩
        · split <;> exact hbit _
abbrev rdV (v : List Int) (i : Int) : Int := v.getD i.toNat 0
theorem rdV_word {v : List Int} {i : Int} (hv : ∀ x ∈ v, wordP x) : wordP (rdV v i) := by
  unfold rdV
  rw [List.getD_eq_getElem?_getD]
  cases h : v[i.toNat]? with
  | none => exact ⟨by simp, by simp⟩
  | some y => exact hv y (List.mem_of_getElem? h)
theorem set_word {v : List Int} {i : Nat} {n : Int} (hv : ∀ x ∈ v, wordP x) (hn : wordP n) : ∀ x ∈ v.set i n, wordP x := fun x hx => by
  rcases List.mem_or_eq_of_mem_set hx with h | h
  · exact hv x h
  · rw [h]; exact hn
theorem set_I {v : List Int} {i n : Int} : (v.map i64).set (0 + i.toNat) (i64 n) = (v.set i.toNat n).map i64 := by
  rw [Nat.zero_add, List.map_set]
theorem lim_ok {n : Nat} (h : n ≤ 1073741824) : decide ((0 + n) * 8 < lim) = true := by
  have hl : lim = 140737488355328 := rfl
  rw [hl]; exact dT (by omega)
theorem t129 (xs : List Int) (hl : xs.length ≤ big) : tw cx 129 [rI true xs] = some ([rI false xs], []) := by
  have h0 : decide ((0 + (xs.map i64).length) * 8 < lim) = true := lim_ok (by rw [List.length_map]; exact hl)
  refine e129 (S_isNil (fun h => S_amb2 ?_ (ck_pos h0 ?_)) (fun h => ck_pos h0 ?_))
  · rw [S_ret]; show _ = some ([sl false ⟨1, false⟩ (xs.map i64)], []); rw [h]
  · rw [S_ret, List.nil_append]
  · rw [S_ret, List.nil_append]

end Go.Tree.M

/- Steps: which may stand somewhere, how far out they go; rows of one value. -/
namespace Go.Tree.M
open Go.Proofs
set_option linter.unusedVariables false
set_option linter.unusedSimpArgs false
def depP (n : Int) : Prop := 0 ≤ n ∧ n ≤ 8
instance (n : Int) : Decidable (depP n) := by unfold depP; infer_instance
/-- A step that may stand somewhere. -/
def stepP (x : W) : Prop :=
  (x.op = 22 ∧ depP x.n ∧ (1 ≤ x.tb.length ∧ x.tb.length ≤ 4) ∧ ∀ k ∈ x.tb, depP k) ∨
    (x.op ≠ 22 ∧ x.tb.length = 0 ∧ ((x.op = 1 ∧ 0 ≤ x.n ∧ x.n ≤ 65535) ∨ ((x.op = 2 ∨ x.op = 3) ∧ 0 ≤ x.n ∧ x.n ≤ 7) ∨ ((x.op = 20 ∨ x.op = 21) ∧ depP x.n) ∨ ((4 ≤ x.op ∧ x.op ≤ 19) ∧ x.n = 0)))
instance (x : W) : Decidable (stepP x) := by unfold stepP; infer_instance
theorem t185 (n : Int) : tw cx 185 [i64 n] = some ([tb (decide (depP n))], []) := by
  refine e185 ?_
  rw [N185, C112_S (t112 ..), S_ret]; rfl
theorem t188 (n : Int) : tw cx 188 [i64 n] = some ([tb (decide (depP n))], []) := by
  refine e188 ?_
  rw [N188, C65_S (t65 ..), S_ret]; rfl
theorem t189 (n : Int) : tw cx 189 [i64 n] = some ([tb (!decide (depP n))], []) := by
  refine e189 ?_
  rw [N189, C188_S (t188 n), S_ret]
theorem t184b (xs : List Int) (hl : xs.length ≤ big) : ∃ r : Int, tw cx 184 [rI true xs, .cl 189 []] = some ([i64 r], []) ∧ decide (r ≥ 0) = xs.any fun x => !decide (depP x) := by
  obtain ⟨r, h1, h2⟩ := find_list (xs := xs) (q := fun x => !decide (depP x)) (H := fun i => S cx 184 (H184_b_0 (xs.map i64) i)) (fun j x hx => by
    have hj := lt_of_at hx
    have e1 : (xs.map i64).length = xs.length := List.length_map _
    have hb : xs.length ≤ 1073741824 := hl
    refine ⟨fun hq => ?_, fun hq r h => ?_⟩
    · refine eH184_b_0 (bif_pos (dT (by omega)) (ck_pos (dT2 (by omega)) ?_))
      rw [getD_at hx, S_int, C189_S (t189 x)]
      exact bif_pos hq rfl
    · refine eH184_b_0 (bif_pos (dT (by omega)) (ck_pos (dT2 (by omega)) ?_))
      rw [getD_at hx, S_int, C189_S (t189 x)]
      refine bif_neg hq (back_of ?_)
      rw [inc64 hj hb]
      exact h) (eH184_b_0 (bif_neg (dF (by simp)) rfl))
  exact ⟨r, e184b h1, h2⟩
theorem t156b (xs : List Int) (hl : xs.length ≤ big) : tw cx 156 [rI true xs, .cl 189 []] = some ([tb (xs.any fun x => !decide (depP x))], []) := by
  obtain ⟨r, h1, h2⟩ := t184b xs hl
  refine e156b ?_
  rw [N156b, C184_1_S h1, S_ret, h2]
set_option maxHeartbeats 1000000 in
theorem t168 (x : W) (hl : x.tb.length ≤ big) : tw cx 168 [eW true x] = some ([tb (decide (stepP x))], []) := by
  obtain ⟨op, n, tbl⟩ := x
  have hl : tbl.length ≤ 1073741824 := hl
  refine e168 ?_
  have f0 : (((tbl.length : Nat) : Int) > 0) ↔ ¬ tbl.length = 0 := by omega
  have f1 : (1 ≤ ((tbl.length : Nat) : Int) ∧ ((tbl.length : Nat) : Int) ≤ 4) ↔ (1 ≤ tbl.length ∧ tbl.length ≤ 4) := by omega
  have hG1 : ∀ v : Bool, op ≠ 22 → tbl.length = 0 → op ≠ 1 → op ≠ 2 → op ≠ 3 → (v = true ↔ (op = 20 ∨ op = 21)) → S cx 168 (G168_1 op n (tbl.map i64) v) = some ([tb (decide (stepP ⟨op, n, tbl⟩))], []) := fun v h1 h2 h3 h4 h5 hv => by
    refine eG168_1 ?_
    simp only [NG168_1, C188_S (t188 _), C65_S (t65 _ _ _), S_bif, S_ret, decide_eq_true_eq, beq_iff_eq, hv]
    repeat' split
    all_goals exact leaf (by simp only [decide_eq_true_eq, beq_iff_eq, Bool.false_eq_true, false_iff]; simp only [stepP, depP]; omega)
  have hG : ∀ v : Bool, op ≠ 22 → tbl.length = 0 → op ≠ 1 → (v = true ↔ (op = 2 ∨ op = 3)) → S cx 168 (G168_0 op n (tbl.map i64) v) = some ([tb (decide (stepP ⟨op, n, tbl⟩))], []) := fun v h1 h2 h3 hv => by
    refine eG168_0 ?_
    simp only [NG168_0, C65_S (t65 _ _ _), S_bif, S_ret, decide_eq_true_eq, beq_iff_eq, hv]
    repeat' split
    all_goals first
      | exact leaf (by simp only [stepP, decide_eq_true_eq]; omega)
      | exact hG1 _ h1 h2 h3 (by omega) (by omega) (by simp <;> omega)
  simp only [N168, C188_S (t188 _), C65_S (t65 _ _ _), C156_1_S (t156b tbl hl), S_bif, S_ret, decide_eq_true_eq, beq_iff_eq, List.length_map, not_any, f0, f1]
  repeat' split
  all_goals first
    | exact hG _ (by assumption) (by omega) (by assumption) (by simp <;> omega)
    | exact leaf (by simp only [stepP, decide_eq_true_eq, Bool.false_eq_true, false_iff]; grind)
theorem t167 (x : W) (hl : x.tb.length ≤ big) : tw cx 167 [eW true x] = some ([tb (!decide (stepP x))], []) := by
  refine e167 ?_
  rw [N167, C168_S (t168 x hl), S_ret]
theorem t187 (xs : List W) (hl : xs.length ≤ big) (hs : ∀ x ∈ xs, x.tb.length ≤ big) : ∃ r : Int, tw cx 187 [rW true false xs, .cl 167 []] = some ([i64 r], []) ∧ decide (r ≥ 0) = xs.any fun x => !decide (stepP x) := by
  obtain ⟨r, h1, h2⟩ := find_list (xs := xs) (q := fun x => !decide (stepP x)) (H := fun i => S cx 187 (H187_0 (xs.map (eW false)) i)) (fun j x hx => by
    have hj := lt_of_at hx
    have e1 : (xs.map (eW false)).length = xs.length := List.length_map _
    have hb : xs.length ≤ 1073741824 := hl
    have hx' := hs x (List.mem_of_getElem? hx)
    refine ⟨fun hq => ?_, fun hq r h => ?_⟩
    · refine eH187_0 (bif_pos (dT (by omega)) (ck_pos (dT2 (by omega)) ?_))
      rw [getD_at hx, V3_S, C167_S (t167 x hx')]
      exact bif_pos hq rfl
    · refine eH187_0 (bif_pos (dT (by omega)) (ck_pos (dT2 (by omega)) ?_))
      rw [getD_at hx, V3_S, C167_S (t167 x hx')]
      refine bif_neg hq (back_of ?_)
      rw [inc64 hj hb]
      exact h) (eH187_0 (bif_neg (dF (by simp)) rfl))
  exact ⟨r, e187 h1, h2⟩
theorem t166 (xs : List W) (hl : xs.length ≤ big) (hs : ∀ x ∈ xs, x.tb.length ≤ big) : tw cx 166 [rW true false xs, .cl 167 []] = some ([tb (xs.any fun x => !decide (stepP x))], []) := by
  obtain ⟨r, h1, h2⟩ := t187 xs hl hs
  refine e166 ?_
  rw [N166, C187_S h1, S_ret, h2]
set_option maxHeartbeats 1000000 in
theorem t161 (x : W) (hl : x.tb.length ≤ big) : tw cx 161 [eW true x] = some ([tb (decide (stepP x))], []) := by
  obtain ⟨op, n, tbl⟩ := x
  have hl : tbl.length ≤ 1073741824 := hl
  refine e161 ?_
  have f0 : (((tbl.length : Nat) : Int) > 0) ↔ ¬ tbl.length = 0 := by omega
  have f1 : (1 ≤ ((tbl.length : Nat) : Int) ∧ ((tbl.length : Nat) : Int) ≤ 4) ↔ (1 ≤ tbl.length ∧ tbl.length ≤ 4) := by omega
  have hend : S cx 161 (H161_0 op n (tbl.map i64) (tbl.length : Int)) = some ([tb (decide (depP n ∧ 1 ≤ tbl.length ∧ tbl.length ≤ 4))], []) := by
    refine eH161_0 (bif_neg (dF (by simp)) ?_)
    simp only [C185_S (t185 _), C112_S (t112 _ _ _), S_bif, S_ret, decide_eq_true_eq, List.length_map, f1]
    split <;> exact leaf (by simp only [decide_eq_true_eq, Bool.false_eq_true, false_iff]; grind)
  have hin := all_list (xs := tbl) (q := fun k => decide (depP k)) (H := fun i => S cx 161 (H161_0 op n (tbl.map i64) i)) (yes := fun _ => none) (no := ([tb false], [])) (fun j x hx => by
    have hj := lt_of_at hx
    have e1 : (tbl.map i64).length = tbl.length := List.length_map _
    refine ⟨fun hq r h => ?_, fun hq => ?_⟩
    · refine eH161_0 (bif_pos (dT (by omega)) (ck_pos (dT2 (by omega)) ?_))
      rw [getD_at hx, S_int, C185_S (t185 x)]
      refine bif_neg (by rw [show decide (depP x) = true from hq]; rfl) (back_of ?_)
      rw [inc64 hj hl]
      exact h
    · refine eH161_0 (bif_pos (dT (by omega)) (ck_pos (dT2 (by omega)) ?_))
      rw [getD_at hx, S_int, C185_S (t185 x)]
      exact bif_pos (by rw [show decide (depP x) = false from hq]; rfl) rfl) hend
  have hG1 : ∀ v : Bool, op ≠ 22 → tbl.length = 0 → op ≠ 1 → op ≠ 2 → op ≠ 3 → (v = true ↔ (op = 20 ∨ op = 21)) → S cx 161 (G161_2 op n (tbl.map i64) v) = some ([tb (decide (stepP ⟨op, n, tbl⟩))], []) := fun v h1 h2 h3 h4 h5 hv => by
    refine eG161_2 ?_
    simp only [NG161_2, C185_S (t185 _), C112_S (t112 _ _ _), S_bif, S_ret, decide_eq_true_eq, beq_iff_eq, hv]
    repeat' split
    all_goals exact leaf (by simp only [decide_eq_true_eq, beq_iff_eq, Bool.false_eq_true, false_iff]; simp only [stepP, depP]; omega)
  have hG : ∀ v : Bool, op ≠ 22 → tbl.length = 0 → op ≠ 1 → (v = true ↔ (op = 2 ∨ op = 3)) → S cx 161 (G161_1 op n (tbl.map i64) v) = some ([tb (decide (stepP ⟨op, n, tbl⟩))], []) := fun v h1 h2 h3 hv => by
    refine eG161_1 ?_
    simp only [NG161_1, C112_S (t112 _ _ _), S_bif, S_ret, decide_eq_true_eq, beq_iff_eq, hv]
    repeat' split
    all_goals first
      | exact leaf (by simp only [stepP, decide_eq_true_eq]; omega)
      | exact hG1 _ h1 h2 h3 (by omega) (by omega) (by simp <;> omega)
  have hH : op = 22 → S cx 161 (H161_0 op n (tbl.map i64) 0) = some ([tb (decide (stepP ⟨op, n, tbl⟩))], []) := fun h22 => by
    refine Eq.trans hin ?_
    rw [all_dec]
    by_cases c : ∀ k ∈ tbl, depP k
    · rw [if_pos (by simpa using c)]; exact leaf (by simp only [stepP, decide_eq_true_eq]; grind)
    · rw [if_neg (by simpa using c)]; exact leaf (by simp only [stepP, Bool.false_eq_true, false_iff]; grind)
  by_cases c22 : op = 22
  · exact bif_pos (by simpa using c22) (hH c22)
  refine bif_neg (by simpa using c22) ?_
  simp only [C112_S (t112 _ _ _), S_bif, S_ret, decide_eq_true_eq, beq_iff_eq, List.length_map, f0]
  repeat' split
  all_goals first
    | exact hG _ (by assumption) (by omega) (by assumption) (by simp <;> omega)
    | exact leaf (by simp only [stepP, decide_eq_true_eq, Bool.false_eq_true, false_iff]; grind)
/-- How far out a step goes is at most so many. -/
def inP (x : W) (n : Int) : Prop := (∀ k ∈ x.tb, k ≤ n) ∧ (x.op < 20 ∨ x.n ≤ n)
instance (x : W) (n : Int) : Decidable (inP x n) := by unfold inP; infer_instance
theorem t162 (x : W) (m : Int) (hl : x.tb.length ≤ big) : tw cx 162 [eW true x, i64 m] = some ([tb (decide (inP x m))], []) := by
  obtain ⟨op, n, tbl⟩ := x
  have hl : tbl.length ≤ 1073741824 := hl
  refine e162 ?_
  have hend : S cx 162 (H162_0 m op n (tbl.map i64) (tbl.length : Int)) = some ([tb (decide (op < 20 ∨ n ≤ m))], []) := by
    refine eH162_0 (bif_neg (dF (by simp)) ?_)
    simp only [S_bif, S_ret, decide_eq_true_eq]
    split <;> exact leaf (by simp only [decide_eq_true_eq, true_iff]; omega)
  have hin := all_list (xs := tbl) (q := fun k => decide (k ≤ m)) (H := fun i => S cx 162 (H162_0 m op n (tbl.map i64) i)) (yes := fun _ => none) (no := ([tb false], [])) (fun j x hx => by
    have hj := lt_of_at hx
    have e1 : (tbl.map i64).length = tbl.length := List.length_map _
    refine ⟨fun hq r h => ?_, fun hq => ?_⟩
    · refine eH162_0 (bif_pos (dT (by omega)) (ck_pos (dT2 (by omega)) ?_))
      have hq := of_decide_eq_true hq
      rw [getD_at hx, S_int]
      refine bif_neg (dF (by omega)) (back_of ?_)
      rw [inc64 hj hl]
      exact h
    · refine eH162_0 (bif_pos (dT (by omega)) (ck_pos (dT2 (by omega)) ?_))
      have hq := of_decide_eq_false hq
      rw [getD_at hx, S_int]
      exact bif_pos (dT (by omega)) rfl) hend
  refine Eq.trans hin ?_
  rw [all_dec]
  by_cases c : ∀ k ∈ tbl, k ≤ m
  · rw [if_pos (by simpa using c)]; exact leaf (by simp only [inP, decide_eq_true_eq]; exact ⟨fun h => ⟨c, h⟩, fun h => h.2⟩)
  · rw [if_neg (by simpa using c)]; exact leaf (by simp only [inP, Bool.false_eq_true, false_iff]; exact fun h => c h.1)
def opnP (op : Int) : Prop := op = 15 ∨ op = 16 ∨ op = 17
instance (op : Int) : Decidable (opnP op) := by unfold opnP; infer_instance
theorem t163 (op : Int) : tw cx 163 [i64 op] = some ([tb (decide (opnP op))], []) := by
  refine e163 ?_
  rw [N163, C112_S (t112 ..), S_ret]
  exact leaf (by simp only [opnP, decide_eq_true_eq]; omega)
theorem t171 (op : Int) : tw cx 171 [i64 op] = some ([tb (decide (opnP op))], []) := by
  refine e171 ?_
  simp only [N171, S_bif, S_ret, beq_iff_eq]
  repeat' split
  all_goals exact leaf (by simp only [opnP, beq_iff_eq, true_iff, eq_self]; omega)
theorem t191 (xs : List Int) (h0 : 1 ≤ xs.length) (hl : xs.length ≤ big) : ∃ m : Int, tw cx 191 [rI true xs] = some ([i64 m], []) ∧ ∀ n, m ≤ n ↔ ∀ k ∈ xs, k ≤ n := by
  have hl : xs.length ≤ 1073741824 := hl
  have e1 : (xs.map i64).length = xs.length := List.length_map _
  have key : ∀ d j : Nat, xs.length - j = d → j ≤ xs.length → ∀ m0 : Int, ∃ m : Int, S cx 191 (H191_1 (xs.map i64) m0 j) = some ([i64 m], []) ∧ ∀ n, m ≤ n ↔ (m0 ≤ n ∧ ∀ k ∈ xs.drop j, k ≤ n) := by
    intro d
    induction d with
    | zero =>
      intro j hd hj m0
      have : j = xs.length := by omega
      subst this
      exact ⟨m0, eH191_1 (bif_neg (dF (by simp)) rfl), fun n => by simp⟩
    | succ d ih =>
      intro j hd hj m0
      obtain ⟨x, hx⟩ := at_some (show j < xs.length by omega)
      obtain ⟨m, h1, h2⟩ := ih (j + 1) (by omega) (by omega) (if x > m0 then x else m0)
      refine ⟨m, eH191_1 (bif_pos (dT (by omega)) (ck_pos (dT2 (by omega)) ?_)), fun n => ?_⟩
      · rw [getD_at hx, S_int]
        refine back_of ?_
        rw [inc64 (n := xs.length) (by omega) hl]
        exact h1
      · have e2 : xs.drop j = x :: xs.drop (j + 1) := by
          have hlt : j < xs.length := by omega
          rw [List.drop_eq_getElem_cons hlt]
          rw [List.getElem?_eq_getElem hlt] at hx
          rw [Option.some.inj hx]
        rw [h2, e2]
        simp only [List.mem_cons, forall_eq_or_imp]
        split <;> constructor <;> intro h <;> grind
  obtain ⟨x, hx⟩ := at_some (show 0 < xs.length by omega)
  obtain ⟨m, h1, h2⟩ := key (xs.length - 1) 1 rfl (by omega) x
  refine ⟨m, e191 (bif_neg (dF (by omega)) (eG191_0 (ck_pos (dT (by omega)) ?_))), fun n => ?_⟩
  · have := getD_at (e := i64) hx
    rw [show 0 + ((0 : Nat) : Int).toNat = 0 by omega] at this
    rw [this, S_int]
    exact h1
  · have e2 : xs = x :: xs.drop 1 := by
      have hlt : 0 < xs.length := by omega
      have := List.drop_eq_getElem_cons hlt
      rw [List.drop_zero] at this
      rw [List.getElem?_eq_getElem hlt] at hx
      rw [Option.some.inj hx] at this
      exact this
    rw [h2]
    conv => rhs; rw [e2]
    simp only [List.mem_cons, forall_eq_or_imp]
theorem t170 (x : W) (h : stepP x) : ∃ d : Int, tw cx 170 [eW true x] = some ([i64 d], []) ∧ ∀ n : Int, 0 ≤ n → (d ≤ n ↔ inP x n) := by
  obtain ⟨op, n, tbl⟩ := x
  by_cases c : op = 20 ∨ op = 21
  · refine ⟨n, e170 ?_, fun m hm => ?_⟩
    · simp only [N170, S_bif, beq_iff_eq]
      split <;> exact eG170_0 (bif_pos (by simp <;> omega) rfl)
    · have h0 : tbl.length = 0 := by simp only [stepP] at h; omega
      have : tbl = [] := List.length_eq_zero_iff.1 h0
      subst this
      simp only [inP]; simp; omega
  · have hG : ∀ d, S cx 170 (G170_0 op n (tbl.map i64) false) = some ([i64 d], []) → tw cx 170 [eW true ⟨op, n, tbl⟩] = some ([i64 d], []) := fun d hd => by
      refine e170 ?_
      simp only [N170, S_bif, beq_iff_eq]
      rw [if_neg (by omega), show (op == 21) = false by rw [beq_eq_false_iff_ne]; omega]
      exact hd
    by_cases c2 : op = 22
    · have ht : 1 ≤ tbl.length ∧ tbl.length ≤ 4 := by simp only [stepP] at h; omega
      obtain ⟨m, h1, h2⟩ := t191 tbl ht.1 (by show tbl.length ≤ 1073741824; omega)
      refine ⟨if m > n then m else n, hG _ (eG170_0 (bif_neg rfl (bif_pos (by simp [c2]) ?_))), fun k hk => ?_⟩
      · have : S cx 170 (NG170_0_s0 n (tbl.map i64)) = some ([i64 (if m > n then m else n)], []) := by rw [NG170_0_s0, C191_S h1, S_ret]
        exact S_amb2 this this
      · have := h2 k
        simp only [inP]
        split <;> constructor <;> intro h3 <;> grind
    · refine ⟨-1, hG _ (eG170_0 (bif_neg rfl (bif_neg (by simpa using c2) rfl))), fun m hm => ?_⟩
      have h0 : tbl.length = 0 ∧ op < 20 := by simp only [stepP, depP] at h; omega
      have : tbl = [] := List.length_eq_zero_iff.1 h0.1
      subst this
      simp only [inP]; simp; omega
end Go.Tree.M

/- Rows of one value; a state is copied. -/
namespace Go.Tree.M
open Go.Proofs
set_option linter.unusedVariables false
set_option linter.unusedSimpArgs false
theorem u64_id {x : Int} (h0 : 0 ≤ x) (h1 : x < 18446744073709551616) : IntKind.u64.wrap x = x := by
  have : IntKind.u64.wrap x = x % 18446744073709551616 := by simp [IntKind.wrap, IntKind.bits, IntKind.signed]
  rw [this]; omega
theorem and32 {y : Int} (h0 : 0 ≤ y) (h1 : y < 4294967296) : (((BitVec.ofInt 64 y &&& BitVec.ofInt 64 4294967295).toNat : Nat) : Int) = y := by
  obtain ⟨k, rfl⟩ := Int.eq_ofNat_of_zero_le h0
  rw [BitVec.toNat_and, BitVec.toNat_ofInt, BitVec.toNat_ofInt]
  have e1 : ((k : Int) % ((2 ^ 64 : Nat) : Int)).toNat = k := by omega
  have e2 : ((4294967295 : Int) % ((2 ^ 64 : Nat) : Int)).toNat = 2 ^ 32 - 1 := by decide
  rw [e1, e2, Nat.and_two_pow_sub_one_eq_mod]
  omega
theorem fd32 {y : Int} (h0 : 0 ≤ y) (h1 : y < 4294967296) : y.fdiv (2 ^ (32)) = 0 := by
  rw [Int.fdiv_eq_ediv_of_nonneg y (by decide)]
  omega
theorem t197 (y : Int) (h0 : 0 ≤ y) (h1 : y < 4294967296) : tw cx 197 [.fl (.int .u64 1), .fl (.int .u64 y)] = some ([.fl (.int .u64 0), .fl (.int .u64 y)], []) := by
  refine e197 ?_
  rw [N197, S_ret]
  have a1 : (((BitVec.ofInt 64 1 &&& BitVec.ofInt 64 4294967295).toNat : Nat) : Int) = 1 := and32 (by decide) (by decide)
  have f1 : (1 : Int).fdiv (2 ^ (32)) = 0 := by decide
  have u0 : IntKind.u64.wrap 0 = 0 := by decide
  have u1 : IntKind.u64.wrap 1 = 1 := by decide
  have uy : IntKind.u64.wrap y = y := u64_id h0 (by omega)
  simp only [a1, f1, fd32 h0 h1, and32 h0 h1, u0, u1, uy, Int.zero_mul, Int.mul_zero, Int.zero_add, Int.add_zero, Int.one_mul, and32 (show (0 : Int) ≤ 0 by decide) (show (0 : Int) < 4294967296 by decide), fd32 (show (0 : Int) ≤ 0 by decide) (show (0 : Int) < 4294967296 by decide)]
theorem cpyS_spec (m n : Nat) (xs ys : List TV) (h : m + n ≤ xs.length) : cpyS (some (m, n)) xs ys = xs.take m ++ (ys.take (min ys.length n) ++ xs.drop (m + min ys.length n)) :=
  letI : Pol := ⟨fun _ _ _ => true, fun _ => true⟩
  cpyS_eq (some (m, n)) xs ys h
theorem cpyT_spec (xs ys : List TV) : cpyT xs ys = ys.take (min ys.length xs.length) ++ xs.drop (min ys.length xs.length) :=
  letI : Pol := ⟨fun _ _ _ => true, fun _ => true⟩
  cpyT_eq xs ys
theorem t169 (v : Int) (n : Nat) (hn : n ≤ big) : tw cx 169 [rI true [v], i64 n] = some ([rI false (List.replicate n v)], []) := by
  have hn : n ≤ 1073741824 := hn
  have key : ∀ d m : Nat, n - m = d → m ≤ n → 1 ≤ m → S cx 169 (H169_2 (List.replicate m (i64 v) ++ List.replicate (n - m) (i64 0)) m) = some ([rI false (List.replicate n v)], []) := by
    intro d
    induction d using Nat.strongRecOn with
    | ind d ih =>
      intro m hd hm h1
      have el : (List.replicate m (i64 v) ++ List.replicate (n - m) (i64 0)).length = n := by simp; omega
      by_cases c : m = n
      · subst c
        refine eH169_2 (bif_neg (dF (by omega)) ?_)
        rw [S_ret, Nat.sub_self]
        simp
      · refine eH169_2 (bif_pos (dT (by omega)) (ck_pos ?_ (ck_pos (dT2 (by omega)) (back_of ?_))))
        · rw [el, dT (show (0 : Int) ≤ m by omega), dT (show (m : Int) ≤ (n : Int) by omega), dT (Int.le_refl _)]; rfl
        · rw [el, List.drop_zero, show (0 + (m : Int).toNat) = m by omega, show ((n : Int) - m).toNat = n - m by omega, show ((m : Int) - 0).toNat = m by omega]
          have et : (List.replicate m (i64 v) ++ List.replicate (n - m) (i64 0)).take m = List.replicate m (i64 v) := by
            rw [List.take_left' (by simp)]
          rw [et, cpyS_spec _ _ _ _ (by rw [el]; omega), et]
          simp only [List.length_replicate]
          have e2 : List.replicate m (i64 v) ++ ((List.replicate m (i64 v)).take (min m (n - m)) ++ (List.replicate m (i64 v) ++ List.replicate (n - m) (i64 0)).drop (m + min m (n - m))) = List.replicate (m + min m (n - m)) (i64 v) ++ List.replicate (n - (m + min m (n - m))) (i64 0) := by
            rw [List.take_replicate, ← List.append_assoc, List.replicate_append_replicate, List.drop_append, List.length_replicate, List.drop_eq_nil_of_le (by simp), List.nil_append, List.drop_replicate]
            congr 2 <;> omega
          rw [e2, w64_id (by omega) (by omega)]
          have := ih (n - (m + min m (n - m))) (by omega) (m + min m (n - m)) rfl (by omega) (by omega)
          rw [show ((m + min m (n - m) : Nat) : Int) = (m : Int) + ((min m (n - m) : Nat) : Int) by omega] at this
          exact this
  refine e169 (bif_neg (dF (by omega)) (eG169_0 ?_))
  have e1 : IntKind.u64.wrap (((([v].map i64).length : Nat) : Int)) = 1 := u64_id (by simp) (by simp)
  have e2 : IntKind.u64.wrap (n : Int) = n := u64_id (by omega) (by omega)
  unfold NG169_0
  rw [e1, e2, C190_S (show tw cx 190 [.fl (.int .u64 1), .fl (.int .u64 (n : Int))] = some ([.fl (.int .u64 0), .fl (.int .u64 (n : Int))], []) from e190 (by rw [N190, C197_S (t197 _ (by omega) (by omega)), S_ret]))]
  refine bif_neg rfl (bif_neg (dF (by omega)) (eG169_1 (ck_pos ?_ ?_)))
  · rw [w64_id (by omega) (by omega)]; exact mk_ok (by omega) hn
  · rw [w64_id (by omega) (by omega), show ((n : Int)).toNat = n by omega]
    by_cases c : n = 0
    · subst c
      exact eH169_2 (bif_neg rfl rfl)
    · have := key (n - 1) 1 rfl (by omega) (by omega)
      have e3 : cpyT (List.replicate n (i64 0)) ([v].map i64) = List.replicate 1 (i64 v) ++ List.replicate (n - 1) (i64 0) := by
        rw [cpyT_spec]
        simp only [List.map_cons, List.map_nil, List.length_cons, List.length_nil, List.length_replicate, List.drop_replicate]
        rw [show min (0 + 1) n = 1 by omega]
        rfl
      rw [e3]
      simp only [List.map_cons, List.map_nil, List.length_cons, List.length_nil, List.length_replicate]
      rw [show min (0 + 1) n = 1 by omega]
      exact this
theorem all89 {s_0 : List TV} {s_1 : List TV} {s_2 : List TV} {X : Option Res} (h0 : (decide ((0 + s_0.length) * 8 < lim)) = true) (h1 : (decide ((0 + s_1.length) * 8 < lim)) = true) (h2 : (decide ((0 + s_2.length) * 8 < lim)) = true) (hX : some ([.st [sl false ⟨1, false⟩ (([]) ++ s_0), sl false ⟨1, false⟩ (([]) ++ s_1), sl false ⟨1, false⟩ (([]) ++ s_2)]], []) = X) : S cx 89 (N89 s_0 s_1 s_2) = X := by
  subst hX
  have rR89_33 : S cx 89 (R89_33 s_0 s_1 s_2) = _ := eR89_33 (ck_pos h2 rfl)
  have rR89_45 : S cx 89 (R89_45 s_0 s_1 s_2) = _ := eR89_45 (ck_pos h2 rfl)
  have rR89_46 : S cx 89 (R89_46 s_0 s_1 s_2) = _ := eR89_46 (ck_pos h1 (ck_pos h2 rfl))
  have rR89_34 : S cx 89 (R89_34 s_0 s_1 s_2) = _ := eR89_34 (S_amb2 (ck_pos h1 rR89_45) rR89_46)
  have rR89_47 : S cx 89 (R89_47 s_0 s_1 s_2) = _ := eR89_47 (ck_pos h2 rfl)
  have rR89_35 : S cx 89 (R89_35 s_0 s_1 s_2) = _ := eR89_35 (S_amb2 (ck_pos h1 rR89_47) rR89_46)
  have rR89_16 : S cx 89 (R89_16 s_0 s_1 s_2) = _ := eR89_16 (S_amb3 (ck_pos h1 rR89_33) rR89_34 rR89_35)
  have rR89_36 : S cx 89 (R89_36 s_0 s_1 s_2) = _ := eR89_36 (ck_pos h1 (ck_pos h2 rfl))
  have rR89_17 : S cx 89 (R89_17 s_0 s_1 s_2) = _ := eR89_17 (S_amb2 rR89_34 rR89_36)
  have rR89_18 : S cx 89 (R89_18 s_0 s_1 s_2) = _ := eR89_18 (S_amb2 rR89_35 rR89_36)
  have rR89_5 : S cx 89 (R89_5 s_0 s_1 s_2) = _ := eR89_5 (S_amb3 rR89_16 rR89_17 rR89_18)
  have rR89_19 : S cx 89 (R89_19 s_0 s_1 s_2) = _ := eR89_19 (S_amb3 (ck_pos h1 rR89_33) rR89_34 rR89_35)
  have rR89_48 : S cx 89 (R89_48 s_0 s_1 s_2) = _ := eR89_48 (ck_pos h0 (ck_pos h1 (ck_pos h2 rfl)))
  have rR89_37 : S cx 89 (R89_37 s_0 s_1 s_2) = _ := eR89_37 (S_amb2 (ck_pos h0 rR89_34) rR89_48)
  have rR89_38 : S cx 89 (R89_38 s_0 s_1 s_2) = _ := eR89_38 (S_amb2 (ck_pos h0 rR89_35) rR89_48)
  have rR89_20 : S cx 89 (R89_20 s_0 s_1 s_2) = _ := eR89_20 (S_amb3 (ck_pos h0 rR89_16) rR89_37 rR89_38)
  have rR89_39 : S cx 89 (R89_39 s_0 s_1 s_2) = _ := eR89_39 (S_amb2 (ck_pos h1 rR89_45) rR89_46)
  have rR89_49 : S cx 89 (R89_49 s_0 s_1 s_2) = _ := eR89_49 (ck_pos h1 (ck_pos h2 rfl))
  have rR89_40 : S cx 89 (R89_40 s_0 s_1 s_2) = _ := eR89_40 (S_amb2 (ck_pos h0 rR89_49) rR89_48)
  have rR89_21 : S cx 89 (R89_21 s_0 s_1 s_2) = _ := eR89_21 (S_amb3 (ck_pos h0 rR89_39) rR89_37 rR89_40)
  have rR89_41 : S cx 89 (R89_41 s_0 s_1 s_2) = _ := eR89_41 (S_amb2 (ck_pos h1 rR89_47) rR89_46)
  have rR89_22 : S cx 89 (R89_22 s_0 s_1 s_2) = _ := eR89_22 (S_amb3 (ck_pos h0 rR89_41) rR89_38 rR89_40)
  have rR89_6 : S cx 89 (R89_6 s_0 s_1 s_2) = _ := eR89_6 (S_amb4 (ck_pos h0 rR89_19) rR89_20 rR89_21 rR89_22)
  have rR89_23 : S cx 89 (R89_23 s_0 s_1 s_2) = _ := eR89_23 (S_amb3 rR89_16 rR89_17 rR89_18)
  have rR89_42 : S cx 89 (R89_42 s_0 s_1 s_2) = _ := eR89_42 (S_amb2 (ck_pos h0 rR89_36) rR89_48)
  have rR89_24 : S cx 89 (R89_24 s_0 s_1 s_2) = _ := eR89_24 (S_amb3 (ck_pos h0 rR89_17) rR89_37 rR89_42)
  have rR89_25 : S cx 89 (R89_25 s_0 s_1 s_2) = _ := eR89_25 (S_amb3 (ck_pos h0 rR89_18) rR89_38 rR89_42)
  have rR89_7 : S cx 89 (R89_7 s_0 s_1 s_2) = _ := eR89_7 (S_amb4 (ck_pos h0 rR89_23) rR89_20 rR89_24 rR89_25)
  have rR89_26 : S cx 89 (R89_26 s_0 s_1 s_2) = _ := eR89_26 (S_amb2 rR89_34 rR89_36)
  have rR89_43 : S cx 89 (R89_43 s_0 s_1 s_2) = _ := eR89_43 (ck_pos h1 (ck_pos h2 rfl))
  have rR89_27 : S cx 89 (R89_27 s_0 s_1 s_2) = _ := eR89_27 (S_amb3 (ck_pos h0 rR89_43) rR89_40 rR89_42)
  have rR89_8 : S cx 89 (R89_8 s_0 s_1 s_2) = _ := eR89_8 (S_amb4 (ck_pos h0 rR89_26) rR89_21 rR89_24 rR89_27)
  have rR89_28 : S cx 89 (R89_28 s_0 s_1 s_2) = _ := eR89_28 (S_amb2 rR89_35 rR89_36)
  have rR89_9 : S cx 89 (R89_9 s_0 s_1 s_2) = _ := eR89_9 (S_amb4 (ck_pos h0 rR89_28) rR89_22 rR89_25 rR89_27)
  have rR89_0 : S cx 89 (R89_0 s_0 s_1 s_2) = _ := eR89_0 (S_amb5 (ck_pos h0 rR89_5) rR89_6 rR89_7 rR89_8 rR89_9)
  have rR89_44 : S cx 89 (R89_44 s_0 s_1 s_2) = _ := eR89_44 (ck_pos h0 (ck_pos h1 (ck_pos h2 rfl)))
  have rR89_29 : S cx 89 (R89_29 s_0 s_1 s_2) = _ := eR89_29 (S_amb2 rR89_37 rR89_44)
  have rR89_30 : S cx 89 (R89_30 s_0 s_1 s_2) = _ := eR89_30 (S_amb2 rR89_38 rR89_44)
  have rR89_10 : S cx 89 (R89_10 s_0 s_1 s_2) = _ := eR89_10 (S_amb3 rR89_20 rR89_29 rR89_30)
  have rR89_31 : S cx 89 (R89_31 s_0 s_1 s_2) = _ := eR89_31 (S_amb2 rR89_40 rR89_44)
  have rR89_11 : S cx 89 (R89_11 s_0 s_1 s_2) = _ := eR89_11 (S_amb3 rR89_21 rR89_29 rR89_31)
  have rR89_12 : S cx 89 (R89_12 s_0 s_1 s_2) = _ := eR89_12 (S_amb3 rR89_22 rR89_30 rR89_31)
  have rR89_1 : S cx 89 (R89_1 s_0 s_1 s_2) = _ := eR89_1 (S_amb4 rR89_6 rR89_10 rR89_11 rR89_12)
  have rR89_32 : S cx 89 (R89_32 s_0 s_1 s_2) = _ := eR89_32 (S_amb2 rR89_42 rR89_44)
  have rR89_13 : S cx 89 (R89_13 s_0 s_1 s_2) = _ := eR89_13 (S_amb3 rR89_24 rR89_29 rR89_32)
  have rR89_14 : S cx 89 (R89_14 s_0 s_1 s_2) = _ := eR89_14 (S_amb3 rR89_25 rR89_30 rR89_32)
  have rR89_2 : S cx 89 (R89_2 s_0 s_1 s_2) = _ := eR89_2 (S_amb4 rR89_7 rR89_10 rR89_13 rR89_14)
  have rR89_15 : S cx 89 (R89_15 s_0 s_1 s_2) = _ := eR89_15 (S_amb3 rR89_27 rR89_31 rR89_32)
  have rR89_3 : S cx 89 (R89_3 s_0 s_1 s_2) = _ := eR89_3 (S_amb4 rR89_8 rR89_11 rR89_13 rR89_15)
  have rR89_4 : S cx 89 (R89_4 s_0 s_1 s_2) = _ := eR89_4 (S_amb4 rR89_9 rR89_12 rR89_14 rR89_15)
  exact (S_amb5 rR89_0 rR89_1 rR89_2 rR89_3 rR89_4)
theorem t89 (s : Sx) (h : smallS s) : tw cx 89 [eS true s] = some ([eS false s], []) := by
  obtain ⟨h0, h1, h2⟩ := h
  exact e89 (all89 (lim_ok (by rw [List.length_map]; exact h0)) (lim_ok (by rw [List.length_map]; exact h1)) (lim_ok (by rw [List.length_map]; exact h2)) rfl)
theorem t93 (s : Sx) (h : smallS s) : tw cx 93 [eS true s] = some ([eS false s], []) := by
  obtain ⟨h0, h1, h2⟩ := h
  have r0 : ∀ K, S cx 93 (C129 (s.loc.map i64) K) = S cx 93 (K (s.loc.map i64)) := fun K => C129_S (t129 _ h0)
  have r1 : ∀ K, S cx 93 (C129 (s.mem.map i64) K) = S cx 93 (K (s.mem.map i64)) := fun K => C129_S (t129 _ h1)
  have r2 : ∀ K, S cx 93 (C129 (s.told.map i64) K) = S cx 93 (K (s.told.map i64)) := fun K => C129_S (t129 _ h2)
  have a0 : S cx 93 (N93_s0 (s.mem.map i64) (s.told.map i64) (s.loc.map i64)) = some ([eS false s], []) := by
    rw [N93_s0, r1, r2, S_ret]
  have a1 : S cx 93 (N93_s1 (s.loc.map i64) (s.mem.map i64) (s.told.map i64)) = some ([eS false s], []) := by
    rw [N93_s1, r0]; exact S_amb2 a0 a0
  have a2 : S cx 93 (N93_s2 (s.loc.map i64) (s.mem.map i64) (s.told.map i64)) = some ([eS false s], []) := by
    rw [N93_s2, r0]; exact a0
  exact e93 (S_amb3 a1 (S_amb2 a1 a2) (S_amb2 a2 a2))
end Go.Tree.M

/- Code within code: its shape, step by step (no program in sight). -/
namespace Go.Tree.M
open Go.Proofs
set_option linter.unusedVariables false
set_option linter.unusedSimpArgs false
def g (xs : List Int) (k : Nat) : Int := xs.getD k (-1)
theorem g_set {xs : List Int} {j k : Nat} {v : Int} : g (xs.set j v) k = if j = k ∧ j < xs.length then v else g xs k := by
  simp only [g, List.getD_eq_getElem?_getD, List.getElem?_set]
  by_cases c : j = k
  · subst c
    by_cases h : j < xs.length
    · simp [h]
    · simp [h]
  · simp [c]
theorem g_rep {n k : Nat} : g (List.replicate n (-1)) k = -1 := by
  simp only [g, List.getD_eq_getElem?_getD, List.getElem?_replicate]
  split <;> rfl
theorem g_at {xs : List Int} {k : Nat} (h : k < xs.length) : xs[k]? = some (g xs k) := by
  simp [g, List.getD_eq_getElem?_getD, h]
structure Sh where
  ends : List Int
  other : List Int
  opens : List (List Nat)
  op : List Nat
abbrev opAt (l : List W) (k : Nat) : Int := (l.getD k default).op
def endSet (s : Sh) (i k : Nat) : List Int := if g s.other k ≥ 0 then ((s.ends.set i k).set k i).set (g s.other k).toNat i else (s.ends.set i k).set k i
/-- One step of the walk. -/
def shStep (l : List W) (i : Nat) (x : W) (s : Sh) : Option Sh :=
  if ¬ (stepP x ∧ inP x s.op.length) then none
  else if opnP x.op then (if s.op.length = 8 then none else some ⟨s.ends, s.other, s.opens.set i s.op, s.op ++ [i]⟩)
  else if x.op = 18 then
    match s.op.getLast? with
    | none => none
    | some k => if opAt l k ≠ 17 ∨ g s.other k ≥ 0 then none else some ⟨s.ends, s.other.set k i, s.opens.set i s.op, s.op⟩
  else if x.op = 19 then
    match s.op.getLast? with
    | none => none
    | some k => some ⟨endSet s i k, s.other, s.opens.set i s.op, s.op.dropLast⟩
  else some ⟨s.ends, s.other, s.opens.set i s.op, s.op⟩
def shGo (l : List W) : List W → Nat → Sh → Option Sh
  | [], _, s => if s.op.length = 0 then some s else none
  | x :: xs, i, s => match shStep l i x s with | none => none | some s' => shGo l xs (i + 1) s'
/-- What stands while code is walked. -/
structure ShI (l : List W) (i : Nat) (s : Sh) : Prop where
  le : i ≤ l.length
  e : s.ends.length = l.length
  o : s.other.length = l.length
  p : s.opens.length = l.length
  op : s.op = (List.range i).filter fun k => decide (opnP (opAt l k) ∧ g s.ends k = -1)
  hi : ∀ k, i ≤ k → g s.ends k = -1 ∧ g s.other k = -1
  mo : ∀ k, -1 ≤ g s.ends k ∧ -1 ≤ g s.other k
  ot : ∀ k, 0 ≤ g s.other k → opAt l k = 17 ∧ (k : Int) < g s.other k ∧ g s.other k < i ∧ opAt l (g s.other k).toNat = 18 ∧ (g s.ends k = -1 ∨ g s.other k < g s.ends k)
  c1 : ∀ k, opnP (opAt l k) → 0 ≤ g s.ends k → (k : Int) < g s.ends k ∧ g s.ends k < i ∧ opAt l (g s.ends k).toNat = 19 ∧ g s.ends (g s.ends k).toNat = k
  c2 : ∀ k, k < i → opAt l k = 19 → 0 ≤ g s.ends k ∧ g s.ends k < k ∧ opnP (opAt l (g s.ends k).toNat) ∧ g s.ends (g s.ends k).toNat = k
  c3 : ∀ k, k < i → opAt l k = 18 → ∃ j, j < k ∧ opAt l j = 17 ∧ g s.other j = k ∧ g s.ends k = g s.ends j
  oi : ∀ j k, 0 ≤ g s.other j → g s.other j = g s.other k → j = k
  len : s.op.length ≤ 8
theorem ShI.mem {l : List W} {i : Nat} {s : Sh} (h : ShI l i s) {k : Nat} (hk : k ∈ s.op) : k < i ∧ opnP (opAt l k) ∧ g s.ends k = -1 := by
  rw [h.op, List.mem_filter, List.mem_range] at hk
  exact ⟨hk.1, of_decide_eq_true hk.2⟩
theorem sh0 (l : List W) : ShI l 0 ⟨List.replicate l.length (-1), List.replicate l.length (-1), List.replicate l.length [], []⟩ := by
  refine ⟨Nat.zero_le _, by simp, by simp, by simp, rfl, fun k _ => ⟨g_rep, g_rep⟩, fun k => ?_, fun k h => ?_, fun k _ h => ?_, fun k h => ?_, fun k h => ?_, fun j k h => ?_, by simp⟩
  · simp only [g_rep]; omega
  · simp only [g_rep] at h; omega
  · simp only [g_rep] at h; omega
  · omega
  · omega
  · simp only [g_rep] at h; omega
theorem opAt_of {l : List W} {i : Nat} {x : W} (h : l[i]? = some x) : opAt l i = x.op := by
  simp [opAt, List.getD_eq_getElem?_getD, h]
theorem last_cases {α : Type} (xs : List α) : xs = [] ∨ ∃ ys y, xs = ys ++ [y] := by
  rcases List.eq_nil_or_concat xs with h | ⟨ys, y, h⟩
  · exact .inl h
  · exact .inr ⟨ys, y, by rw [h, List.concat_eq_append]⟩
theorem range_filter_succ {p q : Nat → Bool} {i : Nat} (h : ∀ k, k < i → p k = q k) : (List.range (i + 1)).filter q = (List.range i).filter p ++ (if q i then [i] else []) := by
  rw [List.range_succ, List.filter_append]
  congr 1
  · exact (List.filter_congr fun k hk => h k (List.mem_range.1 hk)).symm
  · simp [List.filter_cons]
theorem ShI.step {l : List W} {i : Nat} {x : W} {s s' : Sh} (h : ShI l i s) (hx : l[i]? = some x) (hs : shStep l i x s = some s') : ShI l (i + 1) s' := by
  have hlt := lt_of_at hx
  have hop := opAt_of hx
  unfold shStep at hs
  split at hs
  · cases hs
  split at hs
  · -- something opens
    rename_i hgood ho
    split at hs
    · cases hs
    rename_i h8
    cases hs
    refine ⟨by omega, h.e, h.o, by simp [h.p], ?_, fun k hk => h.hi k (by omega), h.mo, fun k hk => ?_, fun k hk hk' => ?_, fun k hk hk' => ?_, fun k hk hk' => ?_, h.oi, ?_⟩
    · rw [range_filter_succ (p := fun k => decide (opnP (opAt l k) ∧ g s.ends k = -1)) (fun k _ => rfl), ← h.op, if_pos (decide_eq_true ⟨by rw [hop]; exact ho, (h.hi i (Nat.le_refl _)).1⟩)]
    · obtain ⟨a, b, c, d⟩ := h.ot k hk; exact ⟨a, b, (by show g s.other k < ((i + 1 : Nat) : Int); omega), d⟩
    · obtain ⟨a, b, c⟩ := h.c1 k hk hk'; exact ⟨a, (by show g s.ends k < ((i + 1 : Nat) : Int); omega), c⟩
    · rcases Nat.lt_or_ge k i with c | c
      · exact h.c2 k c hk'
      · obtain rfl : k = i := by omega
        rw [hop] at hk'; simp only [opnP] at ho; omega
    · rcases Nat.lt_or_ge k i with c | c
      · exact h.c3 k c hk'
      · obtain rfl : k = i := by omega
        rw [hop] at hk'; simp only [opnP] at ho; omega
    · have := h.len; simp only [List.length_append, List.length_cons, List.length_nil]; omega
  split at hs
  · -- an else
    rename_i hgood ho h18
    rcases last_cases s.op with hnil | ⟨ys, k, hlast⟩
    · rw [hnil] at hs; cases hs
    rw [hlast, List.getLast?_concat] at hs
    simp only at hs
    split at hs
    · cases hs
    rename_i hk
    cases hs
    obtain ⟨hki, hko, hke⟩ := h.mem (k := k) (by rw [hlast]; simp)
    have hk17 : opAt l k = 17 := by
      by_cases c : opAt l k = 17
      · exact c
      · exact absurd (Or.inl c) hk
    have hko' : g s.other k = -1 := by
      have := (h.mo k).2
      by_cases c : g s.other k ≥ 0
      · exact absurd (Or.inr c) hk
      · omega
    have go : ∀ j, g (s.other.set k (i : Int)) j = if k = j then (i : Int) else g s.other j := fun j => by
      rw [g_set]
      by_cases c : k = j
      · simp [c, h.o]; omega
      · simp [c]
    refine ⟨by omega, h.e, by simp [h.o], by simp [h.p], ?_, fun j hj => ⟨(h.hi j (by omega)).1, by rw [go, if_neg (by omega)]; exact (h.hi j (by omega)).2⟩, fun j => ⟨(h.mo j).1, ?_⟩, fun j hj => ?_, fun j hj hj' => ?_, fun j hj hj' => ?_, fun j hj hj' => ?_, fun j m hj hjm => ?_, ?_⟩
    · rw [range_filter_succ (p := fun k => decide (opnP (opAt l k) ∧ g s.ends k = -1)) (fun k _ => rfl), ← h.op, if_neg (by rw [hop]; simp [ho])]
      rw [hlast]; simp
    · rw [go]; split
      · omega
      · exact (h.mo j).2
    · simp only [go] at hj ⊢
      by_cases c : k = j
      · subst c
        simp only [if_true] at hj ⊢
        refine ⟨hk17, by omega, by omega, ?_, .inl hke⟩
        rw [show (i : Int).toNat = i by omega, hop]; exact h18
      · simp only [if_neg c] at hj ⊢
        obtain ⟨a, b, c', d⟩ := h.ot j hj; exact ⟨a, b, by omega, d⟩
    · obtain ⟨a, b, c⟩ := h.c1 j hj hj'; exact ⟨a, (by show g s.ends j < ((i + 1 : Nat) : Int); omega), c⟩
    · rcases Nat.lt_or_ge j i with c | c
      · exact h.c2 j c hj'
      · obtain rfl : j = i := by omega
        rw [hop] at hj'; omega
    · rcases Nat.lt_or_ge j i with c | c
      · obtain ⟨m, h1, h2, h3, h4⟩ := h.c3 j c hj'
        refine ⟨m, h1, h2, ?_, h4⟩
        rw [go, if_neg ?_]
        · exact h3
        · rintro rfl; omega
      · obtain rfl : j = i := by omega
        refine ⟨k, hki, hk17, by rw [go, if_pos rfl], ?_⟩
        rw [hke, (h.hi j (Nat.le_refl _)).1]
    · simp only [go] at hj hjm
      by_cases c : k = j <;> by_cases c' : k = m
      · omega
      · rw [if_pos c, if_neg c'] at hjm; have := (h.ot m (by omega)).2.2.1; omega
      · rw [if_neg c, if_pos c'] at hjm; rw [if_neg c] at hj; have := (h.ot j hj).2.2.1; omega
      · rw [if_neg c] at hj; rw [if_neg c, if_neg c'] at hjm; exact h.oi j m hj hjm
    · have := h.len; rw [hlast] at this; exact this
  split at hs
  · -- an end
    rename_i hgood ho h18 h19
    rcases last_cases s.op with hnil | ⟨ys, k, hlast⟩
    · rw [hnil] at hs; cases hs
    rw [hlast, List.getLast?_concat] at hs
    simp only at hs
    cases hs
    obtain ⟨hki, hko, hke⟩ := h.mem (k := k) (by rw [hlast]; simp)
    have hnd : (ys ++ [k]).Nodup := by rw [← hlast, h.op]; exact List.nodup_range.filter _
    have hky : k ∉ ys := fun hm => by
      have := (List.nodup_append.1 hnd).2.2 k hm k (by simp)
      exact this rfl
    -- the ends behind
    have ge : ∀ j, g (endSet s i k) j = if j = k then (i : Int) else if j = i then (k : Int) else if 0 ≤ g s.other k ∧ (j : Int) = g s.other k then (i : Int) else g s.ends j := fun j => by
      unfold endSet
      split
      · rename_i hg
        obtain ⟨_, b, c, _, _⟩ := h.ot k (by omega)
        rw [g_set, g_set, g_set]
        simp only [List.length_set, h.e]
        repeat' split
        all_goals omega
      · rename_i hg
        rw [g_set, g_set]
        simp only [List.length_set, h.e]
        repeat' split
        all_goals omega
    have hoth : 0 ≤ g s.other k → (k : Int) < g s.other k ∧ g s.other k < i ∧ opAt l (g s.other k).toNat = 18 := fun hg => ⟨(h.ot k hg).2.1, (h.ot k hg).2.2.1, (h.ot k hg).2.2.2.1⟩
    -- ends of openers other than k stay
    have gopn : ∀ j, j ≠ k → opnP (opAt l j) → g (endSet s i k) j = g s.ends j := fun j hj hoj => by
      rw [ge, if_neg hj, if_neg (by rintro rfl; rw [hop] at hoj; simp only [opnP] at hoj; omega), if_neg]
      rintro ⟨h1, h2⟩
      have := (hoth h1).2.2
      rw [← h2, show (j : Int).toNat = j by omega] at this
      simp only [opnP] at hoj; omega
    refine ⟨by omega, by unfold endSet; split <;> simp [h.e], h.o, by simp [h.p], ?_, fun j hj => ⟨?_, (h.hi j (by omega)).2⟩, fun j => ⟨?_, (h.mo j).2⟩, fun j hj => ?_, fun j hj hj' => ?_, fun j hj hj' => ?_, fun j hj hj' => ?_, h.oi, ?_⟩
    · show (ys ++ [k]).dropLast = (List.range (i + 1)).filter fun j => decide (opnP (opAt l j) ∧ g (endSet s i k) j = -1)
      rw [List.dropLast_concat]
      have e1 : (List.range (i + 1)).filter (fun j => decide (opnP (opAt l j) ∧ g (endSet s i k) j = -1)) = ((List.range i).filter fun j => decide (opnP (opAt l j) ∧ g s.ends j = -1)).filter fun j => decide (j ≠ k) := by
        rw [List.filter_filter, List.range_succ, List.filter_append]
        have e2 : [i].filter (fun j => decide (opnP (opAt l j) ∧ g (endSet s i k) j = -1)) = [] := by
          simp only [List.filter_cons, List.filter_nil]
          rw [if_neg]
          rw [hop]; simp [ho]
        rw [e2, List.append_nil]
        refine List.filter_congr fun j hj => ?_
        by_cases c : j = k
        · subst c
          rw [ge, if_pos rfl]
          simp
        · by_cases c2 : opnP (opAt l j)
          · rw [gopn j c c2]; simp [c]
          · simp [c2]
      rw [e1, ← h.op, hlast, List.filter_append]
      have e3 : ys.filter (fun j => decide (j ≠ k)) = ys := List.filter_eq_self.2 fun j hj => decide_eq_true (by rintro rfl; exact hky hj)
      rw [e3]; simp
    · rw [ge, if_neg (by omega), if_neg (by omega), if_neg]
      · exact (h.hi j (by omega)).1
      · rintro ⟨h1, h2⟩; have := (hoth h1).2.1; omega
    · rw [ge]; repeat' split
      all_goals first | omega | exact (h.mo j).1
    · obtain ⟨a, b, c, d, e⟩ := h.ot j hj
      refine ⟨a, b, (by show g s.other j < ((i + 1 : Nat) : Int); omega), d, ?_⟩
      by_cases c2 : j = k
      · subst c2; rw [ge, if_pos rfl]; right; omega
      · rw [gopn j c2 (by rw [a]; simp [opnP])]; exact e
    · by_cases c2 : j = k
      · subst c2
        rw [ge, if_pos rfl]
        refine ⟨by omega, by omega, by rw [show (i : Int).toNat = i by omega, hop]; exact h19, ?_⟩
        rw [show (i : Int).toNat = i by omega, ge, if_neg (by omega), if_pos rfl]
      · rw [gopn j c2 hj] at hj' ⊢
        obtain ⟨a, b, c, d⟩ := h.c1 j hj hj'
        refine ⟨a, by omega, c, ?_⟩
        rw [ge, if_neg, if_neg (by omega), if_neg]
        · exact d
        · rintro ⟨h1, h2⟩
          have := (hoth h1).2.2
          rw [← h2, show ((g s.ends j).toNat : Int).toNat = (g s.ends j).toNat by omega, c] at this
          omega
        · intro h2; rw [h2] at c; simp only [opnP] at hko; omega
    · rcases Nat.lt_or_ge j i with c | c
      · obtain ⟨a, b, c', d⟩ := h.c2 j c hj'
        have hjk : j ≠ k := by rintro rfl; simp only [opnP] at hko; omega
        have hne : ∀ h1 : 0 ≤ g s.other k ∧ (j : Int) = g s.other k, False := fun ⟨h1, h2⟩ => by
          have := (hoth h1).2.2
          rw [← h2, show (j : Int).toNat = j by omega] at this; omega
        have e1 : g (endSet s i k) j = g s.ends j := by
          rw [ge, if_neg hjk, if_neg (by omega), if_neg hne]
        rw [e1]
        refine ⟨a, b, c', ?_⟩
        have hne2 : (g s.ends j).toNat ≠ k := by
          intro h2; rw [h2, hke] at d; omega
        rw [gopn _ hne2 c']; exact d
      · obtain rfl : j = i := by omega
        rw [ge, if_neg (by omega), if_pos rfl]
        refine ⟨by omega, by omega, by rw [show (k : Int).toNat = k by omega]; exact hko, ?_⟩
        rw [show (k : Int).toNat = k by omega, ge, if_pos rfl]
    · rcases Nat.lt_or_ge j i with c | c
      · obtain ⟨m, h1, h2, h3, h4⟩ := h.c3 j c hj'
        refine ⟨m, h1, h2, h3, ?_⟩
        have hjk : j ≠ k := by rintro rfl; simp only [opnP] at hko; omega
        by_cases c2 : m = k
        · subst c2
          rw [ge m, if_pos rfl, ge, if_neg hjk, if_neg (by omega), if_pos ⟨by omega, by omega⟩]
        · rw [gopn m c2 (by rw [h2]; simp [opnP]), ge, if_neg hjk, if_neg (by omega), if_neg]
          · exact h4
          · rintro ⟨h5, h6⟩
            -- two ifs with one else
            exact c2 (h.oi k m h5 (by omega)).symm
      · obtain rfl : j = i := by omega
        rw [hop] at hj'; omega
    · have := h.len; rw [hlast] at this; simp only [hlast, List.dropLast_concat, List.length_append, List.length_cons, List.length_nil] at this ⊢; omega
  · -- nothing
    rename_i hgood ho h18 h19
    cases hs
    refine ⟨by omega, h.e, h.o, by simp [h.p], ?_, fun k hk => h.hi k (by omega), h.mo, fun k hk => ?_, fun k hk hk' => ?_, fun k hk hk' => ?_, fun k hk hk' => ?_, h.oi, h.len⟩
    · rw [range_filter_succ (p := fun k => decide (opnP (opAt l k) ∧ g s.ends k = -1)) (fun k _ => rfl), ← h.op, if_neg (by rw [hop]; simp [ho])]
      simp
    · obtain ⟨a, b, c, d⟩ := h.ot k hk; exact ⟨a, b, (by show g s.other k < ((i + 1 : Nat) : Int); omega), d⟩
    · obtain ⟨a, b, c⟩ := h.c1 k hk hk'; exact ⟨a, (by show g s.ends k < ((i + 1 : Nat) : Int); omega), c⟩
    · rcases Nat.lt_or_ge k i with c | c
      · exact h.c2 k c hk'
      · obtain rfl : k = i := by omega
        rw [hop] at hk'; omega
    · rcases Nat.lt_or_ge k i with c | c
      · exact h.c3 k c hk'
      · obtain rfl : k = i := by omega
        rw [hop] at hk'; omega
end Go.Tree.M

/- Code within code: both programs' walks. -/
namespace Go.Tree.M
open Go.Proofs
set_option linter.unusedVariables false
set_option linter.unusedSimpArgs false
abbrev cN (xs : List Nat) : List Int := xs.map (fun (k : Nat) => (k : Int))
abbrev rowN (o : List Nat) : TV := rI false (cN o)
abbrev eSh (q : Bool) (l : List W) (s : Sh) : TV := .st [rW true q l, rI false s.ends, rI false s.other, sl false ⟨1, true⟩ (s.opens.map rowN)]
def smallL (l : List W) : Prop := l.length ≤ big ∧ ∀ x ∈ l, x.tb.length ≤ big
theorem getD_g {v : List Int} {k : Nat} (h : k < v.length) : (v.map i64).getD (0 + ((k : Nat) : Int).toNat) (.dead ()) = i64 (g v k) := getD_at (g_at h)
theorem set_N {v : List Int} {k : Nat} {n : Int} : (v.map i64).set (0 + ((k : Nat) : Int).toNat) (i64 n) = (v.set k n).map i64 := by
  rw [show 0 + ((k : Nat) : Int).toNat = k by omega, List.map_set]
theorem getD_W {q : Bool} {l : List W} {k : Nat} (h : k < l.length) : (l.map (eW q)).getD (0 + ((k : Nat) : Int).toNat) (.dead ()) = eW q (l.getD k default) :=
  getD_at (by rw [List.getD_eq_getElem?_getD, List.getElem?_eq_getElem h]; rfl)
theorem lenN (o : List Nat) : ((cN o).map i64).length = o.length := by rw [List.length_map, List.length_map]
theorem cN_app (xs ys : List Nat) : cN (xs ++ ys) = cN xs ++ cN ys := List.map_append
theorem last_at {ys : List Nat} {k : Nat} (h : ys.length ≤ 1073741824) : ((cN (ys ++ [k])).map i64).getD (0 + (w64 (((((cN (ys ++ [k])).map i64).length : Nat) : Int) - 1)).toNat) (.dead ()) = i64 k := by
  rw [lenN, List.length_append, List.length_cons, List.length_nil, w64_id (by omega) (by omega), show 0 + (((ys.length + (0 + 1) : Nat) : Int) - 1).toNat = ys.length by omega, cN_app, List.map_append, List.getD_eq_getElem?_getD, List.getElem?_append_right (by rw [lenN]; exact Nat.le_refl _), lenN, Nat.sub_self]
  rfl
theorem last_ck {ys : List Nat} {k : Nat} (h : ys.length ≤ 1073741824) : (decide ((0 : Int) ≤ w64 (((((cN (ys ++ [k])).map i64).length : Nat) : Int) - 1)) && decide (w64 (((((cN (ys ++ [k])).map i64).length : Nat) : Int) - 1) < ((((cN (ys ++ [k])).map i64).length : Nat) : Int))) = true := by
  rw [lenN, List.length_append, List.length_cons, List.length_nil, w64_id (by omega) (by omega)]
  exact dT2 (by omega)
theorem last_ck' {ys : List Nat} {k : Nat} (h : ys.length ≤ 1073741824) : (decide ((0 : Int) ≤ w64 (((((cN (ys ++ [k])).map i64).length : Nat) : Int) - 1)) && decide (w64 (((((cN (ys ++ [k])).map i64).length : Nat) : Int) - 1) ≤ ((((cN (ys ++ [k])).map i64).length : Nat) : Int))) = true := by
  rw [lenN, List.length_append, List.length_cons, List.length_nil, w64_id (by omega) (by omega)]
  exact dT2 (by omega)
theorem init_at {ys : List Nat} {k : Nat} (h : ys.length ≤ 1073741824) : (((cN (ys ++ [k])).map i64).drop 0).take ((w64 (((((cN (ys ++ [k])).map i64).length : Nat) : Int) - 1) - 0).toNat) = (cN ys).map i64 := by
  rw [lenN, List.length_append, List.length_cons, List.length_nil, w64_id (by omega) (by omega), show (((ys.length + (0 + 1) : Nat) : Int) - 1 - 0).toNat = ys.length by omega, List.drop_zero, cN_app, List.map_append, List.take_left' (by rw [lenN])]
theorem push_N {o : List Nat} {i : Nat} : (cN o).map i64 ++ [i64 (i : Int)] = (cN (o ++ [i])).map i64 := by simp
theorem drop_at {β : Type} {xs : List β} {j : Nat} {x : β} (h : xs[j]? = some x) : xs.drop j = x :: xs.drop (j + 1) := by
  have hlt := lt_of_at h
  rw [List.drop_eq_getElem_cons hlt]
  rw [List.getElem?_eq_getElem hlt] at h
  rw [Option.some.inj h]
/-- What the program answers. -/
def shRes (l : List W) (r : Option Sh) : Res := match r with | some s => ([.pt false () (eSh false l s)], []) | none => ([tnil], [])
set_option maxHeartbeats 1000000 in
theorem loop142 (l : List W) (hl : smallL l) (h60 : l.length ≤ 60) (hg : ∀ x ∈ l, stepP x) : ∀ (d i : Nat) (s : Sh), l.length - i = d → ShI l i s →
    S cx 142 (H142_1 (l.map (eW false)) (s.ends.map i64) (s.other.map i64) (s.opens.map rowN) ((cN s.op).map i64) i) = some (shRes l (shGo l (l.drop i) i s)) := by
  have e1 : (l.map (eW false)).length = l.length := List.length_map _
  intro d
  induction d with
  | zero =>
    intro i s hd h
    have hi : i = l.length := by have := h.le; omega
    rw [hi, List.drop_length]
    refine eH142_1 (bif_neg (dF (by omega)) ?_)
    rw [shGo]
    by_cases c : s.op.length = 0
    · rw [if_pos c]
      exact bif_neg (dF (by rw [lenN]; omega)) rfl
    · rw [if_neg c]
      exact bif_pos (dT (by rw [lenN]; omega)) rfl
  | succ d ih =>
    intro i s hd h
    obtain ⟨x, hx⟩ := at_some (show i < l.length by omega)
    have hxs := hl.2 x (List.mem_of_getElem? hx)
    have hxg := hg x (List.mem_of_getElem? hx)
    have hlen := h.len
    have eo := h.o
    have ee := h.e
    have ep := h.p
    have el : (s.opens.map rowN).length = l.length := by rw [List.length_map, ep]
    have eoi : (s.other.map i64).length = l.length := by rw [List.length_map, eo]
    have eei : (s.ends.map i64).length = l.length := by rw [List.length_map, ee]
    rw [drop_at hx, shGo]
    -- the step's code
    have key : S cx 142 (NH142_1_s0 (l.map (eW false)) (s.ends.map i64) (s.other.map i64) (s.opens.map rowN) ((cN s.op).map i64) i x.op x.n (x.tb.map i64)) = some (shRes l (match shStep l i x s with | none => none | some s' => shGo l (l.drop (i + 1)) (i + 1) s')) := by
      rw [NH142_1_s0, C129_S (t129 (cN s.op) (by rw [List.length_map]; show s.op.length ≤ 1073741824; omega))]
      refine ck_pos (dT2 (by omega)) (eG142_2 ?_)
      obtain ⟨dp, hdp, hdq⟩ := t170 x hxg
      rw [NG142_2, C170_S hdp]
      have hin := hdq s.op.length (by omega)
      have eset : (s.opens.map rowN).set (0 + ((i : Nat) : Int).toNat) (sl false ⟨1, false⟩ ((cN s.op).map i64)) = (s.opens.set i s.op).map rowN := by
        rw [show 0 + ((i : Nat) : Int).toNat = i by omega, List.map_set]
      rw [eset]
      by_cases c0 : inP x s.op.length
      · rw [shStep, if_neg (by simp [hxg, c0])]
        refine bif_neg (dF (by have := hin.2 c0; rw [lenN]; omega)) ?_
        rw [C171_S (t171 x.op)]
        by_cases c1 : opnP x.op
        · refine bif_pos (dT c1) (ck_pos ?_ ?_)
          · exact dT (by have hlim : lim = 140737488355328 := rfl; rw [hlim, lenN]; simp; omega)
          · rw [if_pos c1, push_N, lenN, List.length_append, List.length_cons, List.length_nil]
            by_cases c2 : s.op.length = 8
            · rw [if_pos c2]
              exact bif_pos (dT (by omega)) rfl
            · rw [if_neg c2]
              refine bif_neg (dF (by omega)) (back_of ?_)
              rw [inc64 (n := l.length) (by omega) hl.1]
              refine ih (i + 1) ⟨s.ends, s.other, s.opens.set i s.op, s.op ++ [i]⟩ (by omega) (h.step hx ?_)
              rw [shStep, if_neg (by simp [hxg, c0]), if_pos c1, if_neg c2]
        · refine bif_neg (dF c1) ?_
          rw [if_neg c1]
          by_cases c2 : x.op = 18
          · refine bif_pos (by simpa using c2) ?_
            rw [if_pos c2]
            rcases last_cases s.op with hnil | ⟨ys, k, hlast⟩
            · rw [hnil]
              exact bif_pos (by decide) rfl
            · have hst : shStep l i x s = (if opAt l k ≠ 17 ∨ g s.other k ≥ 0 then none else some ⟨s.ends, s.other.set k i, s.opens.set i (ys ++ [k]), ys ++ [k]⟩) := by rw [shStep, if_neg (by simp [hxg, c0]), if_neg c1, if_pos c2, hlast, List.getLast?_concat]
              obtain ⟨hki, hko, hke⟩ := h.mem (k := k) (by rw [hlast]; simp)
              rw [hlast, List.length_append, List.length_cons, List.length_nil] at hlen
              rw [hlast, List.getLast?_concat]
              refine bif_neg (dF (by rw [lenN, List.length_append, List.length_cons, List.length_nil, w64_id (by omega) (by omega)]; omega)) (ck_pos (last_ck (by omega)) ?_)
              rw [last_at (by omega), S_int]
              refine ck_pos (dT2 (by omega)) ?_
              rw [getD_W (by omega), V3_S]
              by_cases c3 : opAt l k = 17
              · refine bif_neg (by rw [bne_eq_false_iff_eq]; exact c3) (ck_pos (last_ck (by omega)) ?_)
                rw [S_int]
                refine ck_pos (dT2 (by omega)) ?_
                rw [getD_g (by omega), S_int]
                by_cases c4 : g s.other k ≥ 0
                · simp only [if_pos (show opAt l k ≠ 17 ∨ g s.other k ≥ 0 from .inr c4)]
                  exact bif_pos (dT c4) rfl
                · simp only [if_neg (show ¬ (opAt l k ≠ 17 ∨ g s.other k ≥ 0) from fun h => h.elim (fun h => h c3) c4)] at hst ⊢
                  refine bif_neg (dF c4) (ck_pos (last_ck (by omega)) ?_)
                  rw [S_int]
                  refine ck_pos (dT2 (by omega)) (back_of ?_)
                  rw [set_N, inc64 (n := l.length) (by omega) hl.1]
                  exact ih (i + 1) ⟨s.ends, s.other.set k i, s.opens.set i (ys ++ [k]), ys ++ [k]⟩ (by omega) (h.step hx hst)
              · simp only [if_pos (show opAt l k ≠ 17 ∨ g s.other k ≥ 0 from .inl c3)]
                exact bif_pos (by rw [bne_iff_ne]; exact c3) rfl
          · refine bif_neg (by simpa using c2) ?_
            rw [if_neg c2]
            by_cases c3 : x.op = 19
            · refine bif_pos (by simpa using c3) ?_
              rw [if_pos c3]
              rcases last_cases s.op with hnil | ⟨ys, k, hlast⟩
              · rw [hnil]
                exact bif_pos (by decide) rfl
              · have hst : shStep l i x s = some ⟨endSet s i k, s.other, s.opens.set i (ys ++ [k]), (ys ++ [k]).dropLast⟩ := by rw [shStep, if_neg (by simp [hxg, c0]), if_neg c1, if_neg c2, if_pos c3, hlast, List.getLast?_concat]
                obtain ⟨hki, hko, hke⟩ := h.mem (k := k) (by rw [hlast]; simp)
                rw [hlast, List.length_append, List.length_cons, List.length_nil] at hlen
                rw [hlast, List.getLast?_concat]
                refine bif_neg (dF (by rw [lenN, List.length_append, List.length_cons, List.length_nil, w64_id (by omega) (by omega)]; omega)) (ck_pos (last_ck (by omega)) ?_)
                rw [last_at (by omega), S_int]
                refine ck_pos (dT2 (by omega)) ?_
                rw [set_N]
                refine ck_pos (dT2 (by rw [List.length_map, List.length_set, ee]; omega)) (ck_pos (dT2 (by omega)) ?_)
                rw [getD_g (by omega), S_int, set_N]
                have hfin : S cx 142 (G142_3 (l.map (eW false)) ((endSet s i k).map i64) (s.other.map i64) ((s.opens.set i (ys ++ [k])).map rowN) ((cN (ys ++ [k])).map i64) i) = some (shRes l (shGo l (l.drop (i + 1)) (i + 1) ⟨endSet s i k, s.other, s.opens.set i (ys ++ [k]), (ys ++ [k]).dropLast⟩)) := by
                  refine eG142_3 (ck_pos (last_ck' (by omega)) (back_of ?_))
                  rw [init_at (by omega), inc64 (n := l.length) (by omega) hl.1, List.dropLast_concat]
                  have := h.step hx hst
                  simp only [List.dropLast_concat] at this
                  exact ih (i + 1) ⟨endSet s i k, s.other, s.opens.set i (ys ++ [k]), ys⟩ (by omega) this
                by_cases c4 : g s.other k ≥ 0
                · obtain ⟨_, b1, b2, _, _⟩ := h.ot k c4
                  refine bif_pos (dT c4) (ck_pos (dT2 (by omega)) ?_)
                  rw [S_int]
                  refine ck_pos (dT2 (by rw [List.length_map, List.length_set, List.length_set, ee]; omega)) ?_
                  rw [set_I]
                  have : endSet s i k = ((s.ends.set i k).set k i).set (g s.other k).toNat i := by rw [endSet, if_pos c4]
                  rw [← this]
                  exact hfin
                · refine bif_neg (dF c4) ?_
                  have : endSet s i k = (s.ends.set i k).set k i := by rw [endSet, if_neg c4]
                  rw [← this]
                  exact hfin
            · refine bif_neg (by simpa using c3) (back_of ?_)
              rw [if_neg c3, inc64 (n := l.length) (by omega) hl.1]
              refine ih (i + 1) ⟨s.ends, s.other, s.opens.set i s.op, s.op⟩ (by omega) (h.step hx ?_)
              rw [shStep, if_neg (by simp [hxg, c0]), if_neg c1, if_neg c2, if_neg c3]
      · rw [shStep, if_pos (by simp [c0])]
        refine bif_pos (dT ?_) rfl
        rw [lenN]
        have := hin.1
        by_cases c5 : dp ≤ s.op.length
        · exact absurd (hin.1 c5) c0
        · omega
    refine eH142_1 (bif_pos (dT (by omega)) (ck_pos (dT2 (by omega)) ?_))
    rw [getD_at hx, V3_S]
    exact S_amb2 key key
/-- The shape of good code. -/
def shapeV (l : List W) : Option Sh := if l.length ≤ 60 ∧ ∀ x ∈ l, stepP x then shGo l l 0 ⟨List.replicate l.length (-1), List.replicate l.length (-1), List.replicate l.length [], []⟩ else none
theorem t142 (l : List W) (hl : smallL l) : tw cx 142 [rW true false l] = some (shRes l (shapeV l)) := by
  have e1 : (l.map (eW false)).length = l.length := List.length_map _
  have hb : l.length ≤ 1073741824 := hl.1
  refine e142 ?_
  unfold N142
  rw [e1]
  by_cases c60 : l.length ≤ 60
  · refine bif_neg (dF (by omega)) ?_
    rw [C166_S (t166 l hl.1 hl.2)]
    by_cases cg : ∀ x ∈ l, stepP x
    · have ha : (l.any fun x => !decide (stepP x)) = false := by
        have := not_any (xs := l) (p := stepP)
        rw [decide_eq_true cg] at this
        cases h : (l.any fun x => !decide (stepP x)) with
        | true => rw [h] at this; cases this
        | false => rfl
      refine bif_neg ha ?_
      have r : ∀ K, S cx 142 (C169 [i64 (-1)] (((l.map (eW false)).length : Nat) : Int) K) = S cx 142 (K ((List.replicate l.length (-1)).map i64)) := fun K => by
        rw [e1]; exact C169_S (t169 (-1) l.length hl.1)
      have hk := mk_ok (n := (l.map (eW false)).length) (B := 24) (by omega) (by omega)
      have hg0 : S cx 142 (G142_0 (l.map (eW false)) ((List.replicate l.length (-1)).map i64) ((List.replicate l.length (-1)).map i64)) = some (shRes l (shapeV l)) := by
        refine eG142_0 ?_
        have := loop142 l hl c60 cg l.length 0 _ (by omega) (sh0 l)
        rw [shapeV, if_pos ⟨c60, cg⟩]
        rw [NG142_0, e1, show ((l.length : Int)).toNat = l.length by omega]
        simp only [List.map_replicate, List.drop_zero, List.map_nil] at this ⊢
        exact this
      have s0 : S cx 142 (N142_s0 (l.map (eW false)) ((List.replicate l.length (-1)).map i64)) = some (shRes l (shapeV l)) := by rw [N142_s0, r]; exact hg0
      have s1 : S cx 142 (N142_s1 (l.map (eW false)) ((List.replicate l.length (-1)).map i64)) = some (shRes l (shapeV l)) := ck_pos hk s0
      have s2 : S cx 142 (N142_s2 (l.map (eW false)) ((List.replicate l.length (-1)).map i64)) = some (shRes l (shapeV l)) := by
        refine S_amb2 ?_ s1
        rw [r]; exact ck_pos hk hg0
      have s3 : S cx 142 (N142_s3 (l.map (eW false))) = some (shRes l (shapeV l)) := by rw [N142_s3, r]; exact s0
      have s4 : S cx 142 (N142_s4 (l.map (eW false))) = some (shRes l (shapeV l)) := ck_pos hk s3
      have s5 : S cx 142 (N142_s5 (l.map (eW false))) = some (shRes l (shapeV l)) := by
        refine S_amb2 ?_ s4
        rw [r]; exact s2
      have s6 : S cx 142 (N142_s6 (l.map (eW false))) = some (shRes l (shapeV l)) := S_amb2 s3 s3
      rw [← e1]
      refine S_amb3 (S_amb3 ?_ s5 (ck_pos hk s6)) (S_amb2 s5 s4) (ck_pos hk (S_amb2 s6 s3))
      rw [r]
      exact S_amb2 s2 s1
    · have ha : (l.any fun x => !decide (stepP x)) = true := by
        have := not_any (xs := l) (p := stepP)
        rw [decide_eq_false cg] at this
        cases h : (l.any fun x => !decide (stepP x)) with
        | true => rfl
        | false => rw [h] at this; cases this
      rw [shapeV, if_neg (fun h => cg h.2)]
      exact bif_pos ha rfl
  · rw [shapeV, if_neg (fun h => c60 h.1)]
    exact bif_pos (dT (by omega)) rfl
end Go.Tree.M

/- Code within code: the reference's walk. -/
namespace Go.Tree.M
open Go.Proofs
set_option linter.unusedVariables false
set_option linter.unusedSimpArgs false
theorem g_endSet {l : List W} {i : Nat} {s : Sh} (h : ShI l i s) (hil : i < l.length) {k : Nat} (hki : k < i) (j : Nat) : g (endSet s i k) j = if j = k then (i : Int) else if j = i then (k : Int) else if 0 ≤ g s.other k ∧ (j : Int) = g s.other k then (i : Int) else g s.ends j := by
  unfold endSet
  split
  · rename_i hg
    obtain ⟨_, b, c, _, _⟩ := h.ot k (by omega)
    rw [g_set, g_set, g_set]
    simp only [List.length_set, h.e]
    repeat' split
    all_goals omega
  · rename_i hg
    rw [g_set, g_set]
    simp only [List.length_set, h.e]
    repeat' split
    all_goals omega
/-- The reference's row of ends, so far. -/
structure Rel (i : Nat) (s : Sh) (out : List Int) : Prop where
  len : out.length = i
  at_ : ∀ k, k < i → g out k = if g s.ends k < 0 ∧ 0 ≤ g s.other k then g s.other k else g s.ends k
def An137 (l : List W) (r : Option Sh) (X : Res) : Prop :=
  match r with
  | some s => X = ([rI false s.ends, tb (decide (l.length ≤ 60))], [])
  | none => ∃ o : List Int, X = ([rI false o, tb false], [])
theorem g_app {xs : List Int} {v : Int} {k : Nat} : g (xs ++ [v]) k = if k = xs.length then v else g xs k := by
  simp only [g, List.getD_eq_getElem?_getD, List.getElem?_append]
  by_cases c : k < xs.length
  · rw [if_pos c, if_neg (by omega)]
  · rw [if_neg c]
    by_cases c2 : k = xs.length
    · subst c2; simp
    · rw [if_neg c2, List.getElem?_eq_none (by simp; omega), List.getElem?_eq_none (by omega)]
theorem ext_g {xs ys : List Int} (hl : xs.length = ys.length) (h : ∀ k, k < xs.length → g xs k = g ys k) : xs = ys := by
  refine List.ext_getElem hl fun k h1 h2 => ?_
  have := h k h1
  simp only [g, List.getD_eq_getElem?_getD, List.getElem?_eq_getElem h1, List.getElem?_eq_getElem h2, Option.getD_some] at this
  exact this
theorem none137 {l : List W} : An137 l none ([sl false ⟨1, false⟩ [], tb false], []) := ⟨[], rfl⟩
set_option maxHeartbeats 1000000 in
theorem loop137 (l : List W) (hl : smallL l) : ∀ (d i : Nat) (s : Sh) (out : List Int), l.length - i = d → ShI l i s → Rel i s out →
    ∃ res, S cx 137 (H137_0 (l.map (eW false)) (out.map i64) ((cN s.op).map i64) i) = some res ∧ An137 l (shGo l (l.drop i) i s) res := by
  have e1 : (l.map (eW false)).length = l.length := List.length_map _
  have hb : l.length ≤ 1073741824 := hl.1
  intro d
  induction d with
  | zero =>
    intro i s out hd h hr
    have hi : i = l.length := by have := h.le; omega
    rw [hi, List.drop_length, shGo]
    by_cases c : s.op.length = 0
    · rw [if_pos c]
      have eo : out = s.ends := ext_g (by rw [hr.len, h.e, hi]) fun k hk => by
        rw [hr.len] at hk
        rw [hr.at_ k hk, if_neg]
        rintro ⟨h1, h2⟩
        have h3 := h.ot k h2
        have h4 : g s.ends k = -1 := by have := (h.mo k).1; omega
        have : k ∈ s.op := by
          rw [h.op, List.mem_filter, List.mem_range]
          exact ⟨hk, decide_eq_true ⟨by rw [h3.1]; simp [opnP], h4⟩⟩
        rw [List.length_eq_zero_iff.1 c] at this
        cases this
      refine ⟨_, eH137_0 (bif_neg (dF (by omega)) (bif_pos ?_ rfl)), ?_⟩
      · rw [lenN, c]; rfl
      · have : decide ((((l.map (eW false)).length : Nat) : Int) ≤ 60) = decide (l.length ≤ 60) := by rw [e1]; simp; omega
        rw [this, eo]
        rfl
    · rw [if_neg c]
      exact ⟨_, eH137_0 (bif_neg (dF (by omega)) (bif_neg (by rw [lenN, beq_eq_false_iff_ne]; omega) rfl)), out, rfl⟩
  | succ d ih =>
    intro i s out hd h hr
    obtain ⟨x, hx⟩ := at_some (show i < l.length by omega)
    have hxs := hl.2 x (List.mem_of_getElem? hx)
    have hlen := h.len
    have hlt := lt_of_at hx
    have hop := opAt_of hx
    have eol : (out.map i64).length = i := by rw [List.length_map, hr.len]
    have eo1 : (out ++ [-1]).length = i + 1 := by simp [hr.len]
    have eo2 : ((out ++ [-1]).map i64).length = i + 1 := by rw [List.length_map, eo1]
    have eapp : out.map i64 ++ [i64 (-1)] = (out ++ [-1]).map i64 := by simp
    have hlim : lim = 140737488355328 := rfl
    have hl1 : decide (((out.map i64).length + ([i64 (-1)] : List TV).length) * 8 < lim) = true := dT (by rw [hlim, eol]; simp; omega)
    have hoi : (h.hi i (Nat.le_refl _)).1 = (h.hi i (Nat.le_refl _)).1 := rfl
    obtain ⟨hi1, hi2⟩ := h.hi i (Nat.le_refl _)
    have go1 : ∀ k, k < i + 1 → g (out ++ [-1]) k = if g s.ends k < 0 ∧ 0 ≤ g s.other k then g s.other k else g s.ends k := fun k hk => by
      rw [g_app, hr.len]
      by_cases c : k = i
      · subst c; rw [if_pos rfl, hi1, hi2]; rfl
      · rw [if_neg c]; exact hr.at_ k (by omega)
    rw [drop_at hx, shGo]
    by_cases c0 : ¬ stepP x
    · rw [shStep, if_pos (fun h => c0 h.1)]
      refine ⟨_, eH137_0 (bif_pos (dT (by omega)) (ck_pos (dT2 (by omega)) ?_)), none137⟩
      rw [getD_at hx, V3_S]
      refine ck_pos hl1 ?_
      rw [C161_S (t161 x hxs)]
      exact bif_pos (by rw [decide_eq_false c0]; rfl) rfl
    have c0 := Decidable.not_not.1 c0
    by_cases c00 : ¬ inP x s.op.length
    · rw [shStep, if_pos (fun h => c00 h.2)]
      refine ⟨_, eH137_0 (bif_pos (dT (by omega)) (ck_pos (dT2 (by omega)) ?_)), none137⟩
      rw [getD_at hx, V3_S]
      refine ck_pos hl1 ?_
      rw [C161_S (t161 x hxs)]
      refine bif_neg (by rw [decide_eq_true c0]; rfl) ?_
      rw [lenN, C162_S (t162 x _ hxs)]
      exact bif_pos (by rw [decide_eq_false c00]; rfl) rfl
    have c00 := Decidable.not_not.1 c00
    have hs0 : ¬¬(stepP x ∧ inP x s.op.length) := fun h => h ⟨c0, c00⟩
    by_cases c1 : opnP x.op
    · by_cases c2 : s.op.length = 8
      · rw [shStep, if_neg hs0, if_pos c1, if_pos c2]
        refine ⟨_, eH137_0 (bif_pos (dT (by omega)) (ck_pos (dT2 (by omega)) ?_)), none137⟩
        rw [getD_at hx, V3_S]
        refine ck_pos hl1 ?_
        rw [C161_S (t161 x hxs)]
        refine bif_neg (by rw [decide_eq_true c0]; rfl) ?_
        rw [lenN, C162_S (t162 x _ hxs)]
        refine bif_neg (by rw [decide_eq_true c00]; rfl) ?_
        rw [C163_S (t163 x.op)]
        exact bif_pos (dT c1) (bif_pos (by rw [c2]; rfl) rfl)
      · have hst : shStep l i x s = some ⟨s.ends, s.other, s.opens.set i s.op, s.op ++ [i]⟩ := by
          rw [shStep, if_neg hs0, if_pos c1, if_neg c2]
        obtain ⟨res, q1, q2⟩ := ih (i + 1) _ (out ++ [-1]) (by omega) (h.step hx hst) ⟨eo1, go1⟩
        rw [hst]
        refine ⟨res, eH137_0 (bif_pos (dT (by omega)) (ck_pos (dT2 (by omega)) ?_)), q2⟩
        rw [getD_at hx, V3_S]
        refine ck_pos hl1 ?_
        rw [C161_S (t161 x hxs)]
        refine bif_neg (by rw [decide_eq_true c0]; rfl) ?_
        rw [lenN, C162_S (t162 x _ hxs)]
        refine bif_neg (by rw [decide_eq_true c00]; rfl) ?_
        rw [C163_S (t163 x.op)]
        refine bif_pos (dT c1) (bif_neg (by rw [beq_eq_false_iff_ne]; omega) (ck_pos (dT (by rw [hlim]; simp; omega)) (back_of ?_)))
        rw [eapp, push_N, inc64 (n := l.length) hlt hb]
        exact q1
    by_cases c2 : x.op = 18
    · rcases last_cases s.op with hnil | ⟨ys, k, hlast⟩
      · rw [shStep, if_neg hs0, if_neg c1, if_pos c2, hnil]
        refine ⟨_, eH137_0 (bif_pos (dT (by omega)) (ck_pos (dT2 (by omega)) ?_)), none137⟩
        rw [getD_at hx, V3_S]
        refine ck_pos hl1 ?_
        rw [C161_S (t161 x hxs)]
        refine bif_neg (by rw [decide_eq_true c0]; rfl) ?_
        rw [← hnil, lenN, C162_S (t162 x _ hxs)]
        refine bif_neg (by rw [decide_eq_true c00]; rfl) ?_
        rw [C163_S (t163 x.op)]
        refine bif_neg (dF c1) (bif_pos (by simpa using c2) (bif_pos (by rw [hnil]; rfl) rfl))
      · obtain ⟨hki, hko, hke⟩ := h.mem (k := k) (by rw [hlast]; simp)
        have hyl : ys.length ≤ 1073741824 := by rw [hlast] at hlen; simp at hlen; omega
        have gk : g (out ++ [-1]) k = g s.other k := by
          rw [go1 k (by omega), hke]
          have := (h.mo k).2
          split
          · rfl
          · omega
        -- up to the innermost one
        have pre : ∀ {res : Res}, S cx 137 (.int .i64 (i64 (k : Int)) fun x_34 =>
              .ck (decide ((0 : Int) ≤ x_34) && decide (x_34 < (((l.map (eW false)).length : Nat) : Int))) <|
              V3 ((l.map (eW false)).getD (0 + x_34.toNat) (.dead ())) fun op_ba n_54 tables_ff =>
              .bif (op_ba != 17)
              (.ret [sl false ⟨1, false⟩ ([]), tb false] [])
              (.ck (decide ((0 : Int) ≤ w64 (((((cN (ys ++ [k])).map i64).length : Nat) : Int) - 1)) && decide (w64 (((((cN (ys ++ [k])).map i64).length : Nat) : Int) - 1) < ((((cN (ys ++ [k])).map i64).length : Nat) : Int))) <|
                .int .i64 (i64 (k : Int)) fun x_2 =>
                .ck (decide ((0 : Int) ≤ x_2) && decide (x_2 < ((((out ++ [-1]).map i64).length : Nat) : Int))) <|
                .int .i64 (((out ++ [-1]).map i64).getD (0 + x_2.toNat) (.dead ())) fun x_7c =>
                .bif (decide (x_7c ≥ 0))
                (.ret [sl false ⟨1, false⟩ ([]), tb false] [])
                (.ck (decide ((0 : Int) ≤ w64 (((((cN (ys ++ [k])).map i64).length : Nat) : Int) - 1)) && decide (w64 (((((cN (ys ++ [k])).map i64).length : Nat) : Int) - 1) < ((((cN (ys ++ [k])).map i64).length : Nat) : Int))) <|
                  .int .i64 (i64 (k : Int)) fun x_3 =>
                  .ck (decide ((0 : Int) ≤ x_3) && decide (x_3 < ((((out ++ [-1]).map i64).length : Nat) : Int))) <|
                  B137_0 (l.map (eW false)) (((out ++ [-1]).map i64).set (0 + x_3.toNat) (i64 i)) ((cN (ys ++ [k])).map i64) (w64 (i + 1))))) = some res → S cx 137 (H137_0 (l.map (eW false)) (out.map i64) ((cN s.op).map i64) i) = some res := fun {res} hh => by
          refine eH137_0 (bif_pos (dT (by omega)) (ck_pos (dT2 (by omega)) ?_))
          rw [getD_at hx, V3_S]
          refine ck_pos hl1 ?_
          rw [C161_S (t161 x hxs)]
          refine bif_neg (by rw [decide_eq_true c0]; rfl) ?_
          rw [lenN, C162_S (t162 x _ hxs)]
          refine bif_neg (by rw [decide_eq_true c00]; rfl) ?_
          rw [C163_S (t163 x.op)]
          refine bif_neg (dF c1) (bif_pos (by simpa using c2) (bif_neg (by rw [hlast, beq_eq_false_iff_ne]; simp; omega) ?_))
          rw [← lenN s.op, hlast, eapp]
          refine ck_pos (last_ck hyl) ?_
          rw [last_at hyl]
          exact hh
        by_cases c3 : opAt l k = 17
        · by_cases c4 : g s.other k ≥ 0
          · rw [shStep, if_neg hs0, if_neg c1, if_pos c2, hlast, List.getLast?_concat]
            simp only [if_pos (show opAt l k ≠ 17 ∨ g s.other k ≥ 0 from .inr c4)]
            rw [← hlast]
            refine ⟨_, pre ?_, none137⟩
            rw [S_int]
            refine ck_pos (dT2 (by omega)) ?_
            rw [getD_W (by omega), V3_S]
            refine bif_neg (by rw [bne_eq_false_iff_eq]; exact c3) (ck_pos (last_ck hyl) ?_)
            rw [S_int]
            refine ck_pos (dT2 (by omega)) ?_
            rw [getD_g (by omega), S_int, gk]
            exact bif_pos (dT c4) rfl
          · have hst : shStep l i x s = some ⟨s.ends, s.other.set k i, s.opens.set i (ys ++ [k]), ys ++ [k]⟩ := by
              rw [shStep, if_neg hs0, if_neg c1, if_pos c2, hlast, List.getLast?_concat]
              simp only [if_neg (show ¬ (opAt l k ≠ 17 ∨ g s.other k ≥ 0) from fun h => h.elim (fun h => h c3) c4)]
            obtain ⟨res, q1, q2⟩ := ih (i + 1) _ ((out ++ [-1]).set k i) (by omega) (h.step hx hst) ⟨by rw [List.length_set, eo1], fun j hj => by
              rw [g_set, eo1, go1 j hj]
              show _ = if g s.ends j < 0 ∧ 0 ≤ g (s.other.set k i) j then g (s.other.set k i) j else g s.ends j
              rw [g_set, h.o]
              by_cases cj : k = j
              · subst cj
                repeat' split
                all_goals omega
              · repeat' split
                all_goals omega⟩
            rw [hst]
            refine ⟨res, pre ?_, q2⟩
            rw [S_int]
            refine ck_pos (dT2 (by omega)) ?_
            rw [getD_W (by omega), V3_S]
            refine bif_neg (by rw [bne_eq_false_iff_eq]; exact c3) (ck_pos (last_ck hyl) ?_)
            rw [S_int]
            refine ck_pos (dT2 (by omega)) ?_
            rw [getD_g (by omega), S_int, gk]
            refine bif_neg (dF c4) (ck_pos (last_ck hyl) ?_)
            rw [S_int]
            refine ck_pos (dT2 (by omega)) (back_of ?_)
            rw [set_N, inc64 (n := l.length) hlt hb]
            exact q1
        · rw [shStep, if_neg hs0, if_neg c1, if_pos c2, hlast, List.getLast?_concat]
          simp only [if_pos (show opAt l k ≠ 17 ∨ g s.other k ≥ 0 from .inl c3)]
          rw [← hlast]
          refine ⟨_, pre ?_, none137⟩
          rw [S_int]
          refine ck_pos (dT2 (by omega)) ?_
          rw [getD_W (by omega), V3_S]
          exact bif_pos (by rw [bne_iff_ne]; exact c3) rfl
    by_cases c3 : x.op = 19
    · rcases last_cases s.op with hnil | ⟨ys, k, hlast⟩
      · rw [shStep, if_neg hs0, if_neg c1, if_neg c2, if_pos c3, hnil]
        refine ⟨_, eH137_0 (bif_pos (dT (by omega)) (ck_pos (dT2 (by omega)) ?_)), none137⟩
        rw [getD_at hx, V3_S]
        refine ck_pos hl1 ?_
        rw [C161_S (t161 x hxs)]
        refine bif_neg (by rw [decide_eq_true c0]; rfl) ?_
        rw [← hnil, lenN, C162_S (t162 x _ hxs)]
        refine bif_neg (by rw [decide_eq_true c00]; rfl) ?_
        rw [C163_S (t163 x.op)]
        refine bif_neg (dF c1) (bif_neg (by simpa using c2) (bif_pos (by simpa using c3) (bif_pos (by rw [hnil]; rfl) rfl)))
      · obtain ⟨hki, hko, hke⟩ := h.mem (k := k) (by rw [hlast]; simp)
        have hyl : ys.length ≤ 1073741824 := by rw [hlast] at hlen; simp at hlen; omega
        have gk : g (out ++ [-1]) k = g s.other k := by
          rw [go1 k (by omega), hke]
          have := (h.mo k).2
          split
          · rfl
          · omega
        have hst : shStep l i x s = some ⟨endSet s i k, s.other, s.opens.set i (ys ++ [k]), ys⟩ := by
          rw [shStep, if_neg hs0, if_neg c1, if_neg c2, if_pos c3, hlast, List.getLast?_concat]
          simp only [List.dropLast_concat]
        have hI := h.step hx hst
        -- the new rows are alike
        have hrel : ∀ o' : List Int, o'.length = i + 1 → (∀ j, j < i + 1 → g o' j = if j = k then (i : Int) else if j = i then (k : Int) else if 0 ≤ g s.other k ∧ (j : Int) = g s.other k then (i : Int) else g (out ++ [-1]) j) → Rel (i + 1) ⟨endSet s i k, s.other, s.opens.set i (ys ++ [k]), ys⟩ o' := fun o' ho hj => ⟨ho, fun j hji => by
          rw [hj j hji]
          show _ = if g (endSet s i k) j < 0 ∧ 0 ≤ g s.other j then g s.other j else g (endSet s i k) j
          rw [g_endSet h hlt hki]
          have hgo := go1 j hji
          by_cases j1 : j = k
          · simp only [if_pos j1]; rw [if_neg (by omega)]
          · simp only [if_neg j1]
            by_cases j2 : j = i
            · simp only [if_pos j2]; rw [if_neg (by omega)]
            · simp only [if_neg j2]
              by_cases j3 : 0 ≤ g s.other k ∧ (j : Int) = g s.other k
              · simp only [if_pos j3]; rw [if_neg (by omega)]
              · simp only [if_neg j3]; exact hgo⟩
        have hG : ∀ (o' : List Int) {res : Res}, o'.length = i + 1 → S cx 137 (H137_0 (l.map (eW false)) (((o'.set k i).set i k).map i64) ((cN ys).map i64) ((i + 1 : Nat) : Int)) = some res → S cx 137 (G137_1 (l.map (eW false)) (o'.map i64) ((cN ys).map i64) i k) = some res := fun o' res ho hh => by
          refine eG137_1 (ck_pos (dT2 (by rw [List.length_map, ho]; omega)) ?_)
          rw [set_N]
          refine ck_pos (dT2 (by rw [List.length_map, List.length_set, ho]; omega)) (back_of ?_)
          rw [set_N, inc64 (n := l.length) hlt hb]
          exact hh
        have pre : ∀ {res : Res}, S cx 137 (.ck (decide ((0 : Int) ≤ (k : Int)) && decide ((k : Int) < ((((out ++ [-1]).map i64).length : Nat) : Int))) <|
              .int .i64 (((out ++ [-1]).map i64).getD (0 + (k : Int).toNat) (.dead ())) fun x_04 =>
              .bif (decide (x_04 ≥ 0))
              (.ck (decide ((0 : Int) ≤ (k : Int)) && decide ((k : Int) < ((((out ++ [-1]).map i64).length : Nat) : Int))) <|
                .int .i64 (((out ++ [-1]).map i64).getD (0 + (k : Int).toNat) (.dead ())) fun x_2 =>
                .ck (decide ((0 : Int) ≤ x_2) && decide (x_2 < ((((out ++ [-1]).map i64).length : Nat) : Int))) <|
                G137_1 (l.map (eW false)) (((out ++ [-1]).map i64).set (0 + x_2.toNat) (i64 i)) ((cN ys).map i64) i k)
              (G137_1 (l.map (eW false)) ((out ++ [-1]).map i64) ((cN ys).map i64) i k)) = some res → S cx 137 (H137_0 (l.map (eW false)) (out.map i64) ((cN s.op).map i64) i) = some res := fun {res} hh => by
          refine eH137_0 (bif_pos (dT (by omega)) (ck_pos (dT2 (by omega)) ?_))
          rw [getD_at hx, V3_S]
          refine ck_pos hl1 ?_
          rw [C161_S (t161 x hxs)]
          refine bif_neg (by rw [decide_eq_true c0]; rfl) ?_
          rw [lenN, C162_S (t162 x _ hxs)]
          refine bif_neg (by rw [decide_eq_true c00]; rfl) ?_
          rw [C163_S (t163 x.op)]
          refine bif_neg (dF c1) (bif_neg (by simpa using c2) (bif_pos (by simpa using c3) (bif_neg (by rw [hlast, beq_eq_false_iff_ne]; simp; omega) ?_)))
          rw [← lenN s.op, hlast, eapp]
          refine ck_pos (last_ck hyl) ?_
          rw [last_at hyl, S_int]
          refine ck_pos (last_ck' hyl) ?_
          rw [init_at hyl]
          exact hh
        rw [hst]
        by_cases c4 : g s.other k ≥ 0
        · obtain ⟨_, b1, b2, _, _⟩ := h.ot k c4
          obtain ⟨res, q1, q2⟩ := ih (i + 1) _ ((((out ++ [-1]).set (g s.other k).toNat i).set k i).set i k) (by omega) hI (hrel _ (by simp [hr.len]) fun j hj => by
            rw [g_set, g_set, g_set]
            simp only [List.length_set, eo1]
            repeat' split
            all_goals omega)
          refine ⟨res, pre ?_, q2⟩
          refine ck_pos (dT2 (by omega)) ?_
          rw [getD_g (by omega), S_int, gk]
          refine bif_pos (dT c4) (ck_pos (dT2 (by omega)) ?_)
          rw [S_int]
          refine ck_pos (dT2 (by omega)) ?_
          rw [set_I]
          exact hG _ (by simp [hr.len]) q1
        · obtain ⟨res, q1, q2⟩ := ih (i + 1) _ (((out ++ [-1]).set k i).set i k) (by omega) hI (hrel _ (by simp [hr.len]) fun j hj => by
            rw [g_set, g_set]
            simp only [List.length_set, eo1]
            repeat' split
            all_goals omega)
          refine ⟨res, pre ?_, q2⟩
          refine ck_pos (dT2 (by omega)) ?_
          rw [getD_g (by omega), S_int, gk]
          exact bif_neg (dF c4) (hG _ eo1 q1)
    · have hst : shStep l i x s = some ⟨s.ends, s.other, s.opens.set i s.op, s.op⟩ := by
        rw [shStep, if_neg hs0, if_neg c1, if_neg c2, if_neg c3]
      obtain ⟨res, q1, q2⟩ := ih (i + 1) _ (out ++ [-1]) (by omega) (h.step hx hst) ⟨eo1, go1⟩
      rw [hst]
      refine ⟨res, eH137_0 (bif_pos (dT (by omega)) (ck_pos (dT2 (by omega)) ?_)), q2⟩
      rw [getD_at hx, V3_S]
      refine ck_pos hl1 ?_
      rw [C161_S (t161 x hxs)]
      refine bif_neg (by rw [decide_eq_true c0]; rfl) ?_
      rw [lenN, C162_S (t162 x _ hxs)]
      refine bif_neg (by rw [decide_eq_true c00]; rfl) ?_
      rw [C163_S (t163 x.op)]
      refine bif_neg (dF c1) (bif_neg (by simpa using c2) (bif_neg (by simpa using c3) (back_of ?_)))
      rw [eapp, inc64 (n := l.length) hlt hb]
      exact q1
theorem shGo_good {l : List W} : ∀ {xs : List W} {i : Nat} {s s' : Sh}, shGo l xs i s = some s' → ∀ x ∈ xs, stepP x
  | [], _, _, _, _ => by simp
  | x :: xs, i, s, s', h => by
    rw [shGo] at h
    cases hst : shStep l i x s with
    | none => rw [hst] at h; cases h
    | some s1 =>
      rw [hst] at h
      intro y hy
      rcases List.mem_cons.1 hy with rfl | hy
      · by_cases c : stepP y
        · exact c
        · rw [shStep, if_pos (fun h => c h.1)] at hst; cases hst
      · exact shGo_good h y hy
theorem t137 (l : List W) (hl : smallL l) : ∃ o : List Int, tw cx 137 [rW true false l] = some ([rI false o, tb (shapeV l).isSome], []) ∧ ∀ s, shapeV l = some s → o = s.ends := by
  obtain ⟨res, h1, h2⟩ := loop137 l hl l.length 0 _ [] (by omega) (sh0 l) ⟨rfl, fun k hk => by omega⟩
  rw [List.drop_zero] at h2
  have h1 := e137 (show S cx 137 (N137 (l.map (eW false))) = some res from h1)
  cases hg : shGo l l 0 ⟨List.replicate l.length (-1), List.replicate l.length (-1), List.replicate l.length [], []⟩ with
  | none =>
    rw [hg] at h2
    obtain ⟨o, rfl⟩ := h2
    have : shapeV l = none := by unfold shapeV; split; exact hg; rfl
    rw [this]
    exact ⟨o, h1, fun s h => by cases h⟩
  | some s =>
    rw [hg] at h2
    have h2 : res = _ := h2
    subst h2
    have hgood := shGo_good hg
    by_cases c : l.length ≤ 60
    · have : shapeV l = some s := by unfold shapeV; rw [if_pos ⟨c, hgood⟩]; exact hg
      rw [this]
      refine ⟨s.ends, ?_, fun s' h => by cases h; rfl⟩
      rw [h1, decide_eq_true c]; rfl
    · have : shapeV l = none := by unfold shapeV; rw [if_neg (fun h => c h.1)]
      rw [this]
      refine ⟨s.ends, ?_, fun s' h => by cases h⟩
      rw [h1, decide_eq_false c]; rfl
theorem t98 (l : List W) (hl : smallL l) : tw cx 98 [rW true false l] = some ([tb (shapeV l).isSome], []) := by
  obtain ⟨o, h1, _⟩ := t137 l hl
  refine e98 ?_
  rw [N98, C137_S h1, S_ret]
theorem shGo_inv {l : List W} : ∀ {xs : List W} {i : Nat} {s s' : Sh}, xs = l.drop i → ShI l i s → shGo l xs i s = some s' → ShI l l.length s' ∧ s'.op = []
  | [], i, s, s', hx, h, hg => by
    have hi : i = l.length := by
      have h1 := congrArg List.length hx
      rw [List.length_drop, List.length_nil] at h1
      have := h.le
      omega
    subst hi
    rw [shGo] at hg
    split at hg
    · rename_i c
      cases hg
      exact ⟨h, List.length_eq_zero_iff.1 c⟩
    · cases hg
  | x :: xs, i, s, s', hx, h, hg => by
    have hlt : i < l.length := by
      have h1 := congrArg List.length hx
      rw [List.length_drop, List.length_cons] at h1
      omega
    have h0 : l[i]? = some x := by
      have h1 := congrArg (·[0]?) hx
      simpa using h1.symm
    have hxs : xs = l.drop (i + 1) := by
      have h1 := congrArg List.tail hx
      simpa using h1
    rw [shGo] at hg
    cases hst : shStep l i x s with
    | none => rw [hst] at hg; cases hg
    | some s1 => rw [hst] at hg; exact shGo_inv hxs (h.step h0 hst) hg
theorem shapeV_inv {l : List W} {s : Sh} (h : shapeV l = some s) : ShI l l.length s ∧ s.op = [] ∧ l.length ≤ 60 ∧ ∀ x ∈ l, stepP x := by
  unfold shapeV at h
  split at h
  · rename_i c
    obtain ⟨h1, h2⟩ := shGo_inv (by simp) (sh0 l) h
    exact ⟨h1, h2, c⟩
  · cases h
end Go.Tree.M

/- What a step takes and puts; the validator, step by step. -/
namespace Go.Tree.M
open Go.Proofs
set_option linter.unusedVariables false
set_option linter.unusedSimpArgs false
def twoP (op : Int) : Prop := 4 ≤ op ∧ op ≤ 9
instance (op : Int) : Decidable (twoP op) := by unfold twoP; infer_instance
def offV (op : Int) : Int := if op = 1 ∨ op = 2 then 0 else if twoP op then 2 else if op = 10 then 1 else if op = 11 then 2 else if op = 3 ∨ op = 12 ∨ op = 13 ∨ op = 17 ∨ op = 21 ∨ op = 22 then 1 else 0
def onV (op : Int) : Int := if op = 1 ∨ op = 2 then 1 else if twoP op then 1 else if op = 10 then 1 else 0
theorem t179 (op : Int) : tw cx 179 [i64 op] = some ([tb (decide (twoP op))], []) := by
  refine e179 ?_
  rw [N179, C65_S (t65 ..), S_ret]; rfl
theorem two_ints {a b c d : Int} (h1 : a = c) (h2 : b = d) : (some ([i64 a, i64 b], []) : Option Res) = some ([i64 c, i64 d], []) := by rw [h1, h2]
set_option maxHeartbeats 2000000 in
theorem t172 (op : Int) : tw cx 172 [i64 op] = some ([i64 (offV op), i64 (onV op)], []) := by
  refine e172 ?_
  have hG1 : ∀ v : Bool, (v = true → offV op = 1 ∧ onV op = 0) → (v = false → offV op = 0 ∧ onV op = 0) → S cx 172 (G172_1 v) = some ([i64 (offV op), i64 (onV op)], []) := fun v h1 h2 => by
    refine eG172_1 ?_
    cases v with
    | true => rw [(h1 rfl).1, (h1 rfl).2]; rfl
    | false => rw [(h2 rfl).1, (h2 rfl).2]; rfl
  have hG : ∀ v : Bool, (v = true ↔ (op = 1 ∨ op = 2)) → S cx 172 (G172_0 op v) = some ([i64 (offV op), i64 (onV op)], []) := fun v hv => by
    refine eG172_0 ?_
    simp only [NG172_0, C112_S (t112 _ _ _), S_bif, S_ret, decide_eq_true_eq, beq_iff_eq, hv]
    repeat' split
    all_goals first
      | exact two_ints (by simp only [offV, twoP]; split <;> omega) (by simp only [onV, twoP]; split <;> omega)
      | exact two_ints (by simp only [offV, twoP]; (repeat' split) <;> omega) (by simp only [onV, twoP]; (repeat' split) <;> omega)
      | exact hG1 _ (fun h => by simp only [beq_iff_eq, decide_eq_true_eq] at h; simp only [offV, onV, twoP]; constructor <;> (repeat' split) <;> omega) (fun h => by simp only [beq_eq_false_iff_ne, ne_eq] at h; simp only [offV, onV, twoP]; constructor <;> (repeat' split) <;> omega)
  simp only [N172, S_bif, beq_iff_eq]
  split
  · exact hG _ (by simp; omega)
  · exact hG _ (by simp; omega)
set_option maxHeartbeats 2000000 in
theorem t198 (op : Int) : tw cx 198 [i64 op] = some ([i64 (offV op), i64 (onV op)], []) := by
  refine e198 ?_
  have hG1 : ∀ v : Bool, ¬ (op = 1 ∨ op = 2) → (v = true ↔ (op = 3 ∨ op = 12 ∨ op = 13 ∨ op = 17 ∨ op = 21 ∨ op = 22)) → S cx 198 (G198_1 op v) = some ([i64 (offV op), i64 (onV op)], []) := fun v h0 hv => by
    refine eG198_1 ?_
    simp only [NG198_1, C179_S (t179 _), S_bif, S_ret, decide_eq_true_eq, beq_iff_eq, hv]
    repeat' split
    all_goals (try simp only [twoP] at *)
    all_goals exact two_ints (by simp only [offV, twoP]; (repeat' split) <;> omega) (by simp only [onV, twoP]; (repeat' split) <;> omega)
  have hG : ∀ v : Bool, (v = true ↔ (op = 1 ∨ op = 2)) → S cx 198 (G198_0 op v) = some ([i64 (offV op), i64 (onV op)], []) := fun v hv => by
    refine eG198_0 ?_
    simp only [NG198_0, S_bif, S_ret, beq_iff_eq, hv]
    repeat' split
    all_goals first
      | exact two_ints (by simp only [offV, twoP]; (repeat' split) <;> omega) (by simp only [onV, twoP]; (repeat' split) <;> omega)
      | exact hG1 _ (by assumption) (by simp; omega)
  simp only [N198, S_bif, beq_iff_eq]
  split
  · exact hG _ (by simp; omega)
  · exact hG _ (by simp; omega)
/-- What is known while code is validated: height, whether it is dead, what is open: base and whether it was dead. -/
structure Vs where
  h : Int
  d : Bool
  st : List (Int × Bool)
def baseV (st : List (Int × Bool)) : Int := match st.getLast? with | none => 0 | some e => e.1
def deadV (st : List (Int × Bool)) : Bool := match st.getLast? with | none => false | some e => e.2
theorem baseV_app (st : List (Int × Bool)) (e : Int × Bool) : baseV (st ++ [e]) = e.1 := by simp [baseV]
theorem deadV_app (st : List (Int × Bool)) (e : Int × Bool) : deadV (st ++ [e]) = e.2 := by simp [deadV]
/-- A step behind which so high a stack stands: a code, and what comes then. -/
def vTail (x : W) (h : Int) (v : Vs) : Int × Vs :=
  if h > 4 then (4, v)
  else if opnP x.op then (0, ⟨h, v.d, v.st ++ [(h, v.d)]⟩)
  else if (x.op = 18 ∨ x.op = 19) ∧ h ≠ baseV v.st then (3, v)
  else if x.op = 18 then (0, ⟨h, deadV v.st, v.st⟩)
  else if x.op = 19 then (0, ⟨h, deadV v.st, v.st.dropLast⟩)
  else if x.op = 20 ∨ x.op = 22 ∨ x.op = 14 then (0, ⟨baseV v.st, true, v.st⟩)
  else (0, ⟨h, v.d, v.st⟩)
def vStep (x : W) (v : Vs) : Int × Vs :=
  if offV x.op ≤ v.h - baseV v.st then vTail x (v.h - offV x.op + onV x.op) v
  else if v.d = false then (2, v)
  else vTail x (baseV v.st + onV x.op) v
/-- The heights and what is dead, of valid code. -/
def vGo : List W → Vs → List Int → List Bool → Option (List Int × List Bool)
  | [], v, hs, ds => if v.h = 0 then some (hs ++ [v.h], ds) else none
  | x :: xs, v, hs, ds => if (vStep x v).1 = 0 then vGo xs (vStep x v).2 (hs ++ [v.h]) (ds ++ [v.d]) else none
structure VI (v : Vs) : Prop where
  pw : (v.st.map (·.1)).Pairwise (· ≤ ·)
  lo : ∀ e ∈ v.st, 0 ≤ e.1
  hi : ∀ e ∈ v.st, e.1 ≤ v.h
  h0 : 0 ≤ v.h
  h4 : v.h ≤ 4
theorem VI.base {v : Vs} (h : VI v) : 0 ≤ baseV v.st ∧ baseV v.st ≤ v.h := by
  rcases last_cases v.st with e | ⟨ys, y, e⟩
  · rw [e]; exact ⟨Int.le_refl _, h.h0⟩
  · have hy : y ∈ v.st := by rw [e]; simp
    have h1 := h.lo y hy
    have h2 := h.hi y hy
    rw [e, baseV_app]
    exact ⟨h1, h2⟩
theorem VI.below {v : Vs} (h : VI v) : ∀ e ∈ v.st, e.1 ≤ baseV v.st := fun e he => by
  have h1 := h.pw
  rcases last_cases v.st with e0 | ⟨ys, y, e0⟩
  · rw [e0] at he; cases he
  · rw [e0] at he h1 ⊢
    rw [baseV_app]
    rcases List.mem_append.1 he with hm | hm
    · rw [List.map_append, List.pairwise_append] at h1
      exact h1.2.2 e.1 (List.mem_map.2 ⟨e, hm, rfl⟩) y.1 (by simp)
    · rw [List.mem_singleton.1 hm]; exact Int.le_refl _
theorem offV_lo (op : Int) : 0 ≤ offV op ∧ offV op ≤ 2 := by unfold offV; repeat' split
                                                             all_goals omega
theorem onV_lo (op : Int) : 0 ≤ onV op ∧ onV op ≤ 1 := by unfold onV; repeat' split
                                                          all_goals omega
theorem VI.tail {v : Vs} (h : VI v) {x : W} {k : Int} (hk : baseV v.st ≤ k) (hc : (vTail x k v).1 = 0) : VI (vTail x k v).2 := by
  have hb := h.base
  have hbl := h.below
  have hall : ∀ e ∈ v.st, e.1 ≤ k := fun e he => Int.le_trans (hbl e he) hk
  unfold vTail at hc ⊢
  split
  · rename_i c; rw [if_pos c] at hc; cases hc
  split
  · refine ⟨?_, fun e he => ?_, fun e he => ?_, by show 0 ≤ k; omega, by show k ≤ 4; omega⟩
    · show ((v.st ++ [(k, v.d)]).map (·.1)).Pairwise (· ≤ ·)
      rw [List.map_append, List.pairwise_append]
      refine ⟨h.pw, by simp, fun a ha b hb' => ?_⟩
      obtain ⟨e, he, rfl⟩ := List.mem_map.1 ha
      simp only [List.map_cons, List.map_nil, List.mem_singleton] at hb'
      rw [hb']; exact hall e he
    · rcases List.mem_append.1 he with he | he
      · exact h.lo e he
      · rw [List.mem_singleton.1 he]; show 0 ≤ k; omega
    · rcases List.mem_append.1 he with he | he
      · exact hall e he
      · rw [List.mem_singleton.1 he]; exact Int.le_refl _
  split
  · rename_i c1 c2 c; rw [if_neg c1, if_neg c2, if_pos c] at hc; cases hc
  split
  · exact ⟨h.pw, h.lo, hall, by show 0 ≤ k; omega, by show k ≤ 4; omega⟩
  split
  · refine ⟨?_, fun e he => h.lo e (List.dropLast_subset _ he), fun e he => hall e (List.dropLast_subset _ he), by show 0 ≤ k; omega, by show k ≤ 4; omega⟩
    show ((v.st.dropLast).map (·.1)).Pairwise (· ≤ ·)
    rw [List.map_dropLast]
    exact h.pw.sublist (List.dropLast_sublist _)
  split
  · exact ⟨h.pw, h.lo, hbl, hb.1, by show baseV v.st ≤ 4; omega⟩
  · exact ⟨h.pw, h.lo, hall, by show 0 ≤ k; omega, by show k ≤ 4; omega⟩
theorem VI.step {v : Vs} (h : VI v) {x : W} (hc : (vStep x v).1 = 0) : VI (vStep x v).2 := by
  have := h.base
  have := offV_lo x.op
  have := onV_lo x.op
  unfold vStep at hc ⊢
  split
  · rename_i c; rw [if_pos c] at hc; exact h.tail (by omega) hc
  split
  · rename_i c1 c; rw [if_neg c1, if_pos c] at hc; cases hc
  · rename_i c1 c; rw [if_neg c1, if_neg c] at hc; exact h.tail (by omega) hc
theorem vi0 : VI ⟨0, false, []⟩ := ⟨List.Pairwise.nil, by simp, by simp, Int.le_refl _, by decide⟩
end Go.Tree.M

/- The program's validator. -/
namespace Go.Tree.M
open Go.Proofs
set_option linter.unusedVariables false
set_option linter.unusedSimpArgs false
abbrev eO (e : Int × Bool) : TV := .st [i64 e.1, tb e.2]
abbrev rO (es : List (Int × Bool)) : List TV := ((0, false) :: es).map eO
abbrev eWk (v : Vs) : TV := .st [i64 v.h, tb v.d, sl false ⟨2, false⟩ (rO v.st)]
theorem lenO (es : List (Int × Bool)) : (rO es).length = es.length + 1 := by simp
theorem lastO (es : List (Int × Bool)) (h : es.length ≤ 1073741824) : (rO es).getD (0 + (w64 ((((rO es).length : Nat) : Int) - 1)).toNat) (.dead ()) = eO (baseV es, deadV es) := by
  rw [lenO, w64_id (by omega) (by omega), show 0 + (((es.length + 1 : Nat) : Int) - 1).toNat = es.length by omega]
  rcases last_cases es with rfl | ⟨ys, y, rfl⟩
  · rfl
  · rw [baseV_app, deadV_app, List.getD_eq_getElem?_getD, List.getElem?_map, List.length_append, List.length_cons, List.length_nil, List.getElem?_cons_succ, List.getElem?_append_right (Nat.le_refl _), Nat.sub_self]
    rfl
theorem ckO (es : List (Int × Bool)) (h : es.length ≤ 1073741824) : (decide ((0 : Int) ≤ w64 ((((rO es).length : Nat) : Int) - 1)) && decide (w64 ((((rO es).length : Nat) : Int) - 1) < (((rO es).length : Nat) : Int))) = true := by
  rw [lenO, w64_id (by omega) (by omega)]; exact dT2 (by omega)
theorem ckO' (es : List (Int × Bool)) (h : es.length ≤ 1073741824) : (decide ((0 : Int) ≤ w64 ((((rO es).length : Nat) : Int) - 1)) && decide (w64 ((((rO es).length : Nat) : Int) - 1) ≤ (((rO es).length : Nat) : Int))) = true := by
  rw [lenO, w64_id (by omega) (by omega)]; exact dT2 (by omega)
theorem initO (es : List (Int × Bool)) (h : es.length ≤ 1073741824) (hne : es ≠ []) : ((rO es).drop 0).take ((w64 ((((rO es).length : Nat) : Int) - 1) - 0).toNat) = rO es.dropLast := by
  rw [lenO, w64_id (by omega) (by omega), show (((es.length + 1 : Nat) : Int) - 1 - 0).toNat = es.length by omega, List.drop_zero]
  rcases last_cases es with rfl | ⟨ys, y, rfl⟩
  · exact absurd rfl hne
  · rw [List.dropLast_concat, ← List.map_take]
    congr 1
    rw [List.length_append, List.length_cons, List.length_nil, List.take_succ_cons, List.take_left']
    rfl
theorem t193 (h : Int) (d : Bool) (es : List (Int × Bool)) (hl : es.length ≤ 1073741824) : tw cx 193 [.pt true () (.st [i64 h, tb d, sl false ⟨2, false⟩ (rO es)])] = some ([i64 (baseV es)], []) := by
  refine e193 (ck_pos (ckO es hl) ?_)
  rw [lastO es hl, V2_S, S_ret]
set_option maxHeartbeats 1000000 in
theorem t194 (v : Vs) (x : W) (hv : VI v) (hl : v.st.length ≤ 8) (hne : x.op = 18 ∨ x.op = 19 → v.st ≠ []) :
    ∃ v', tw cx 194 [.pt false () (eWk v), eW true x] = some ([i64 (vStep x v).1], [.pt false () (eWk v')]) ∧ ((vStep x v).1 = 0 → v' = (vStep x v).2) := by
  obtain ⟨h, d, es⟩ := v
  have hl : es.length ≤ 8 := hl
  have hne : x.op = 18 ∨ x.op = 19 → es ≠ [] := hne
  obtain ⟨b0, b1⟩ := hv.base
  simp only at b0 b1
  have h4 : h ≤ 4 := hv.h4
  have of := offV_lo x.op
  have on := onV_lo x.op
  have hbig : es.length ≤ 1073741824 := by omega
  -- behind the first part
  have hTail : ∀ k : Int, 0 ≤ k → k ≤ 4 → ∃ v', S cx 194 (G194_1 x.op x.n (x.tb.map i64) (onV x.op) k d (rO es)) = some ([i64 (vTail x (k + onV x.op) ⟨h, d, es⟩).1], [.pt false () (eWk v')]) ∧ ((vTail x (k + onV x.op) ⟨h, d, es⟩).1 = 0 → v' = (vTail x (k + onV x.op) ⟨h, d, es⟩).2) := fun k k0 k4 => by
    have hw : w64 (k + onV x.op) = k + onV x.op := w64_id (by omega) (by omega)
    generalize hm : k + onV x.op = m at hw
    by_cases c4 : m > 4
    · refine ⟨⟨m, d, es⟩, eG194_1 ?_, ?_⟩
      · unfold NG194_1
        rw [hm, hw]
        refine bif_pos (dT c4) ?_
        rw [S_ret, vTail, if_pos c4]
      · rw [vTail, if_pos c4]; intro h; cases h
    · have hrest : ∀ {q : Res}, S cx 194 (C171 x.op fun v_90 =>
            .bif (v_90)
            (.ck (decide (((rO es).length + ([.st [i64 (w64 m), tb d]] : List TV).length) * 16 < lim)) <|
              .ret [i64 0] [.pt false () (.st [i64 (w64 m), tb d, sl false ⟨2, false⟩ (rO es ++ ([.st [i64 (w64 m), tb d]]))])])
            (.bif ((x.op == 18))
              (NG194_1_s1 x.op x.n (x.tb.map i64) (onV x.op) k d (rO es))
              (.bif ((x.op == 19))
                (NG194_1_s1 x.op x.n (x.tb.map i64) (onV x.op) k d (rO es))
                (.amb2
                  (G194_2 x.op x.n (x.tb.map i64) false (w64 m) d (rO es))
                  (G194_2 x.op x.n (x.tb.map i64) false (w64 m) d (rO es)))))) = some q → S cx 194 (G194_1 x.op x.n (x.tb.map i64) (onV x.op) k d (rO es)) = some q := fun {q} hh => by
        refine eG194_1 ?_
        unfold NG194_1
        rw [hm]
        refine bif_neg (dF (by rw [hw]; exact c4)) ?_
        exact hh
      have hG3 : ∀ p : Bool, S cx 194 (G194_3 p m d (rO es)) = some ([i64 0], [.pt false () (eWk (if p = true then ⟨baseV es, true, es⟩ else ⟨m, d, es⟩))]) := fun p => by
        cases p with
        | true =>
          refine eG194_3 (bif_pos rfl ?_)
          rw [C193_S (t193 m d es hbig), S_ret]
          rfl
        | false => exact eG194_3 (bif_neg rfl rfl)
      by_cases co : opnP x.op
      · refine ⟨⟨m, d, es ++ [(m, d)]⟩, hrest ?_, ?_⟩
        · rw [C171_S (t171 x.op)]
          refine bif_pos (dT co) (ck_pos (dT (by have hlim : lim = 140737488355328 := rfl; rw [hlim, lenO]; simp; omega)) ?_)
          rw [S_ret, hw, vTail, if_neg c4, if_pos co]
          simp
        · rw [vTail, if_neg c4, if_pos co]; intro _; rfl
      · have hs1 : ∀ {q : Res}, S cx 194 (G194_2 x.op x.n (x.tb.map i64) (m != baseV es) m d (rO es)) = some q → S cx 194 (NG194_1_s1 x.op x.n (x.tb.map i64) (onV x.op) k d (rO es)) = some q := fun {q} hh => by
          have : S cx 194 (NG194_1_s0 x.op x.n (x.tb.map i64) (onV x.op) k d (rO es)) = some q := by
            rw [NG194_1_s0, hm, hw, C193_S (t193 m d es hbig)]; exact hh
          exact S_amb2 this this
        by_cases ce : (x.op = 18 ∨ x.op = 19) ∧ m ≠ baseV es
        · refine ⟨⟨m, d, es⟩, hrest ?_, ?_⟩
          · rw [C171_S (t171 x.op)]
            refine bif_neg (dF co) ?_
            have h2 : S cx 194 (G194_2 x.op x.n (x.tb.map i64) (m != baseV es) m d (rO es)) = some ([i64 (vTail x m ⟨h, d, es⟩).1], [.pt false () (eWk ⟨m, d, es⟩)]) := by
              refine eG194_2 (bif_pos (by rw [bne_iff_ne]; exact ce.2) ?_)
              rw [S_ret, vTail, if_neg c4, if_neg co, if_pos ce]
            rcases ce.1 with c | c
            · exact bif_pos (by simpa using c) (hs1 h2)
            · exact bif_neg (by rw [c]; rfl) (bif_pos (by simpa using c) (hs1 h2))
          · rw [vTail, if_neg c4, if_neg co, if_pos ce]; intro h; cases h
        · refine ⟨(vTail x m ⟨h, d, es⟩).2, hrest ?_, fun _ => rfl⟩
          rw [C171_S (t171 x.op)]
          refine bif_neg (dF co) ?_
          rw [vTail, if_neg c4, if_neg co, if_neg ce]
          by_cases c18 : x.op = 18
          · rw [if_pos c18]
            refine bif_pos (by simpa using c18) (hs1 (eG194_2 (bif_neg ?_ (bif_pos (by simpa using c18) (ck_pos (ckO es hbig) ?_)))))
            · rw [bne_eq_false_iff_eq]
              by_cases c : m = baseV es
              · exact c
              · exact absurd ⟨.inl c18, c⟩ ce
            · rw [lastO es hbig, V2_S, S_ret]
          · rw [if_neg c18]
            refine bif_neg (by simpa using c18) ?_
            by_cases c19 : x.op = 19
            · rw [if_pos c19]
              refine bif_pos (by simpa using c19) (hs1 (eG194_2 (bif_neg ?_ (bif_neg (by simpa using c18) (bif_pos (by simpa using c19) (ck_pos (ckO es hbig) ?_))))))
              · rw [bne_eq_false_iff_eq]
                by_cases c : m = baseV es
                · exact c
                · exact absurd ⟨.inr c19, c⟩ ce
              · rw [lastO es hbig, V2_S]
                refine ck_pos (ckO' es hbig) ?_
                rw [initO es hbig (hne (.inr c19)), S_ret]
            · rw [if_neg c19]
              refine bif_neg (by simpa using c19) ?_
              rw [hw]
              have h2 : S cx 194 (G194_2 x.op x.n (x.tb.map i64) false m d (rO es)) = some ([i64 (if x.op = 20 ∨ x.op = 22 ∨ x.op = 14 then ((0 : Int), (⟨baseV es, true, es⟩ : Vs)) else (0, ⟨m, d, es⟩)).1], [.pt false () (eWk (if x.op = 20 ∨ x.op = 22 ∨ x.op = 14 then ((0 : Int), (⟨baseV es, true, es⟩ : Vs)) else (0, ⟨m, d, es⟩)).2)]) := by
                refine eG194_2 (bif_neg rfl (bif_neg (by simpa using c18) (bif_neg (by simpa using c19) ?_)))
                by_cases c20 : x.op = 20
                · rw [if_pos (Or.inl c20)]; exact bif_pos (by simpa using c20) (hG3 true)
                refine bif_neg (by simpa using c20) ?_
                by_cases c22 : x.op = 22
                · rw [if_pos (Or.inr (Or.inl c22))]; exact bif_pos (by simpa using c22) (hG3 true)
                refine bif_neg (by simpa using c22) ?_
                by_cases c14 : x.op = 14
                · rw [if_pos (Or.inr (Or.inr c14)), show (x.op == 14) = true by simpa using c14]; exact hG3 true
                · rw [if_neg (by omega), show (x.op == 14) = false by simpa using c14]; exact hG3 false
              exact S_amb2 h2 h2
  -- the first part
  have hw1 : w64 (h - baseV es) = h - baseV es := w64_id (by omega) (by omega)
  have hs0 : ∀ {q : Res}, S cx 194 (G194_0 x.op x.n (x.tb.map i64) (offV x.op) (onV x.op) (decide (offV x.op ≤ h - baseV es)) h d (rO es)) = some q → tw cx 194 [.pt false () (eWk ⟨h, d, es⟩), eW true x] = some q := fun {q} hh => by
    refine e194 ?_
    rw [N194, C198_S (t198 x.op)]
    have : S cx 194 (N194_s0 h d (rO es) x.op x.n (x.tb.map i64) (offV x.op) (onV x.op)) = some q := by
      rw [N194_s0, C193_S (t193 h d es hbig), hw1]; exact hh
    exact S_amb2 this this
  by_cases c1 : offV x.op ≤ h - baseV es
  · obtain ⟨v', q1, q2⟩ := hTail (h - offV x.op) (by omega) (by omega)
    have hst : vStep x ⟨h, d, es⟩ = vTail x (h - offV x.op + onV x.op) ⟨h, d, es⟩ := by rw [vStep, if_pos c1]
    rw [hst]
    refine ⟨v', hs0 (eG194_0 (bif_pos (dT c1) ?_)), q2⟩
    rw [w64_id (by omega) (by omega)]
    exact q1
  · cases d with
    | false =>
      have hst : vStep x ⟨h, false, es⟩ = (2, ⟨h, false, es⟩) := by rw [vStep, if_neg c1, if_pos rfl]
      rw [hst]
      exact ⟨⟨h, false, es⟩, hs0 (eG194_0 (bif_neg (dF c1) (bif_pos rfl rfl))), fun h => by cases h⟩
    | true =>
      obtain ⟨v', q1, q2⟩ := hTail (baseV es) b0 (by omega)
      have hst : vStep x ⟨h, true, es⟩ = vTail x (baseV es + onV x.op) ⟨h, true, es⟩ := by rw [vStep, if_neg c1, if_neg (by simp)]
      rw [hst]
      refine ⟨v', hs0 (eG194_0 (bif_neg (dF c1) (bif_neg rfl ?_))), q2⟩
      rw [C193_S (t193 h true es hbig)]
      exact q1
end Go.Tree.M

/- The program's walk through good code. -/
namespace Go.Tree.M
open Go.Proofs
set_option linter.unusedVariables false
set_option linter.unusedSimpArgs false
theorem all176a {l_0 : List TV} {out_1 : List TV} {out_2 : List TV} {out_3 : List TV} {out_4 : List TV} {out_8 : List TV} {out_9 : List TV} {out_10 : List TV} {w_11 : Int} {w_12 : Bool} {w_13 : List TV} {i_14 : Int} {x_5 : Int} {x_6 : Int} {x_7 : List TV} {v_15 : Int} {b0_0 : Int} {res : Res} (c0 : tw cx 193 [.pt true () (.st [i64 w_11, tb w_12, sl false ⟨2, false⟩ w_13])] = some ([i64 b0_0], []))
    (h0 : (decide ((out_8.length + ([i64 w_11]).length) * 8 < lim)) = true)
    (h1 : (decide ((out_9.length + ([tb w_12]).length) * 1 < lim)) = true)
    (h2 : (decide ((out_10.length + ([i64 b0_0] : List TV).length) * 8 < lim)) = true)
    (h3 : (decide ((out_9.length + ([tb w_12] : List TV).length) * 1 < lim)) = true)
    (h4 : (decide ((out_8.length + ([i64 w_11] : List TV).length) * 8 < lim)) = true)
    (x0 : S cx 176 (G176_43 l_0 out_1 out_2 out_3 out_4 (out_8 ++ ([i64 w_11])) (out_9 ++ ([tb w_12])) (out_10 ++ ([i64 b0_0])) w_11 w_12 w_13 i_14 x_5 x_6 x_7 v_15) = some res) : S cx 176 (G176_1 l_0 out_1 out_2 out_3 out_4 out_8 out_9 out_10 w_11 w_12 w_13 i_14 x_5 x_6 x_7 v_15) = some res := by
  have r0 : S cx 176 (R176_56 l_0 out_1 out_2 out_3 out_4 out_10 w_11 w_12 w_13 i_14 x_5 x_6 x_7 v_15 w_11 ([i64 w_11]) (out_8 ++ ([i64 w_11])) w_12 ([tb w_12]) (out_9 ++ ([tb w_12]))) = some res := eR176_56 ((C193_S c0).trans (ck_pos h2 x0))
  have r1 : S cx 176 (R176_57 l_0 out_1 out_2 out_3 out_4 out_10 w_11 w_12 w_13 i_14 x_5 x_6 x_7 v_15 w_11 ([i64 w_11]) (out_8 ++ ([i64 w_11])) w_12 ([tb w_12]) (out_9 ++ ([tb w_12])) b0_0) = some res := eR176_57 (ck_pos h2 x0)
  have r2 : S cx 176 (R176_41 l_0 out_1 out_2 out_3 out_4 out_10 w_11 w_12 w_13 i_14 x_5 x_6 x_7 v_15 w_11 ([i64 w_11]) (out_8 ++ ([i64 w_11])) w_12 ([tb w_12]) (out_9 ++ ([tb w_12]))) = some res := eR176_41 (S_amb2 r0 ((C193_S c0).trans r1))
  have r3 : S cx 176 (R176_42 l_0 out_1 out_2 out_3 out_4 out_9 out_10 w_11 w_12 w_13 i_14 x_5 x_6 x_7 v_15 w_11 ([i64 w_11]) (out_8 ++ ([i64 w_11])) w_12 ([tb w_12])) = some res := eR176_42 (ck_pos h1 ((C193_S c0).trans (ck_pos h2 x0)))
  have r4 : S cx 176 (R176_23 l_0 out_1 out_2 out_3 out_4 out_9 out_10 w_11 w_12 w_13 i_14 x_5 x_6 x_7 v_15 w_11 ([i64 w_11]) (out_8 ++ ([i64 w_11])) w_12 ([tb w_12])) = some res := eR176_23 (S_amb2 (ck_pos h1 r2) r3)
  have r5 : S cx 176 (R176_24 l_0 out_1 out_2 out_3 out_4 out_9 out_10 w_11 w_12 w_13 i_14 x_5 x_6 x_7 v_15 w_11 ([i64 w_11]) (out_8 ++ ([i64 w_11])) w_12) = some res := eR176_24 (ck_pos h3 ((C193_S c0).trans (ck_pos h2 x0)))
  have r6 : S cx 176 (R176_10 l_0 out_1 out_2 out_3 out_4 out_9 out_10 w_11 w_12 w_13 i_14 x_5 x_6 x_7 v_15 w_11 ([i64 w_11]) (out_8 ++ ([i64 w_11]))) = some res := eR176_10 (S_amb2 r4 r5)
  have r7 : S cx 176 (R176_25 l_0 out_1 out_2 out_3 out_4 out_9 out_10 w_11 w_12 w_13 i_14 x_5 x_6 x_7 v_15 w_11 ([i64 w_11]) (out_8 ++ ([i64 w_11]))) = some res := eR176_25 (S_amb2 r4 r5)
  have r8 : S cx 176 (R176_44 l_0 out_1 out_2 out_3 out_4 out_9 out_10 w_11 w_12 w_13 i_14 x_5 x_6 x_7 v_15 w_11 ([i64 w_11]) (out_8 ++ ([i64 w_11])) w_12) = some res := eR176_44 (S_amb2 r4 r5)
  have r9 : S cx 176 (R176_58 l_0 out_1 out_2 out_3 out_4 out_8 out_9 out_10 w_11 w_12 w_13 i_14 x_5 x_6 x_7 v_15 w_11 ([i64 w_11]) w_12 ([tb w_12])) = some res := eR176_58 (ck_pos h0 (ck_pos h1 ((C193_S c0).trans (ck_pos h2 x0))))
  have r10 : S cx 176 (R176_45 l_0 out_1 out_2 out_3 out_4 out_8 out_9 out_10 w_11 w_12 w_13 i_14 x_5 x_6 x_7 v_15 w_11 ([i64 w_11]) w_12 ([tb w_12])) = some res := eR176_45 (S_amb2 (ck_pos h0 r4) r9)
  have r11 : S cx 176 (R176_46 l_0 out_1 out_2 out_3 out_4 out_8 out_9 out_10 w_11 w_12 w_13 i_14 x_5 x_6 x_7 v_15 w_11 ([i64 w_11]) w_12) = some res := eR176_46 (S_amb2 (ck_pos h0 r5) r9)
  have r12 : S cx 176 (R176_26 l_0 out_1 out_2 out_3 out_4 out_8 out_9 out_10 w_11 w_12 w_13 i_14 x_5 x_6 x_7 v_15 w_11 ([i64 w_11]) w_12) = some res := eR176_26 (S_amb3 (ck_pos h0 r8) r10 r11)
  have r13 : S cx 176 (R176_47 l_0 out_1 out_2 out_3 out_4 out_9 out_10 w_11 w_12 w_13 i_14 x_5 x_6 x_7 v_15 w_11 ([i64 w_11]) (out_8 ++ ([i64 w_11]))) = some res := eR176_47 (ck_pos h3 ((C193_S c0).trans (ck_pos h2 x0)))
  have r14 : S cx 176 (R176_27 l_0 out_1 out_2 out_3 out_4 out_8 out_9 out_10 w_11 w_12 w_13 i_14 x_5 x_6 x_7 v_15 w_11 ([i64 w_11])) = some res := eR176_27 (S_amb2 (ck_pos h0 r13) r11)
  have r15 : S cx 176 (R176_11 l_0 out_1 out_2 out_3 out_4 out_8 out_9 out_10 w_11 w_12 w_13 i_14 x_5 x_6 x_7 v_15 w_11 ([i64 w_11])) = some res := eR176_11 (S_amb3 (ck_pos h0 r7) r12 r14)
  have r16 : S cx 176 (R176_28 l_0 out_1 out_2 out_3 out_4 out_9 out_10 w_11 w_12 w_13 i_14 x_5 x_6 x_7 v_15 w_11 ([i64 w_11]) (out_8 ++ ([i64 w_11])) w_12) = some res := eR176_28 (S_amb2 r4 r5)
  have r17 : S cx 176 (R176_48 l_0 out_1 out_2 out_3 out_4 out_9 out_10 w_11 w_12 w_13 i_14 x_5 x_6 x_7 v_15 w_11 ([i64 w_11]) (out_8 ++ ([i64 w_11])) w_12 ([tb w_12])) = some res := eR176_48 (S_amb2 (ck_pos h1 r2) r3)
  have r18 : S cx 176 (R176_59 l_0 out_1 out_2 out_3 out_4 out_9 out_10 w_11 w_12 w_13 i_14 x_5 x_6 x_7 v_15 w_11 ([i64 w_11]) (out_8 ++ ([i64 w_11])) w_12 ([tb w_12])) = some res := eR176_59 (ck_pos h1 ((C193_S c0).trans (ck_pos h2 x0)))
  have r19 : S cx 176 (R176_49 l_0 out_1 out_2 out_3 out_4 out_8 out_9 out_10 w_11 w_12 w_13 i_14 x_5 x_6 x_7 v_15 w_11 ([i64 w_11]) w_12 ([tb w_12])) = some res := eR176_49 (S_amb2 (ck_pos h0 r18) r9)
  have r20 : S cx 176 (R176_29 l_0 out_1 out_2 out_3 out_4 out_8 out_9 out_10 w_11 w_12 w_13 i_14 x_5 x_6 x_7 v_15 w_11 ([i64 w_11]) w_12 ([tb w_12])) = some res := eR176_29 (S_amb3 (ck_pos h0 r17) r10 r19)
  have r21 : S cx 176 (R176_50 l_0 out_1 out_2 out_3 out_4 out_9 out_10 w_11 w_12 w_13 i_14 x_5 x_6 x_7 v_15 w_11 ([i64 w_11]) (out_8 ++ ([i64 w_11])) w_12) = some res := eR176_50 (ck_pos h3 ((C193_S c0).trans (ck_pos h2 x0)))
  have r22 : S cx 176 (R176_30 l_0 out_1 out_2 out_3 out_4 out_8 out_9 out_10 w_11 w_12 w_13 i_14 x_5 x_6 x_7 v_15 w_11 ([i64 w_11]) w_12) = some res := eR176_30 (S_amb3 (ck_pos h0 r21) r11 r19)
  have r23 : S cx 176 (R176_12 l_0 out_1 out_2 out_3 out_4 out_8 out_9 out_10 w_11 w_12 w_13 i_14 x_5 x_6 x_7 v_15 w_11 ([i64 w_11]) w_12) = some res := eR176_12 (S_amb4 (ck_pos h0 r16) r12 r20 r22)
  have r24 : S cx 176 (R176_31 l_0 out_1 out_2 out_3 out_4 out_9 out_10 w_11 w_12 w_13 i_14 x_5 x_6 x_7 v_15 w_11 ([i64 w_11]) (out_8 ++ ([i64 w_11]))) = some res := eR176_31 (ck_pos h3 ((C193_S c0).trans (ck_pos h2 x0)))
  have r25 : S cx 176 (R176_13 l_0 out_1 out_2 out_3 out_4 out_8 out_9 out_10 w_11 w_12 w_13 i_14 x_5 x_6 x_7 v_15 w_11 ([i64 w_11])) = some res := eR176_13 (S_amb3 (ck_pos h0 r24) r14 r22)
  have r26 : S cx 176 (R176_3 l_0 out_1 out_2 out_3 out_4 out_8 out_9 out_10 w_11 w_12 w_13 i_14 x_5 x_6 x_7 v_15 w_11 ([i64 w_11])) = some res := eR176_3 (S_amb4 (ck_pos h0 r6) r15 r23 r25)
  have r27 : S cx 176 (R176_51 l_0 out_1 out_2 out_3 out_4 out_8 out_9 out_10 w_11 w_12 w_13 i_14 x_5 x_6 x_7 v_15 w_11 w_12 ([tb w_12])) = some res := eR176_51 (ck_pos h4 (ck_pos h1 ((C193_S c0).trans (ck_pos h2 x0))))
  have r28 : S cx 176 (R176_32 l_0 out_1 out_2 out_3 out_4 out_8 out_9 out_10 w_11 w_12 w_13 i_14 x_5 x_6 x_7 v_15 w_11 w_12 ([tb w_12])) = some res := eR176_32 (S_amb2 r10 r27)
  have r29 : S cx 176 (R176_33 l_0 out_1 out_2 out_3 out_4 out_8 out_9 out_10 w_11 w_12 w_13 i_14 x_5 x_6 x_7 v_15 w_11 w_12) = some res := eR176_33 (S_amb2 r11 r27)
  have r30 : S cx 176 (R176_14 l_0 out_1 out_2 out_3 out_4 out_8 out_9 out_10 w_11 w_12 w_13 i_14 x_5 x_6 x_7 v_15 w_11 w_12) = some res := eR176_14 (S_amb3 r12 r28 r29)
  have r31 : S cx 176 (R176_15 l_0 out_1 out_2 out_3 out_4 out_8 out_9 out_10 w_11 w_12 w_13 i_14 x_5 x_6 x_7 v_15 w_11) = some res := eR176_15 (S_amb2 r14 r29)
  have r32 : S cx 176 (R176_4 l_0 out_1 out_2 out_3 out_4 out_8 out_9 out_10 w_11 w_12 w_13 i_14 x_5 x_6 x_7 v_15 w_11) = some res := eR176_4 (S_amb3 r15 r30 r31)
  have r33 : S cx 176 (R176_34 l_0 out_1 out_2 out_3 out_4 out_8 out_9 out_10 w_11 w_12 w_13 i_14 x_5 x_6 x_7 v_15 w_11 w_12 ([tb w_12])) = some res := eR176_34 (S_amb2 r19 r27)
  have r34 : S cx 176 (R176_16 l_0 out_1 out_2 out_3 out_4 out_8 out_9 out_10 w_11 w_12 w_13 i_14 x_5 x_6 x_7 v_15 w_11 w_12 ([tb w_12])) = some res := eR176_16 (S_amb3 r20 r28 r33)
  have r35 : S cx 176 (R176_17 l_0 out_1 out_2 out_3 out_4 out_8 out_9 out_10 w_11 w_12 w_13 i_14 x_5 x_6 x_7 v_15 w_11 w_12) = some res := eR176_17 (S_amb3 r22 r29 r33)
  have r36 : S cx 176 (R176_5 l_0 out_1 out_2 out_3 out_4 out_8 out_9 out_10 w_11 w_12 w_13 i_14 x_5 x_6 x_7 v_15 w_11 w_12) = some res := eR176_5 (S_amb4 r23 r30 r34 r35)
  have r37 : S cx 176 (R176_6 l_0 out_1 out_2 out_3 out_4 out_8 out_9 out_10 w_11 w_12 w_13 i_14 x_5 x_6 x_7 v_15 w_11) = some res := eR176_6 (S_amb3 r25 r31 r35)
  have r38 : S cx 176 (G176_1 l_0 out_1 out_2 out_3 out_4 out_8 out_9 out_10 w_11 w_12 w_13 i_14 x_5 x_6 x_7 v_15) = some res := eG176_1 (S_amb4 r26 r32 r36 r37)
  exact r38
theorem all176b {l_0 : List TV} {out_1 : List TV} {out_2 : List TV} {out_3 : List TV} {out_4 : List TV} {out_5 : List TV} {out_6 : List TV} {out_7 : List TV} {w_8 : Int} {w_9 : Bool} {w_10 : List TV} {res : Res}
    (h0 : (decide ((out_5.length + ([i64 w_8]).length) * 8 < lim)) = true)
    (h1 : (decide ((out_6.length + ([tb w_9] : List TV).length) * 1 < lim)) = true)
    (h2 : (decide ((out_6.length + ([tb w_9]).length) * 1 < lim)) = true)
    (h3 : (decide ((out_5.length + ([i64 w_8] : List TV).length) * 8 < lim)) = true)
    (x0 : S cx 176 (G176_35 l_0 out_1 out_2 out_3 out_4 (out_5 ++ ([i64 w_8])) (out_6 ++ ([tb w_9])) out_7 w_8 w_9 w_10) = some res) : S cx 176 (G176_2 l_0 out_1 out_2 out_3 out_4 out_5 out_6 out_7 w_8 w_9 w_10) = some res := by
  have r0 : S cx 176 (R176_18 l_0 out_1 out_2 out_3 out_4 out_6 out_7 w_8 w_9 w_10 w_8 ([i64 w_8]) (out_5 ++ ([i64 w_8]))) = some res := eR176_18 (ck_pos h1 x0)
  have r1 : S cx 176 (R176_36 l_0 out_1 out_2 out_3 out_4 out_6 out_7 w_8 w_9 w_10 w_8 ([i64 w_8]) (out_5 ++ ([i64 w_8]))) = some res := eR176_36 (ck_pos h1 x0)
  have r2 : S cx 176 (R176_53 l_0 out_1 out_2 out_3 out_4 out_6 out_7 w_8 w_9 w_10 w_8 ([i64 w_8]) (out_5 ++ ([i64 w_8])) w_9) = some res := eR176_53 (ck_pos h1 x0)
  have r3 : S cx 176 (R176_54 l_0 out_1 out_2 out_3 out_4 out_5 out_6 out_7 w_8 w_9 w_10 w_8 ([i64 w_8]) w_9 ([tb w_9])) = some res := eR176_54 (ck_pos h0 (ck_pos h2 x0))
  have r4 : S cx 176 (R176_37 l_0 out_1 out_2 out_3 out_4 out_5 out_6 out_7 w_8 w_9 w_10 w_8 ([i64 w_8]) w_9) = some res := eR176_37 (S_amb2 (ck_pos h0 r2) r3)
  have r5 : S cx 176 (R176_19 l_0 out_1 out_2 out_3 out_4 out_5 out_6 out_7 w_8 w_9 w_10 w_8 ([i64 w_8])) = some res := eR176_19 (S_amb2 (ck_pos h0 r1) r4)
  have r6 : S cx 176 (R176_38 l_0 out_1 out_2 out_3 out_4 out_6 out_7 w_8 w_9 w_10 w_8 ([i64 w_8]) (out_5 ++ ([i64 w_8])) w_9) = some res := eR176_38 (ck_pos h1 x0)
  have r7 : S cx 176 (R176_55 l_0 out_1 out_2 out_3 out_4 out_6 out_7 w_8 w_9 w_10 w_8 ([i64 w_8]) (out_5 ++ ([i64 w_8])) w_9 ([tb w_9])) = some res := eR176_55 (ck_pos h2 x0)
  have r8 : S cx 176 (R176_39 l_0 out_1 out_2 out_3 out_4 out_5 out_6 out_7 w_8 w_9 w_10 w_8 ([i64 w_8]) w_9 ([tb w_9])) = some res := eR176_39 (S_amb2 (ck_pos h0 r7) r3)
  have r9 : S cx 176 (R176_20 l_0 out_1 out_2 out_3 out_4 out_5 out_6 out_7 w_8 w_9 w_10 w_8 ([i64 w_8]) w_9) = some res := eR176_20 (S_amb3 (ck_pos h0 r6) r4 r8)
  have r10 : S cx 176 (R176_7 l_0 out_1 out_2 out_3 out_4 out_5 out_6 out_7 w_8 w_9 w_10 w_8 ([i64 w_8])) = some res := eR176_7 (S_amb3 (ck_pos h0 r0) r5 r9)
  have r11 : S cx 176 (R176_40 l_0 out_1 out_2 out_3 out_4 out_5 out_6 out_7 w_8 w_9 w_10 w_8 w_9 ([tb w_9])) = some res := eR176_40 (ck_pos h3 (ck_pos h2 x0))
  have r12 : S cx 176 (R176_21 l_0 out_1 out_2 out_3 out_4 out_5 out_6 out_7 w_8 w_9 w_10 w_8 w_9) = some res := eR176_21 (S_amb2 r4 r11)
  have r13 : S cx 176 (R176_8 l_0 out_1 out_2 out_3 out_4 out_5 out_6 out_7 w_8 w_9 w_10 w_8) = some res := eR176_8 (S_amb2 r5 r12)
  have r14 : S cx 176 (R176_22 l_0 out_1 out_2 out_3 out_4 out_5 out_6 out_7 w_8 w_9 w_10 w_8 w_9 ([tb w_9])) = some res := eR176_22 (S_amb2 r8 r11)
  have r15 : S cx 176 (R176_9 l_0 out_1 out_2 out_3 out_4 out_5 out_6 out_7 w_8 w_9 w_10 w_8 w_9) = some res := eR176_9 (S_amb3 r9 r12 r14)
  have r16 : S cx 176 (G176_2 l_0 out_1 out_2 out_3 out_4 out_5 out_6 out_7 w_8 w_9 w_10) = some res := eG176_2 (S_amb3 r10 r13 r15)
  exact r16
abbrev rB (q : Bool) (xs : List Bool) : TV := sl q ⟨1, false⟩ (xs.map tb)
/-- A walk. -/
abbrev eWa (q : Bool) (l : List W) (s : Sh) (hs : List Int) (ds : List Bool) (bs : List Int) (c p : Int) : TV := .st [.pt q () (.st [rW true false l, rI q s.ends, rI q s.other, sl q ⟨1, true⟩ (s.opens.map rowN)]), rI q hs, rB q ds, rI q bs, i64 c, i64 p]
theorem step_len {l : List W} {i : Nat} {x : W} {s s' : Sh} {v : Vs} (hs : shStep l i x s = some s') (hl : v.st.length = s.op.length) : (x.op = 18 ∨ x.op = 19 → v.st ≠ []) ∧ ((vStep x v).1 = 0 → (vStep x v).2.st.length = s'.op.length) := by
  have htail : ∀ k, (vTail x k v).1 = 0 → (vTail x k v).2.st.length = s'.op.length := fun k hk => by
    unfold shStep at hs
    split at hs
    · cases hs
    unfold vTail at hk ⊢
    split
    · rename_i c; rw [if_pos c] at hk; cases hk
    rename_i c4
    rw [if_neg c4] at hk
    split
    · rename_i co
      rw [if_pos co] at hs
      split at hs
      · cases hs
      · cases hs; simp [hl]
    rename_i co
    rw [if_neg co] at hs hk
    split
    · rename_i ce; rw [if_pos ce] at hk; cases hk
    rename_i ce
    split
    · rename_i c18
      rw [if_pos c18] at hs
      split at hs
      · cases hs
      · split at hs
        · cases hs
        · cases hs; exact hl
    rename_i c18
    rw [if_neg c18] at hs
    split
    · rename_i c19
      rw [if_pos c19] at hs
      split at hs
      · cases hs
      · cases hs; simp [hl]
    rename_i c19
    rw [if_neg c19] at hs
    cases hs
    split <;> exact hl
  refine ⟨fun h18 hnil => ?_, fun hc => ?_⟩
  · rw [hnil] at hl
    have hop : s.op = [] := List.length_eq_zero_iff.1 hl.symm
    unfold shStep at hs
    split at hs
    · cases hs
    split at hs
    · rename_i co; simp only [opnP] at co; omega
    rw [hop] at hs
    rcases h18 with c | c
    · rw [if_pos c] at hs; cases hs
    · rw [if_neg (by omega), if_pos c] at hs; cases hs
  · unfold vStep at hc ⊢
    split
    · rename_i c; rw [if_pos c] at hc; exact htail _ hc
    split
    · rename_i c1 c; rw [if_neg c1, if_pos c] at hc; cases hc
    · rename_i c1 c; rw [if_neg c1, if_neg c] at hc; exact htail _ hc
def An176 (l : List W) (s : Sh) (r : Option (List Int × List Bool)) (X : Res) : Prop :=
  match r with
  | some (H, D) => ∃ D' bs, X = ([.pt false () (eWa false l s H D' bs 0 0)], [])
  | none => ∃ H D bs c p, c ≠ 0 ∧ X = ([.pt false () (eWa false l s H D bs c p)], [])
theorem lim8 {β : Type} {e : β → TV} {xs : List β} {y : TV} {B : Nat} (h : xs.length ≤ 1000) (hB : B ≤ 1000) : decide (((xs.map e).length + ([y] : List TV).length) * B < lim) = true := by
  have hlim : lim = 140737488355328 := rfl
  rw [hlim, List.length_map]
  refine dT ?_
  simp only [List.length_cons, List.length_nil]
  have : (xs.length + (0 + 1)) * B ≤ 1001 * 1000 := Nat.mul_le_mul (by omega) hB
  omega
set_option maxHeartbeats 1000000 in
theorem loop176 (l : List W) (hl : smallL l) (h60 : l.length ≤ 60) (s' : Sh) : ∀ (d i : Nat) (s : Sh) (v : Vs) (hs : List Int) (ds : List Bool) (bs : List Int), l.length - i = d → i ≤ l.length → shGo l (l.drop i) i s = some s' → s.op.length ≤ 8 → (∀ i s, ShI l i s → True) → ShI l i s → VI v → v.st.length = s.op.length → hs.length = i → ds.length = i → bs.length = i →
    ∃ res, S cx 176 (H176_0 (l.map (eW false)) (l.map (eW false)) (s'.ends.map i64) (s'.other.map i64) (s'.opens.map rowN) (hs.map i64) (ds.map tb) (bs.map i64) v.h v.d (rO v.st) i) = some res ∧ An176 l s' (vGo (l.drop i) v hs ds) res := by
  have e1 : (l.map (eW false)).length = l.length := List.length_map _
  intro d
  induction d with
  | zero =>
    intro i s v hs ds bs hd hi hg h8 _ hI hv hst h1 h2 h3
    obtain rfl : i = l.length := by omega
    rw [List.drop_length, vGo]
    have fin : ∀ (c p : Int) {res : Res}, S cx 176 (G176_52 (l.map (eW false)) (s'.ends.map i64) (s'.other.map i64) (s'.opens.map rowN) ((hs ++ [v.h]).map i64) ((ds ++ [v.d]).map tb) (bs.map i64) c p) = some res → res = ([.pt false () (eWa false l s' (hs ++ [v.h]) (ds ++ [v.d]) bs c p)], []) := fun c p res h => by
      have h2 := eG176_52 (show S cx 176 (NG176_52 (l.map (eW false)) (s'.ends.map i64) (s'.other.map i64) (s'.opens.map rowN) ((hs ++ [v.h]).map i64) ((ds ++ [v.d]).map tb) (bs.map i64) c p) = some ([.pt false () (eWa false l s' (hs ++ [v.h]) (ds ++ [v.d]) bs c p)], []) from rfl)
      exact (Option.some.inj (h2.symm.trans h)).symm
    have g52 : ∀ (c p : Int), S cx 176 (G176_52 (l.map (eW false)) (s'.ends.map i64) (s'.other.map i64) (s'.opens.map rowN) ((hs ++ [v.h]).map i64) ((ds ++ [v.d]).map tb) (bs.map i64) c p) = some ([.pt false () (eWa false l s' (hs ++ [v.h]) (ds ++ [v.d]) bs c p)], []) := fun c p => eG176_52 rfl
    have a1 : hs.map i64 ++ [i64 v.h] = (hs ++ [v.h]).map i64 := by simp
    have a2 : ds.map tb ++ [tb v.d] = (ds ++ [v.d]).map tb := by simp
    have b8 : decide (((hs.map i64).length + ([i64 v.h] : List TV).length) * 8 < lim) = true := lim8 (by omega) (by omega)
    have b1 : decide (((ds.map tb).length + ([tb v.d] : List TV).length) * 1 < lim) = true := lim8 (by omega) (by omega)
    by_cases c : v.h = 0
    · rw [if_pos c]
      refine ⟨_, eH176_0 (bif_neg (dF (by omega)) (all176b b8 b1 b1 b8 (eG176_35 (bif_neg (dF (by omega)) ?_)))), ds ++ [v.d], bs, rfl⟩
      rw [a1, a2]; exact g52 0 0
    · rw [if_neg c]
      have := hv.h0
      refine ⟨_, eH176_0 (bif_neg (dF (by omega)) (all176b b8 b1 b1 b8 (eG176_35 (bif_pos (dT (by omega)) ?_)))), hs ++ [v.h], ds ++ [v.d], bs, 3, (((l.map (eW false)).length : Nat) : Int), by decide, rfl⟩
      rw [a1, a2]; exact g52 3 _
  | succ d ih =>
    intro i s v hs ds bs hd hi hg h8 hT hI hv hst h1 h2 h3
    obtain ⟨x, hx⟩ := at_some (show i < l.length by omega)
    rw [drop_at hx, vGo]
    rw [drop_at hx, shGo] at hg
    cases hss : shStep l i x s with
    | none => rw [hss] at hg; cases hg
    | some s1 =>
      rw [hss] at hg
      have hI1 := hI.step hx hss
      obtain ⟨q1, q2⟩ := step_len hss hst
      obtain ⟨v', t1, t2⟩ := t194 v x hv (by omega) q1
      have a1 : hs.map i64 ++ [i64 v.h] = (hs ++ [v.h]).map i64 := by simp
      have a2 : ds.map tb ++ [tb v.d] = (ds ++ [v.d]).map tb := by simp
      have a3 : bs.map i64 ++ [i64 (baseV v.st)] = (bs ++ [baseV v.st]).map i64 := by simp
      have b8 : decide (((hs.map i64).length + ([i64 v.h] : List TV).length) * 8 < lim) = true := lim8 (by omega) (by omega)
      have b1 : decide (((ds.map tb).length + ([tb v.d] : List TV).length) * 1 < lim) = true := lim8 (by omega) (by omega)
      have b9 : decide (((bs.map i64).length + ([i64 (baseV v.st)] : List TV).length) * 8 < lim) = true := lim8 (by omega) (by omega)
      have c193 := t193 v.h v.d v.st (by omega)
      have pre : ∀ {res : Res}, S cx 176 (NG176_43 (l.map (eW false)) (l.map (eW false)) (s'.ends.map i64) (s'.other.map i64) (s'.opens.map rowN) ((hs ++ [v.h]).map i64) ((ds ++ [v.d]).map tb) ((bs ++ [baseV v.st]).map i64) v.h v.d (rO v.st) i x.op x.n (x.tb.map i64) i) = some res →
          S cx 176 (H176_0 (l.map (eW false)) (l.map (eW false)) (s'.ends.map i64) (s'.other.map i64) (s'.opens.map rowN) (hs.map i64) (ds.map tb) (bs.map i64) v.h v.d (rO v.st) i) = some res := fun {res} hh => by
        refine eH176_0 (bif_pos (dT (by omega)) (ck_pos (dT2 (by omega)) ?_))
        rw [getD_at hx, V3_S]
        refine all176a c193 b8 b1 b9 b1 b8 ?_
        rw [a1, a2, a3]
        exact eG176_43 hh
      by_cases c : (vStep x v).1 = 0
      · rw [if_pos c]
        rw [t2 c] at t1
        obtain ⟨res, r1, r2⟩ := ih (i + 1) s1 (vStep x v).2 (hs ++ [v.h]) (ds ++ [v.d]) (bs ++ [baseV v.st]) (by omega) (by omega) hg hI1.len hT hI1 (hv.step c) (q2 c) (by simp [h1]) (by simp [h2]) (by simp [h3])
        refine ⟨res, pre ?_, r2⟩
        unfold NG176_43
        rw [C194_S t1, c]
        refine bif_neg rfl (back_of ?_)
        rw [inc64 (n := l.length) (by omega) hl.1]
        exact r1
      · rw [if_neg c]
        refine ⟨_, pre ?_, hs ++ [v.h], ds ++ [v.d], bs ++ [baseV v.st], (vStep x v).1, i, c, rfl⟩
        unfold NG176_43
        rw [C194_S t1]
        exact bif_pos (by rw [bne_iff_ne]; exact c) rfl
/-- The heights and what is dead, of valid code. -/
def validV (l : List W) : Option (Sh × List Int × List Bool) := match shapeV l with | none => none | some s => (vGo l ⟨0, false, []⟩ [] []).map fun r => (s, r)
theorem t176 (l : List W) (hl : smallL l) : (shapeV l = none ∧ tw cx 176 [rW true false l] = some ([tnil], [])) ∨ ∃ s res, shapeV l = some s ∧ tw cx 176 [rW true false l] = some res ∧ An176 l s (vGo l ⟨0, false, []⟩ [] []) res := by
  have h142 := t142 l hl
  cases hs : shapeV l with
  | none =>
    rw [hs] at h142
    refine .inl ⟨rfl, e176 ?_⟩
    exact call_S h142 rfl
  | some s =>
    rw [hs] at h142
    have hsh := shapeV_inv hs
    have hgo : shGo l l 0 ⟨List.replicate l.length (-1), List.replicate l.length (-1), List.replicate l.length [], []⟩ = some s := by
      unfold shapeV at hs
      rw [if_pos hsh.2.2] at hs
      exact hs
    obtain ⟨res, r1, r2⟩ := loop176 l hl hsh.2.2.1 s l.length 0 _ ⟨0, false, []⟩ [] [] [] (by omega) (by omega) (by rw [List.drop_zero]; exact hgo) (by simp) (fun _ _ _ => trivial) (sh0 l) vi0 rfl rfl rfl rfl
    rw [List.drop_zero] at r2
    refine .inr ⟨s, res, rfl, e176 ?_, r2⟩
    exact call_S h142 r1
theorem t145 (l : List W) (hl : smallL l) : match validV l with
    | some (s, H, D) => ∃ D' bs, tw cx 145 [rW true false l] = some ([.pt false () (eWa false l s H D' bs 0 0)], [])
    | none => tw cx 145 [rW true false l] = some ([tnil], []) := by
  unfold validV
  rcases t176 l hl with ⟨h1, h2⟩ | ⟨s, res, h1, h2, h3⟩
  · rw [h1]
    exact e145 (call_S h2 rfl)
  · rw [h1]
    cases hv : vGo l ⟨0, false, []⟩ [] [] with
    | none =>
      rw [hv] at h3
      obtain ⟨H, D, bs, c, p, hc, rfl⟩ := h3
      exact e145 (call_S h2 (bif_pos (by rw [bne_iff_ne]; exact hc) rfl))
    | some r =>
      rw [hv] at h3
      obtain ⟨H, D⟩ := r
      obtain ⟨D', bs, rfl⟩ := h3
      exact ⟨D', bs, e145 (call_S h2 rfl)⟩
end Go.Tree.M

/- The reference's validator. -/
namespace Go.Tree.M
open Go.Proofs
set_option linter.unusedVariables false
set_option linter.unusedSimpArgs false
def bsV : List (Int × Bool) → List Int := fun st => (0 :: st.map (·.1)).dropLast
theorem bsV_app (ys : List (Int × Bool)) (e : Int × Bool) : bsV (ys ++ [e]) = bsV ys ++ [baseV ys] := by
  have h1 : bsV (ys ++ [e]) = 0 :: ys.map (·.1) := by
    simp only [bsV, List.map_append, List.map_cons, List.map_nil]
    rw [← List.cons_append, List.dropLast_concat]
  rw [h1]
  rcases last_cases ys with rfl | ⟨zs, z, rfl⟩
  · rfl
  · rw [baseV_app]
    simp only [bsV, List.map_append, List.map_cons, List.map_nil]
    rw [← List.cons_append, List.dropLast_concat]
theorem bsV_len (st : List (Int × Bool)) : (bsV st).length = st.length := by simp [bsV]
abbrev dsV (st : List (Int × Bool)) : List Bool := st.map (·.2)
def An143 (l : List W) (r : Option (List Int × List Bool)) (X : Res) : Prop :=
  match r with
  | some (H, D) => X = ([.st [rI false H, rB false D, i64 0, i64 ((l.length : Nat) : Int)]], [])
  | none => ∃ H D c p, c ≠ 0 ∧ X = ([.st [rI false H, rB false D, i64 c, i64 p]], [])
theorem lastD {ys : List Bool} {b : Bool} (h : ys.length ≤ 1073741824) {n : Nat} (hn : n = ys.length + 1) : ((ys ++ [b]).map tb).getD (0 + (w64 ((n : Int) - 1)).toNat) (.dead ()) = tb b := by
  rw [w64_id (by omega) (by omega), show 0 + ((n : Int) - 1).toNat = ys.length by omega, List.map_append, List.getD_eq_getElem?_getD, List.getElem?_append_right (by simp), List.length_map, Nat.sub_self]
  rfl
theorem lastI {ys : List Int} {b : Int} (h : ys.length ≤ 1073741824) {n : Nat} (hn : n = ys.length + 1) : ((ys ++ [b]).map i64).getD (0 + (w64 ((n : Int) - 1)).toNat) (.dead ()) = i64 b := by
  rw [w64_id (by omega) (by omega), show 0 + ((n : Int) - 1).toNat = ys.length by omega, List.map_append, List.getD_eq_getElem?_getD, List.getElem?_append_right (by simp), List.length_map, Nat.sub_self]
  rfl
theorem initT {β : Type} {e : β → TV} {ys : List β} {b : β} (h : ys.length ≤ 1073741824) {n : Nat} (hn : n = ys.length + 1) : (((ys ++ [b]).map e).drop 0).take ((w64 ((n : Int) - 1) - 0).toNat) = ys.map e := by
  rw [w64_id (by omega) (by omega), show ((n : Int) - 1 - 0).toNat = ys.length by omega, List.drop_zero, List.map_append, List.take_left' (by simp)]
set_option maxHeartbeats 2000000 in
theorem loop143 (l : List W) (hl : smallL l) (h60 : l.length ≤ 60) (s' : Sh) : ∀ (d i : Nat) (s : Sh) (v : Vs) (hs : List Int) (ds : List Bool) (p : Int), l.length - i = d → i ≤ l.length → shGo l (l.drop i) i s = some s' → ShI l i s → VI v → v.st.length = s.op.length → hs.length = i → ds.length = i →
    ∃ res, S cx 143 (H143_0 (l.map (eW false)) (hs.map i64) (ds.map tb) p v.h (baseV v.st) v.d ((bsV v.st).map i64) ((dsV v.st).map tb) i) = some res ∧ An143 l (vGo (l.drop i) v hs ds) res := by
  have e1 : (l.map (eW false)).length = l.length := List.length_map _
  intro d
  induction d with
  | zero =>
    intro i s v hs ds p hd hi hg hI hv hst h1 h2
    obtain rfl : i = l.length := by omega
    rw [List.drop_length, vGo]
    have a1 : hs.map i64 ++ [i64 v.h] = (hs ++ [v.h]).map i64 := by simp
    have b8 : decide (((hs.map i64).length + ([i64 v.h] : List TV).length) * 8 < lim) = true := lim8 (by omega) (by omega)
    have hg2 : ∀ c : Int, S cx 143 (G143_2 (hs.map i64 ++ [i64 v.h]) (ds.map tb) c (((l.map (eW false)).length : Nat) : Int)) = some ([.st [rI false (hs ++ [v.h]), rB false ds, i64 c, i64 ((l.length : Nat) : Int)]], []) := fun c => by
      rw [a1, e1]; exact eG143_2 rfl
    by_cases c : v.h = 0
    · rw [if_pos c]
      exact ⟨_, eH143_0 (bif_neg (dF (by omega)) (ck_pos b8 (bif_neg (by rw [c]; rfl) (hg2 0)))), rfl⟩
    · rw [if_neg c]
      exact ⟨_, eH143_0 (bif_neg (dF (by omega)) (ck_pos b8 (bif_pos (by rw [bne_iff_ne]; exact c) (hg2 3)))), hs ++ [v.h], ds, 3, ((l.length : Nat) : Int), by decide, rfl⟩
  | succ d ih =>
    intro i s v hs ds p hd hi hg hI hv hst h1 h2
    obtain ⟨x, hx⟩ := at_some (show i < l.length by omega)
    rw [drop_at hx, vGo]
    rw [drop_at hx, shGo] at hg
    cases hss : shStep l i x s with
    | none => rw [hss] at hg; cases hg
    | some s1 =>
      rw [hss] at hg
      have hI1 := hI.step hx hss
      obtain ⟨q1, q2⟩ := step_len hss hst
      have h8 : v.st.length ≤ 8 := by have := hI.len; omega
      have hb := hv.base
      have h4 := hv.h4
      have hof := offV_lo x.op
      have hon := onV_lo x.op
      have a1 : hs.map i64 ++ [i64 v.h] = (hs ++ [v.h]).map i64 := by simp
      have a2 : ds.map tb ++ [tb v.d] = (ds ++ [v.d]).map tb := by simp
      have b8 : decide (((hs.map i64).length + ([i64 v.h] : List TV).length) * 8 < lim) = true := lim8 (by omega) (by omega)
      have b1 : decide (((ds.map tb).length + ([tb v.d] : List TV).length) * 1 < lim) = true := lim8 (by omega) (by omega)
      have hlim : lim = 140737488355328 := rfl
      -- what comes then
      have next : ∀ {res : Res}, (vStep x v).1 = 0 → ∃ res, S cx 143 (B143_0 (l.map (eW false)) ((hs ++ [v.h]).map i64) ((ds ++ [v.d]).map tb) i (vStep x v).2.h (baseV (vStep x v).2.st) (vStep x v).2.d ((bsV (vStep x v).2.st).map i64) ((dsV (vStep x v).2.st).map tb) (w64 ((i : Int) + 1))) = some res ∧ An143 l (vGo (l.drop (i + 1)) (vStep x v).2 (hs ++ [v.h]) (ds ++ [v.d])) res := fun {_} c => by
        obtain ⟨res, r1, r2⟩ := ih (i + 1) s1 (vStep x v).2 (hs ++ [v.h]) (ds ++ [v.d]) i (by omega) (by omega) hg hI1 (hv.step c) (q2 c) (by simp [h1]) (by simp [h2])
        refine ⟨res, back_of ?_, r2⟩
        rw [inc64 (n := l.length) (by omega) hl.1]
        exact r1
      -- behind the first part
      have tail : ∀ k k' : Int, k' + (onV x.op - offV x.op) = k → -10 ≤ k' → k' ≤ 20 → baseV v.st ≤ k → vStep x v = vTail x k v → ∃ res, S cx 143 (G143_1 (l.map (eW false)) ((hs ++ [v.h]).map i64) ((ds ++ [v.d]).map tb) i k' (baseV v.st) v.d ((bsV v.st).map i64) ((dsV v.st).map tb) x.op x.n (x.tb.map i64) (offV x.op) (onV x.op) i) = some res ∧ An143 l (if (vStep x v).1 = 0 then vGo (l.drop (i + 1)) (vStep x v).2 (hs ++ [v.h]) (ds ++ [v.d]) else none) res := fun k k' hk kl kh kb he => by
        have hw : w64 (k' + (w64 (onV x.op - offV x.op))) = k := by
          rw [w64_id (x := onV x.op - offV x.op) (by omega) (by omega), w64_id (by omega) (by omega)]; exact hk
        by_cases c4 : k > 4
        · have hs4 : vStep x v = (4, v) := by rw [he, vTail, if_pos c4]
          rw [hs4, if_neg (show ¬ ((4 : Int) = 0) by decide)]
          refine ⟨_, eG143_1 (bif_pos (dT (by rw [hw]; exact c4)) rfl), hs ++ [v.h], ds ++ [v.d], 4, i, by decide, rfl⟩
        · have pre : ∀ {res : Res}, S cx 143 (C163 x.op fun v_37 =>
              .bif (v_37)
              (.ck (decide ((((bsV v.st).map i64).length + ([i64 (baseV v.st)] : List TV).length) * 8 < lim)) <|
                .ck (decide ((((dsV v.st).map tb).length + ([tb v.d] : List TV).length) * 1 < lim)) <|
                B143_0 (l.map (eW false)) ((hs ++ [v.h]).map i64) ((ds ++ [v.d]).map tb) i k k v.d ((bsV v.st).map i64 ++ ([i64 (baseV v.st)])) ((dsV v.st).map tb ++ ([tb v.d])) (w64 (i + 1)))
              (.bif ((x.op == 18))
                (G143_3 (l.map (eW false)) ((hs ++ [v.h]).map i64) ((ds ++ [v.d]).map tb) i k (baseV v.st) v.d ((bsV v.st).map i64) ((dsV v.st).map tb) x.op x.n (x.tb.map i64) ((((bsV v.st).map i64).length : Nat) : Int) i true)
                (G143_3 (l.map (eW false)) ((hs ++ [v.h]).map i64) ((ds ++ [v.d]).map tb) i k (baseV v.st) v.d ((bsV v.st).map i64) ((dsV v.st).map tb) x.op x.n (x.tb.map i64) ((((bsV v.st).map i64).length : Nat) : Int) i (x.op == 19)))) = some res →
              S cx 143 (G143_1 (l.map (eW false)) ((hs ++ [v.h]).map i64) ((ds ++ [v.d]).map tb) i k' (baseV v.st) v.d ((bsV v.st).map i64) ((dsV v.st).map tb) x.op x.n (x.tb.map i64) (offV x.op) (onV x.op) i) = some res := fun {res} hh => by
            refine eG143_1 ?_
            unfold NG143_1
            rw [hw]
            exact bif_neg (dF c4) hh
          have eb : ((bsV v.st).map i64).length = v.st.length := by rw [List.length_map, bsV_len]
          have ed : ((dsV v.st).map tb).length = v.st.length := by rw [List.length_map, List.length_map]
          by_cases co : opnP x.op
          · have hso : vStep x v = (0, ⟨k, v.d, v.st ++ [(k, v.d)]⟩) := by rw [he, vTail, if_neg c4, if_pos co]
            obtain ⟨res, r1, r2⟩ := next (res := ([], [])) (by rw [hso])
            rw [if_pos (by rw [hso])]
            refine ⟨res, pre ?_, r2⟩
            rw [C163_S (t163 x.op)]
            refine bif_pos (dT co) (ck_pos (lim8 (by rw [bsV_len]; omega) (by omega)) (ck_pos (lim8 (by rw [List.length_map]; omega) (by omega)) ?_))
            rw [hso] at r1
            simp only [baseV_app, bsV_app, dsV, List.map_append, List.map_cons, List.map_nil] at r1 ⊢
            exact r1
          · by_cases ce : (x.op = 18 ∨ x.op = 19) ∧ k ≠ baseV v.st
            · have hso : vStep x v = (3, v) := by rw [he, vTail, if_neg c4, if_neg co, if_pos ce]
              rw [hso, if_neg (show ¬ ((3 : Int) = 0) by decide)]
              have hg3 : ∀ b : Bool, b = true → S cx 143 (G143_3 (l.map (eW false)) ((hs ++ [v.h]).map i64) ((ds ++ [v.d]).map tb) i k (baseV v.st) v.d ((bsV v.st).map i64) ((dsV v.st).map tb) x.op x.n (x.tb.map i64) ((((bsV v.st).map i64).length : Nat) : Int) i b) = some ([.st [rI false (hs ++ [v.h]), rB false (ds ++ [v.d]), i64 3, i64 i]], []) := fun b hb => by
                rw [hb]
                exact eG143_3 (bif_pos rfl (bif_pos (by rw [bne_iff_ne]; exact ce.2) rfl))
              refine ⟨_, pre ?_, hs ++ [v.h], ds ++ [v.d], 3, i, by decide, rfl⟩
              rw [C163_S (t163 x.op)]
              refine bif_neg (dF co) ?_
              rcases ce.1 with c | c
              · exact bif_pos (by simpa using c) (hg3 true rfl)
              · exact bif_neg (by rw [c]; rfl) (hg3 _ (by simpa using c))
            · have hc0 : (vStep x v).1 = 0 := by
                rw [he, vTail, if_neg c4, if_neg co, if_neg ce]
                repeat' split
                all_goals rfl
              obtain ⟨res, r1, r2⟩ := next (res := ([], [])) hc0
              rw [if_pos hc0]
              refine ⟨res, pre ?_, r2⟩
              rw [he, vTail, if_neg c4, if_neg co, if_neg ce] at r1
              rw [C163_S (t163 x.op)]
              refine bif_neg (dF co) ?_
              by_cases c18 : x.op = 18
              · rw [if_pos c18] at r1
                obtain ⟨ys, y, hy⟩ := (last_cases v.st).resolve_left (q1 (.inl c18))
                have h9 : ys.length ≤ 8 := by have := h8; rw [hy] at this; simp at this; omega
                refine bif_pos (by simpa using c18) (eG143_3 (bif_pos rfl (bif_neg ?_ (ck_pos ?_ ?_))))
                · rw [bne_eq_false_iff_eq]
                  by_cases c : k = baseV v.st
                  · exact c
                  · exact absurd ⟨.inl c18, c⟩ ce
                · rw [eb, ed, hy, List.length_append, List.length_cons, List.length_nil, w64_id (by omega) (by omega)]
                  exact dT2 (by omega)
                · have hyl : ys.length ≤ 1073741824 := by rw [hy] at h8; simp at h8; omega
                  rw [eb, hy, show dsV (ys ++ [y]) = dsV ys ++ [y.2] by simp, lastD (by simpa using hyl) (by simp), S_bool]
                  refine bif_neg (by rw [c18]; rfl) ?_
                  rw [hy, deadV_app] at r1
                  simp only [dsV, List.map_append, List.map_cons, List.map_nil] at r1 ⊢
                  exact r1
              · rw [if_neg c18] at r1
                refine bif_neg (by simpa using c18) ?_
                by_cases c19 : x.op = 19
                · rw [if_pos c19] at r1
                  obtain ⟨ys, y, hy⟩ := (last_cases v.st).resolve_left (q1 (.inr c19))
                  have h9 : ys.length ≤ 8 := by have := h8; rw [hy] at this; simp at this; omega
                  refine eG143_3 (bif_pos (by simpa using c19) (bif_neg ?_ (ck_pos ?_ ?_)))
                  · rw [bne_eq_false_iff_eq]
                    by_cases c : k = baseV v.st
                    · exact c
                    · exact absurd ⟨.inr c19, c⟩ ce
                  · rw [eb, ed, hy, List.length_append, List.length_cons, List.length_nil, w64_id (by omega) (by omega)]
                    exact dT2 (by omega)
                  · have hyl : ys.length ≤ 1073741824 := by rw [hy] at h8; simp at h8; omega
                    rw [eb, hy, show dsV (ys ++ [y]) = dsV ys ++ [y.2] by simp, lastD (by simpa using hyl) (by simp), S_bool, bsV_app]
                    refine bif_pos (by simpa using c19) (ck_pos ?_ ?_)
                    · simp only [List.length_map, List.length_append, bsV_len, List.length_cons, List.length_nil]; rw [w64_id (by omega) (by omega)]
                      exact dT2 (by omega)
                    · rw [lastI (by rw [bsV_len]; exact hyl) (by rw [bsV_len]; simp), S_int]
                      refine ck_pos ?_ (ck_pos ?_ ?_)
                      · simp only [List.length_map, List.length_append, bsV_len, List.length_cons, List.length_nil]; rw [w64_id (by omega) (by omega)]
                        exact dT2 (by omega)
                      · simp only [List.length_map, List.length_append, bsV_len, List.length_cons, List.length_nil]; rw [w64_id (by omega) (by omega)]
                        exact dT2 (by omega)
                      · rw [initT (by rw [bsV_len]; exact hyl) (by rw [bsV_len]; simp), initT (by simpa using hyl) (by simp)]
                        rw [hy, deadV_app, List.dropLast_concat] at r1
                        exact r1
                · rw [if_neg c19] at r1
                  refine eG143_3 (bif_neg (by simpa using c19) ?_)
                  by_cases c20 : x.op = 20
                  · rw [if_pos (Or.inl c20)] at r1; exact bif_pos (by simpa using c20) r1
                  refine bif_neg (by simpa using c20) ?_
                  by_cases c22 : x.op = 22
                  · rw [if_pos (Or.inr (Or.inl c22))] at r1; exact bif_pos (by simpa using c22) r1
                  refine bif_neg (by simpa using c22) ?_
                  by_cases c14 : x.op = 14
                  · rw [if_pos (Or.inr (Or.inr c14))] at r1; exact bif_pos (by simpa using c14) r1
                  · rw [if_neg (by omega)] at r1; exact bif_neg (by simpa using c14) r1
      -- the first part
      have hw1 : w64 (v.h - offV x.op) = v.h - offV x.op := w64_id (by omega) (by omega)
      have pre0 : ∀ {res : Res}, S cx 143 (.bif (decide (v.h - offV x.op < baseV v.st))
            (.bif ((!v.d))
              (.ret [.st [sl false ⟨1, false⟩ ((hs ++ [v.h]).map i64), sl false ⟨1, false⟩ ((ds ++ [v.d]).map tb), i64 2, i64 i]] [])
              (G143_1 (l.map (eW false)) ((hs ++ [v.h]).map i64) ((ds ++ [v.d]).map tb) i (w64 (baseV v.st + offV x.op)) (baseV v.st) v.d ((bsV v.st).map i64) ((dsV v.st).map tb) x.op x.n (x.tb.map i64) (offV x.op) (onV x.op) i))
            (G143_1 (l.map (eW false)) ((hs ++ [v.h]).map i64) ((ds ++ [v.d]).map tb) i v.h (baseV v.st) v.d ((bsV v.st).map i64) ((dsV v.st).map tb) x.op x.n (x.tb.map i64) (offV x.op) (onV x.op) i)) = some res →
          S cx 143 (H143_0 (l.map (eW false)) (hs.map i64) (ds.map tb) p v.h (baseV v.st) v.d ((bsV v.st).map i64) ((dsV v.st).map tb) i) = some res := fun {res} hh => by
        refine eH143_0 (bif_pos (dT (by omega)) (ck_pos (dT2 (by omega)) ?_))
        rw [getD_at hx, V3_S]
        refine ck_pos b8 (ck_pos b1 ?_)
        rw [C172_S (t172 x.op), a1, a2, hw1]
        exact hh
      by_cases c1 : offV x.op ≤ v.h - baseV v.st
      · have he : vStep x v = vTail x (v.h - offV x.op + onV x.op) v := by rw [vStep, if_pos c1]
        obtain ⟨res, r1, r2⟩ := tail (v.h - offV x.op + onV x.op) v.h (by omega) (by omega) (by omega) (by omega) he
        exact ⟨res, pre0 (bif_neg (dF (by omega)) r1), r2⟩
      · cases hd0 : v.d with
        | false =>
          have hso : vStep x v = (2, v) := by rw [vStep, if_neg c1, if_pos hd0]
          rw [hso, if_neg (show ¬ ((2 : Int) = 0) by decide)]
          rw [hd0] at pre0
          exact ⟨_, pre0 (bif_pos (dT (by omega)) (bif_pos rfl rfl)), hs ++ [v.h], ds ++ [false], 2, i, by decide, rfl⟩
        | true =>
          have he : vStep x v = vTail x (baseV v.st + onV x.op) v := by rw [vStep, if_neg c1, if_neg (by rw [hd0]; simp)]
          obtain ⟨res, r1, r2⟩ := tail (baseV v.st + onV x.op) (baseV v.st + offV x.op) (by omega) (by omega) (by omega) (by omega) he
          rw [hd0] at pre0 r1 r2
          refine ⟨res, pre0 (bif_pos (dT (by omega)) (bif_neg rfl ?_)), r2⟩
          rw [w64_id (by omega) (by omega)]
          exact r1
/-- The reference's walk of valid code. -/
abbrev eW4 (hs : List Int) (ds : List Bool) (c p : Int) : TV := .st [rI false hs, rB false ds, i64 c, i64 p]
theorem t143 (l : List W) (hl : smallL l) {s : Sh} (hs : shapeV l = some s) : ∃ res, tw cx 143 [rW true false l] = some res ∧ An143 l (vGo l ⟨0, false, []⟩ [] []) res := by
  have hsh := shapeV_inv hs
  have hgo : shGo l l 0 ⟨List.replicate l.length (-1), List.replicate l.length (-1), List.replicate l.length [], []⟩ = some s := by
    unfold shapeV at hs
    rw [if_pos hsh.2.2] at hs
    exact hs
  obtain ⟨res, r1, r2⟩ := loop143 l hl hsh.2.2.1 s l.length 0 _ ⟨0, false, []⟩ [] [] 0 (by omega) (by omega) (by rw [List.drop_zero]; exact hgo) (sh0 l) vi0 rfl rfl rfl
  rw [List.drop_zero] at r2
  exact ⟨res, e143 r1, r2⟩
theorem t102 (l : List W) (hl : smallL l) : match validV l with
    | some (s, H, D) => tw cx 102 [rW true false l] = some ([eW4 H D 0 ((l.length : Nat) : Int), tb true], [])
    | none => ∃ H D c p, tw cx 102 [rW true false l] = some ([eW4 H D c p, tb false], []) := by
  have h98 := t98 l hl
  unfold validV
  cases hs : shapeV l with
  | none =>
    rw [hs] at h98
    refine ⟨[], [], 0, 0, e102 ?_⟩
    rw [N102, C98_S h98]
    exact bif_pos rfl rfl
  | some s =>
    rw [hs] at h98
    obtain ⟨res, r1, r2⟩ := t143 l hl hs
    cases hv : vGo l ⟨0, false, []⟩ [] [] with
    | none =>
      rw [hv] at r2
      obtain ⟨H, D, c, p, hc, rfl⟩ := r2
      refine ⟨H, D, c, p, e102 ?_⟩
      rw [N102, C98_S h98]
      refine bif_neg rfl ?_
      have hcb : (c == 0) = false := by rw [beq_eq_false_iff_ne]; exact hc
      rw [C143_S r1, hcb]
      exact S_amb2 (S_amb2 rfl rfl) rfl
    | some r =>
      rw [hv] at r2
      obtain ⟨H, D⟩ := r
      have r2 : res = _ := r2
      subst r2
      refine e102 ?_
      rw [N102, C98_S h98]
      refine bif_neg rfl ?_
      rw [C143_S r1]
      exact S_amb2 (S_amb2 rfl rfl) rfl
end Go.Tree.M
