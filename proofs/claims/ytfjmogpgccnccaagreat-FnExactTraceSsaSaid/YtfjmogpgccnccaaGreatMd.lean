/- What these points come to: good ssas. Conditions: none. -/
import Derived.Test.YtfjmogpgccnccaaGreatMc
/- Values of an ssa: where they come to be, where they are there. Plain Lean. -/
namespace Go.Tree.Q
open Go.Proofs Go.Tree.Cg
set_option linter.unusedVariables false
set_option linter.unusedSimpArgs false
/-- A part of an ssa. -/
structure Pt where
  params : List Int
  code : List F
  go : Int
  test : Int
  next : List Int
  args : List (List Int)
  deriving DecidableEq, Inhabited
/-- An ssa. -/
structure Sa where
  parts : List Pt
  values : Int
  deriving DecidableEq, Inhabited
/-- The values that a line uses. -/
def usesV (x : F) : List Int := if x.op = 1 then [] else if x.op = 3 ∨ x.op = 5 then [x.a, x.b] else [x.a]
abbrev setsP (x : F) : Prop := 1 ≤ x.op ∧ x.op ≤ 4
/-- Where a part goes. -/
def goM (m : Int) (p : Pt) : Prop :=
  ((p.go = 2 ∨ p.go = 5) → 0 ≤ p.test ∧ p.test < m) ∧ (¬ (p.go = 2 ∨ p.go = 5) → p.test = 0) ∧
    ((p.go = 1 ∧ p.next.length = 1) ∨ (p.go = 2 ∧ p.next.length = 2) ∨ (p.go = 5 ∧ 2 ≤ p.next.length ∧ p.next.length ≤ 6) ∨ ((p.go = 3 ∨ p.go = 4) ∧ p.next.length = 0))
instance (m : Int) (p : Pt) : Decidable (goM m p) := by unfold goM; infer_instance
/-- As many args as must be. -/
def argM (ps : List Pt) (p : Pt) : Prop :=
  if p.go = 3 then p.args.length = 1 ∧ (p.args.getD 0 []).length = 3
  else p.args.length = p.next.length ∧ ∀ i, i < p.next.length → (p.args.getD i []).length = (ps.getD (p.next.getD i 0).toNat default).params.length
instance (ps : List Pt) (p : Pt) : Decidable (argM ps p) := by unfold argM; infer_instance
def nextM (n : Int) (p : Pt) : Prop := ∀ k ∈ p.next, 1 ≤ k ∧ k < n
instance (n : Int) (p : Pt) : Decidable (nextM n p) := by unfold nextM; infer_instance
/-- A part by itself. -/
def partG (s : Sa) (p : Pt) : Prop := (p.code.length ≤ 60 ∧ ∀ x ∈ p.code, flatM s.values x) ∧ nextM s.parts.length p ∧ goM s.values p ∧ argM s.parts p
instance (s : Sa) (p : Pt) : Decidable (partG s p) := by unfold partG; infer_instance
/-- What comes to be in a part: the values, each with its place. -/
def codeEv : List F → Nat → List (Int × Int)
  | [], _ => []
  | x :: xs, i => if setsP x then (x.dst, (i : Int)) :: codeEv xs (i + 1) else codeEv xs (i + 1)
def evP (p : Pt) : List (Int × Int) := p.params.map (fun v => (v, -1)) ++ codeEv p.code 0
abbrev St2 := List Int × List Int
def def1 (m k : Int) (st : St2) (e : Int × Int) : Option St2 :=
  if 12 ≤ e.1 ∧ e.1 < m ∧ st.1.getD e.1.toNat 0 < 0 then some (st.1.set e.1.toNat k, st.2.set e.1.toNat e.2) else none
def defsV (m k : Int) : List (Int × Int) → St2 → Option St2
  | [], st => some st
  | e :: es, st => (def1 m k st e).bind (defsV m k es)
def allV (m : Int) : List Pt → Nat → St2 → Option St2
  | [], _, st => some st
  | p :: ps, k, st => (defsV m k (evP p) st).bind (allV m ps (k + 1))
theorem getD_set {l : List Int} {i j : Nat} {v : Int} (h : i < l.length) : (l.set i v).getD j 0 = if i = j then v else l.getD j 0 := by
  rw [List.getD_eq_getElem?_getD, List.getElem?_set, List.getD_eq_getElem?_getD]
  split
  · rename_i c; subst c; simp [h]
  · rfl
theorem def1_ok {m k : Int} {st st' : St2} {e : Int × Int} (h : def1 m k st e = some st') (l1 : st.1.length = m.toNat) (l2 : st.2.length = m.toNat) :
    (12 ≤ e.1 ∧ e.1 < m ∧ st.1.getD e.1.toNat 0 < 0) ∧ st'.1.length = m.toNat ∧ st'.2.length = m.toNat ∧
      ∀ i : Nat, st'.1.getD i 0 = (if e.1.toNat = i then k else st.1.getD i 0) ∧ st'.2.getD i 0 = (if e.1.toNat = i then e.2 else st.2.getD i 0) := by
  unfold def1 at h
  split at h
  · rename_i c
    obtain rfl := Option.some.inj h
    refine ⟨c, by simp [l1], by simp [l2], fun i => ⟨getD_set (by omega), getD_set (by omega)⟩⟩
  · cases h
theorem defsV_ok {m k : Int} (hk : 0 ≤ k) : ∀ (es : List (Int × Int)) (st st' : St2), defsV m k es st = some st' → st.1.length = m.toNat → st.2.length = m.toNat →
    st'.1.length = m.toNat ∧ st'.2.length = m.toNat ∧ (∀ e ∈ es, 12 ≤ e.1 ∧ e.1 < m ∧ st'.1.getD e.1.toNat 0 = k ∧ st'.2.getD e.1.toNat 0 = e.2) ∧
      ∀ i : Nat, (st'.1.getD i 0 = st.1.getD i 0 ∧ st'.2.getD i 0 = st.2.getD i 0) ∨ (st.1.getD i 0 < 0 ∧ st'.1.getD i 0 = k ∧ ((i : Int), st'.2.getD i 0) ∈ es)
  | [], st, st', h, l1, l2 => by
    obtain rfl := Option.some.inj h
    exact ⟨l1, l2, fun e he => (by cases he), fun i => .inl ⟨rfl, rfl⟩⟩
  | e :: es, st, st', h, l1, l2 => by
    rw [defsV] at h
    cases h1 : def1 m k st e with
    | none => rw [h1] at h; cases h
    | some s1 =>
      rw [h1] at h
      obtain ⟨⟨c1, c2, c3⟩, k1, k2, g⟩ := def1_ok h1 l1 l2
      obtain ⟨r1, r2, r3, r4⟩ := defsV_ok hk es s1 st' h k1 k2
      have he : st'.1.getD e.1.toNat 0 = k ∧ st'.2.getD e.1.toNat 0 = e.2 := by
        obtain ⟨g1, g2⟩ := g e.1.toNat
        rw [if_pos rfl] at g1 g2
        rcases r4 e.1.toNat with ⟨q1, q2⟩ | ⟨q1, _⟩
        · exact ⟨q1.trans g1, q2.trans g2⟩
        · omega
      refine ⟨r1, r2, fun x hx => ?_, fun i => ?_⟩
      · rcases List.mem_cons.1 hx with rfl | hx
        · exact ⟨c1, c2, he.1, he.2⟩
        · exact r3 x hx
      · obtain ⟨g1, g2⟩ := g i
        by_cases c : e.1.toNat = i
        · subst c
          refine .inr ⟨c3, he.1, List.mem_cons.2 (.inl ?_)⟩
          rw [he.2]
          exact Prod.ext (by show ((e.1.toNat : Nat) : Int) = e.1; omega) rfl
        · rw [if_neg c] at g1 g2
          rcases r4 i with ⟨q1, q2⟩ | ⟨q1, q2, q3⟩
          · exact .inl ⟨q1.trans g1, q2.trans g2⟩
          · exact .inr ⟨by omega, q2, List.mem_cons_of_mem _ q3⟩
theorem allV_ok {m : Int} : ∀ (ps : List Pt) (k0 : Nat) (st st' : St2), allV m ps k0 st = some st' → st.1.length = m.toNat → st.2.length = m.toNat →
    st'.1.length = m.toNat ∧ st'.2.length = m.toNat ∧ (∀ (j : Nat) (hj : j < ps.length), ∀ e ∈ evP ps[j], 12 ≤ e.1 ∧ e.1 < m ∧ st'.1.getD e.1.toNat 0 = ((k0 + j : Nat) : Int) ∧ st'.2.getD e.1.toNat 0 = e.2) ∧
      ∀ i : Nat, (st'.1.getD i 0 = st.1.getD i 0 ∧ st'.2.getD i 0 = st.2.getD i 0) ∨ (st.1.getD i 0 < 0 ∧ ∃ (j : Nat) (hj : j < ps.length), st'.1.getD i 0 = ((k0 + j : Nat) : Int) ∧ ((i : Int), st'.2.getD i 0) ∈ evP ps[j])
  | [], k0, st, st', h, l1, l2 => by
    obtain rfl := Option.some.inj h
    exact ⟨l1, l2, fun j hj => (by simp at hj), fun i => .inl ⟨rfl, rfl⟩⟩
  | p :: ps, k0, st, st', h, l1, l2 => by
    rw [allV] at h
    cases h1 : defsV m k0 (evP p) st with
    | none => rw [h1] at h; cases h
    | some s1 =>
      rw [h1] at h
      obtain ⟨k1, k2, d3, d4⟩ := defsV_ok (by omega) _ _ _ h1 l1 l2
      obtain ⟨r1, r2, r3, r4⟩ := allV_ok ps (k0 + 1) s1 st' h k1 k2
      have keep : ∀ i : Nat, 0 ≤ s1.1.getD i 0 → st'.1.getD i 0 = s1.1.getD i 0 ∧ st'.2.getD i 0 = s1.2.getD i 0 := fun i hi => by
        rcases r4 i with q | ⟨q, _⟩
        · exact q
        · omega
      refine ⟨r1, r2, fun j hj e he => ?_, fun i => ?_⟩
      · cases j with
        | zero =>
          obtain ⟨c1, c2, c3, c4⟩ := d3 e he
          obtain ⟨q1, q2⟩ := keep e.1.toNat (by omega)
          exact ⟨c1, c2, q1.trans c3, q2.trans c4⟩
        | succ j =>
          obtain ⟨c1, c2, c3, c4⟩ := r3 j (by simpa using hj) e (by simpa using he)
          exact ⟨c1, c2, by rw [c3]; omega, c4⟩
      · rcases r4 i with ⟨q1, q2⟩ | ⟨q1, j, hj, q2, q3⟩
        · rcases d4 i with ⟨u1, u2⟩ | ⟨u1, u2, u3⟩
          · exact .inl ⟨q1.trans u1, q2.trans u2⟩
          · exact .inr ⟨u1, 0, by simp, by rw [q1, u2]; rfl, by rw [q2]; exact u3⟩
        · have : st.1.getD i 0 < 0 := by
            rcases d4 i with ⟨u1, u2⟩ | ⟨u1, u2, u3⟩ <;> omega
          exact .inr ⟨this, j + 1, by simp; omega, by rw [q2]; omega, by simpa using q3⟩
theorem codeEv_mem : ∀ (xs : List F) (n : Nat) (v a : Int), (v, a) ∈ codeEv xs n ↔ ∃ (i : Nat) (h : i < xs.length), setsP xs[i] ∧ v = xs[i].dst ∧ a = ((n + i : Nat) : Int)
  | [], n, v, a => by simp [codeEv]
  | x :: xs, n, v, a => by
    have ih := codeEv_mem xs (n + 1) v a
    have tail : (∃ (i : Nat) (h : i < xs.length), setsP xs[i] ∧ v = xs[i].dst ∧ a = ((n + 1 + i : Nat) : Int)) ↔ ∃ (i : Nat) (h : i + 1 < (x :: xs).length), setsP (x :: xs)[i + 1] ∧ v = (x :: xs)[i + 1].dst ∧ a = ((n + (i + 1) : Nat) : Int) := by
      constructor
      · rintro ⟨i, h, h1, h2, h3⟩
        exact ⟨i, by simpa using h, h1, h2, by rw [h3]; omega⟩
      · rintro ⟨i, h, h1, h2, h3⟩
        exact ⟨i, by simpa using h, h1, h2, by rw [h3]; omega⟩
    have split0 : (∃ (i : Nat) (h : i < (x :: xs).length), setsP (x :: xs)[i] ∧ v = (x :: xs)[i].dst ∧ a = ((n + i : Nat) : Int)) ↔ (setsP x ∧ v = x.dst ∧ a = (n : Int)) ∨ ∃ (i : Nat) (h : i + 1 < (x :: xs).length), setsP (x :: xs)[i + 1] ∧ v = (x :: xs)[i + 1].dst ∧ a = ((n + (i + 1) : Nat) : Int) := by
      constructor
      · rintro ⟨i, h, h1, h2, h3⟩
        cases i with
        | zero => exact .inl ⟨h1, h2, h3⟩
        | succ i => exact .inr ⟨i, h, h1, h2, h3⟩
      · rintro (⟨h1, h2, h3⟩ | ⟨i, h, h1, h2, h3⟩)
        · exact ⟨0, by simp, h1, h2, h3⟩
        · exact ⟨i + 1, h, h1, h2, h3⟩
    rw [split0, ← tail, ← ih, codeEv]
    split
    · rename_i c
      rw [List.mem_cons]
      refine or_congr ?_ Iff.rfl
      rw [Prod.mk.injEq]
      exact ⟨fun h => ⟨c, h⟩, fun h => h.2⟩
    · rename_i c
      exact ⟨.inr, fun h => h.resolve_left fun h => c h.1⟩
theorem evP_mem {p : Pt} {v a : Int} : (v, a) ∈ evP p ↔ (v ∈ p.params ∧ a = -1) ∨ ∃ (i : Nat) (h : i < p.code.length), setsP p.code[i] ∧ v = p.code[i].dst ∧ a = (i : Int) := by
  rw [evP, List.mem_append, codeEv_mem]
  refine or_congr ?_ ?_
  · rw [List.mem_map]
    constructor
    · rintro ⟨w, hw, e⟩
      rw [Prod.mk.injEq] at e
      obtain ⟨rfl, rfl⟩ := e
      exact ⟨hw, rfl⟩
    · rintro ⟨h, rfl⟩
      exact ⟨v, h, rfl⟩
  · simp only [Nat.zero_add]
/-- Where values come to be, of all parts. -/
structure Df (s : Sa) (D A : List Int) : Prop where
  dl : D.length = s.values.toNat
  al : A.length = s.values.toNat
  ev : ∀ (k : Nat) (hk : k < s.parts.length), ∀ e ∈ evP s.parts[k], 12 ≤ e.1 ∧ e.1 < s.values ∧ D.getD e.1.toNat 0 = k ∧ A.getD e.1.toNat 0 = e.2
  vs : ∀ i : Nat, (i : Int) < s.values → D.getD i 0 = -1 ∨ ∃ (k : Nat) (hk : k < s.parts.length), D.getD i 0 = k ∧ ((i : Int), A.getD i 0) ∈ evP s.parts[k]
abbrev init2 (m : Int) : St2 := (List.replicate m.toNat (-1), List.replicate m.toNat 0)
theorem df_of {s : Sa} {st : St2} (h : allV s.values s.parts 0 (init2 s.values) = some st) : Df s st.1 st.2 := by
  obtain ⟨h1, h2, h3, h4⟩ := allV_ok _ _ _ _ h (by simp) (by simp)
  refine ⟨h1, h2, fun k hk e he => by simpa using h3 k hk e he, fun i hi => ?_⟩
  have hg : (init2 s.values).1.getD i 0 = -1 := by
    rw [List.getD_eq_getElem?_getD, List.getElem?_replicate, if_pos (by omega)]; rfl
  rcases h4 i with ⟨q, _⟩ | ⟨_, j, hj, q2, q3⟩
  · exact .inl (q.trans hg)
  · exact .inr ⟨j, hj, by simpa using q2, q3⟩
/-- Is a value there, ahead of a place of a part? -/
def thereP (m : Int) (N : List (List Nat)) (D A : List Int) (k : Nat) (at' : Int) (v : Int) : Prop :=
  0 ≤ v ∧ v < m ∧ (v < 12 ∨ (D.getD v.toNat 0 = k ∧ A.getD v.toNat 0 < at') ∨ (D.getD v.toNat 0 ≠ k ∧ 0 ≤ D.getD v.toNat 0 ∧ Dm N k (D.getD v.toNat 0).toNat))
abbrev testP (p : Pt) : Prop := p.go = 2 ∨ p.go = 5
/-- The values that a part uses behind its steps. -/
def endsV (p : Pt) : List Int := (if testP p then [p.test] else []) ++ p.args.flatten
def usesP (s : Sa) (N : List (List Nat)) (D A : List Int) (k : Nat) (p : Pt) : Prop :=
  (∀ (i : Nat) (h : i < p.code.length), ∀ v ∈ usesV p.code[i], thereP s.values N D A k i v) ∧ ∀ v ∈ endsV p, thereP s.values N D A k p.code.length v
/-- What leads where. -/
def nextN (s : Sa) : List (List Nat) := s.parts.map fun p => p.next.map Int.toNat
/-- A good ssa. -/
def goodS (s : Sa) : Prop :=
  (1 ≤ s.parts.length ∧ s.parts.length ≤ 11) ∧ (12 ≤ s.values ∧ s.values ≤ 250) ∧ (∀ p ∈ s.parts, partG s p) ∧ (s.parts.getD 0 default).params = [] ∧ (∀ k, k < s.parts.length → Star (Ed (nextN s) []) 0 k) ∧
    ∃ st, allV s.values s.parts 0 (init2 s.values) = some st ∧ ∀ (k : Nat) (h : k < s.parts.length), usesP s (nextN s) st.1 st.2 k s.parts[k]
end Go.Tree.Q

/- A flat step. -/
namespace Go.Tree.Q
open Go.Proofs
set_option linter.unusedVariables false
set_option linter.unusedSimpArgs false
def bitV (p : Prop) [Decidable p] : Int := if p then 1 else 0
/-- A word's step: what comes of it, and whether it does. -/
def doV (op a b : Int) : Int × Bool :=
  if op = 4 then (w64 (((BitVec.ofInt 64 (w64 (a + b)) &&& BitVec.ofInt 64 65535).toNat : Int)), true)
  else if op = 5 then (w64 (((BitVec.ofInt 64 (w64 (a - b)) &&& BitVec.ofInt 64 65535).toNat : Int)), true)
  else if op = 6 then (w64 (((BitVec.ofInt 64 (w64 (a * b)) &&& BitVec.ofInt 64 65535).toNat : Int)), true)
  else if op = 7 then (if b = 0 then (0, false) else (w64 (a.tdiv b), true))
  else if op = 8 then (bitV (a < b), true)
  else (bitV (a = b), true)
theorem t133 (b : Bool) : tw cx 133 [tb b] = some ([i64 (bitV (b = true))], []) := by
  refine e133 ?_
  cases b <;> rfl
theorem t111 (b : Bool) : tw cx 111 [tb b] = some ([i64 (bitV (b = true))], []) := by
  refine e111 ?_
  cases b <;> rfl
theorem bitV_dec (p : Prop) [Decidable p] : bitV (decide p = true) = bitV p := by
  unfold bitV; by_cases h : p <;> simp [h]
theorem t132 (op a b : Int) : tw cx 132 [i64 op, i64 a, i64 b] = some ([i64 (doV op a b).1, tb (doV op a b).2], []) := by
  refine e132 ?_
  simp only [N132, C133_S (t133 _), S_bif, S_ret, S_ck, beq_iff_eq, doV, bitV_dec]
  have e : bitV ((a == b) = true) = bitV (a = b) := by unfold bitV; simp
  try simp only [e]
  repeat' split
  all_goals first | rfl | (rename_i h1 h2; simp only [Bool.not_eq_true', decide_eq_false_iff_not] at h2; exact absurd h1 h2) | skip
theorem t107 (op a b : Int) : tw cx 107 [i64 op, i64 a, i64 b] = some ([i64 (doV op a b).1, tb (doV op a b).2], []) := by
  refine e107 ?_
  simp only [N107, C111_S (t111 _), S_bif, S_ret, S_ck, beq_iff_eq, doV, bitV_dec]
  have e : bitV ((a == b) = true) = bitV (a = b) := by unfold bitV; simp
  try simp only [e]
  repeat' split
  all_goals first | rfl | (rename_i h1 h2; simp only [Bool.not_eq_true', decide_eq_false_iff_not] at h2; exact absurd h1 h2) | skip
theorem and_word (x : Int) : wordP (w64 (((BitVec.ofInt 64 x &&& BitVec.ofInt 64 65535).toNat : Int))) := by
  have h : (BitVec.ofInt 64 x &&& BitVec.ofInt 64 65535).toNat ≤ 65535 := by
    rw [BitVec.toNat_and]
    exact Nat.le_trans Nat.and_le_right (by decide)
  rw [w64_id (by omega) (by omega)]
  exact ⟨by omega, by omega⟩
theorem doV_word {op a b : Int} (ha : wordP a) (hb : wordP b) : wordP (doV op a b).1 := by
  obtain ⟨a0, a1⟩ := ha
  obtain ⟨b0, b1⟩ := hb
  have hbit : ∀ (p : Prop) [Decidable p], wordP (bitV p) := fun p _ => by unfold bitV wordP; split <;> omega
  unfold doV
  split
  · exact and_word _
  · split
    · exact and_word _
    · split
      · exact and_word _
      · split
        · split
          · exact ⟨by omega, by omega⟩
          · have h1 : 0 ≤ a.tdiv b := Int.tdiv_nonneg a0 b0
            have h2 : a.tdiv b ≤ a := by
              rw [Int.tdiv_eq_ediv_of_nonneg a0]
              exact Int.ediv_le_self b a0
            show wordP (w64 (a.tdiv b))
            rw [w64_id (by omega) (by omega)]
            exact ⟨h1, by omega⟩
        · split <;> exact hbit _
abbrev rdV (v : List Int) (i : Int) : Int := v.getD i.toNat 0
/-- A flat step: whether it does, the names, the state. -/
def stepV (x : F) (v : List Int) (s : Sx) : Bool × List Int × Sx :=
  if x.op = 1 then (true, v.set x.dst.toNat x.n, s)
  else if x.op = 2 then (true, v.set x.dst.toNat (rdV v x.a), s)
  else if x.op = 3 then (if (doV x.fdo (rdV v x.a) (rdV v x.b)).2 = true then (true, v.set x.dst.toNat (doV x.fdo (rdV v x.a) (rdV v x.b)).1, s) else (false, v, s))
  else if x.op = 4 then (if rdV v x.a ≥ 16 then (false, v, s) else (true, v.set x.dst.toNat (rdV s.mem (rdV v x.a)), s))
  else if x.op = 5 then (if rdV v x.a ≥ 16 then (false, v, s) else (true, v, { s with mem := s.mem.set (rdV v x.a).toNat (rdV v x.b) }))
  else if s.told.length = 100 then (false, v, s) else (true, v, { s with told := s.told ++ [rdV v x.a] })
theorem rdV_word {v : List Int} {i : Int} (hv : ∀ x ∈ v, wordP x) : wordP (rdV v i) := by
  unfold rdV
  rw [List.getD_eq_getElem?_getD]
  cases h : v[i.toNat]? with
  | none => exact ⟨by simp, by simp⟩
  | some y => exact hv y (List.mem_of_getElem? h)
theorem set_word {v : List Int} {i : Nat} {n : Int} (hv : ∀ x ∈ v, wordP x) (hn : wordP n) : ∀ x ∈ v.set i n, wordP x := fun x hx => by
  rcases List.mem_or_eq_of_mem_set hx with h | h
  · exact hv x h
  · rw [h]; exact hn
theorem getD_I {v : List Int} {i : Int} (h : i.toNat < v.length) : (v.map i64).getD (0 + i.toNat) (.dead ()) = i64 (rdV v i) := by
  rw [Nat.zero_add, List.getD_eq_getElem?_getD, List.getElem?_map, rdV, List.getD_eq_getElem?_getD, List.getElem?_eq_getElem h]
  rfl
theorem set_I {v : List Int} {i n : Int} : (v.map i64).set (0 + i.toNat) (i64 n) = (v.set i.toNat n).map i64 := by
  rw [Nat.zero_add, List.map_set]
theorem app_lim {xs ys : List Int} (h : xs.length + ys.length ≤ 1000000) : decide (((xs.map i64).length + (ys.map i64).length) * 8 < lim) = true := by
  have hl : lim = 140737488355328 := rfl
  rw [List.length_map, List.length_map, hl]
  exact dT (by omega)
theorem t108 (s : Sx) (n : Int) (h : s.mem.length = 16) (hn : wordP n) : tw cx 108 [.pt true () (eS false s), i64 n] = some (if n ≥ 16 then ([i64 0, tb false], []) else ([i64 (rdV s.mem n), tb true], [])) := by
  obtain ⟨n0, n1⟩ := hn
  have e2 : (s.mem.map i64).length = 16 := by rw [List.length_map, h]
  refine e108 ?_
  by_cases c : n ≥ 16
  · rw [if_pos c]
    exact bif_pos (dT c) rfl
  · rw [if_neg c]
    refine bif_neg (dF c) (ck_pos (dT2 (by omega)) ?_)
    rw [getD_I (by omega), S_int, S_ret]
end Go.Tree.Q

/- An ssa is run. Plain Lean. -/
namespace Go.Tree.Q
open Go.Proofs Go.Tree.Cg
set_option linter.unusedVariables false
set_option linter.unusedSimpArgs false
/-- How a run stands, or ended: the state, each value's word, how, how many parts, the last part, how many steps of two. -/
structure Rn where
  st : Sx
  w : List Int
  fin : Int
  n : Int
  last : Int
  twos : Int
def twoV (x : F) (t : Int) : Int := if x.op = 3 then t + 1 else t
/-- A part's code. -/
def blkW : List F → List Int → Sx → Int → Bool × List Int × Sx × Int
  | [], v, s, t => (true, v, s, t)
  | x :: xs, v, s, t => if (stepV x v s).1 = true then blkW xs (stepV x v s).2.1 (stepV x v s).2.2 (twoV x t) else (false, (stepV x v s).2.1, (stepV x v s).2.2, twoV x t)
/-- Words are given to params. -/
def setPs : List Int → List Int → List Int → List Int
  | v :: vs, h :: hs, w => setPs vs hs (w.set v.toNat h)
  | _, _, w => w
/-- The way on. -/
def wayV (p : Pt) (w : List Int) : Int :=
  if p.go = 2 then (if rdV w p.test ≠ 0 then 0 else 1) else if p.go = 5 then (if rdV w p.test ≥ p.next.length then (p.next.length : Int) - 1 else rdV w p.test) else 0
def endLoc (p : Pt) (w : List Int) (loc : List Int) : List Int := (p.args.getD 0 []).map (rdV w) ++ loc.drop 3
def runS (s : Sa) : Nat → Nat → List Int → List Int → Sx → Int → Int → Int → Rn
  | 0, _, _, w, x, n, last, t => ⟨x, w, 3, n, last, t⟩
  | k + 1, at', h, w, x, n, last, t =>
    let p := s.parts.getD at' default
    let r := blkW p.code (setPs p.params h w) x t
    if r.1 = true then
      (if p.go = 3 then ⟨{ r.2.2.1 with loc := endLoc p r.2.1 r.2.2.1.loc }, r.2.1, 1, n + 1, at', r.2.2.2⟩
      else if p.go = 4 then ⟨r.2.2.1, r.2.1, 2, n + 1, at', r.2.2.2⟩
      else runS s k (rdV p.next (wayV p r.2.1)).toNat ((p.args.getD (wayV p r.2.1).toNat []).map (rdV r.2.1)) r.2.1 r.2.2.1 (n + 1) at' r.2.2.2)
    else ⟨r.2.2.1, r.2.1, 2, n + 1, at', r.2.2.2⟩
/-- What stands while an ssa runs. -/
structure Okw (s : Sa) (D A : List Int) (k : Nat) (i : Int) (w : List Int) (x : Sx) : Prop where
  wl : w.length = s.values.toNat
  th : ∀ v, thereP s.values (nextN s) D A k i v → wordP (rdV w v)
  ml : x.mem.length = 16
  mw : ∀ y ∈ x.mem, wordP y
  tl : x.told.length ≤ 100
  ll : x.loc.length = 8
/-- What a step does to words, where it does. -/
theorem stepV_set {x : F} {m : Int} {w : List Int} {s : Sx} (hx : flatM m x) (hu : ∀ v ∈ usesV x, wordP (rdV w v)) (hm : ∀ y ∈ s.mem, wordP y) (h : (stepV x w s).1 = true) :
    (setsP x → ∃ n, wordP n ∧ (stepV x w s).2.1 = w.set x.dst.toNat n) ∧ (¬ setsP x → (stepV x w s).2.1 = w) := by
  obtain ⟨_, _, hx⟩ := hx
  have hop : x.op = 1 ∨ x.op = 2 ∨ x.op = 3 ∨ x.op = 4 ∨ x.op = 5 ∨ x.op = 6 := by omega
  have ha : x.op ≠ 1 → wordP (rdV w x.a) := fun c => hu _ (by unfold usesV; rw [if_neg c]; split <;> simp)
  have hb : x.op = 3 ∨ x.op = 5 → wordP (rdV w x.b) := fun c => hu _ (by unfold usesV; rw [if_neg (by omega), if_pos c]; simp)
  unfold stepV at h ⊢
  by_cases c1 : x.op = 1
  · rw [if_pos c1] at h ⊢
    exact ⟨fun _ => ⟨_, by unfold wordP; omega, rfl⟩, fun c => absurd (show setsP x by unfold setsP; omega) c⟩
  rw [if_neg c1] at h ⊢
  by_cases c2 : x.op = 2
  · rw [if_pos c2] at h ⊢
    exact ⟨fun _ => ⟨_, ha c1, rfl⟩, fun c => absurd (show setsP x by unfold setsP; omega) c⟩
  rw [if_neg c2] at h ⊢
  by_cases c3 : x.op = 3
  · rw [if_pos c3] at h ⊢
    by_cases cd : (doV x.fdo (rdV w x.a) (rdV w x.b)).2 = true
    · rw [if_pos cd] at h ⊢
      exact ⟨fun _ => ⟨_, doV_word (ha c1) (hb (.inl c3)), rfl⟩, fun c => absurd (show setsP x by unfold setsP; omega) c⟩
    · rw [if_neg cd] at h; cases h
  rw [if_neg c3] at h ⊢
  by_cases c4 : x.op = 4
  · rw [if_pos c4] at h ⊢
    by_cases cd : rdV w x.a ≥ 16
    · rw [if_pos cd] at h; cases h
    · rw [if_neg cd] at h ⊢
      exact ⟨fun _ => ⟨_, rdV_word hm, rfl⟩, fun c => absurd (show setsP x by unfold setsP; omega) c⟩
  rw [if_neg c4] at h ⊢
  refine ⟨fun c => absurd c (by unfold setsP; omega), fun _ => ?_⟩
  by_cases c5 : x.op = 5
  · rw [if_pos c5] at h ⊢
    by_cases cd : rdV w x.a ≥ 16
    · rw [if_pos cd] at h; cases h
    · rw [if_neg cd]
  · rw [if_neg c5] at h ⊢
    by_cases cd : s.told.length = 100
    · rw [if_pos cd] at h; cases h
    · rw [if_neg cd]
/-- What a step leaves of a state. -/
theorem stepV_st {x : F} {m : Int} {w : List Int} {s : Sx} (hx : flatM m x) (hu : ∀ v ∈ usesV x, wordP (rdV w v)) (hl : s.mem.length = 16) (hm : ∀ y ∈ s.mem, wordP y) (ht : s.told.length ≤ 100) :
    (stepV x w s).2.2.mem.length = 16 ∧ (∀ y ∈ (stepV x w s).2.2.mem, wordP y) ∧ (stepV x w s).2.2.told.length ≤ 100 ∧ (stepV x w s).2.2.loc = s.loc ∧ (stepV x w s).2.1.length = w.length := by
  have hb : x.op = 5 → wordP (rdV w x.b) := fun c => hu _ (by unfold usesV; rw [if_neg (by omega), if_pos (by omega)]; simp)
  unfold stepV
  split
  · exact ⟨hl, hm, ht, rfl, List.length_set⟩
  split
  · exact ⟨hl, hm, ht, rfl, List.length_set⟩
  split
  · split
    · exact ⟨hl, hm, ht, rfl, List.length_set⟩
    · exact ⟨hl, hm, ht, rfl, rfl⟩
  split
  · split
    · exact ⟨hl, hm, ht, rfl, rfl⟩
    · exact ⟨hl, hm, ht, rfl, List.length_set⟩
  split
  · rename_i c5
    split
    · exact ⟨hl, hm, ht, rfl, rfl⟩
    · exact ⟨by rw [List.length_set]; exact hl, set_word hm (hb c5), ht, rfl, rfl⟩
  · split
    · exact ⟨hl, hm, ht, rfl, rfl⟩
    · refine ⟨hl, hm, ?_, rfl, rfl⟩
      rw [List.length_append, List.length_singleton]; omega
theorem rdV_set {w : List Int} {i : Nat} {n v : Int} (h : i < w.length) : rdV (w.set i n) v = if i = v.toNat then n else rdV w v := getD_set h
theorem Df.code {s : Sa} {D A : List Int} (h : Df s D A) {k : Nat} (hk : k < s.parts.length) {v : Int} (h0 : 0 ≤ v) (hv : v < s.values) (hd : D.getD v.toNat 0 = k) : (v ∈ s.parts[k].params ∧ A.getD v.toNat 0 = -1) ∨ ∃ (i : Nat) (h : i < s.parts[k].code.length), setsP s.parts[k].code[i] ∧ v = s.parts[k].code[i].dst ∧ A.getD v.toNat 0 = (i : Int) := by
  rcases h.vs v.toNat (by omega) with q | ⟨k', hk', q1, q2⟩
  · omega
  · obtain rfl : k' = k := by omega
    rw [show ((v.toNat : Nat) : Int) = v by omega] at q2
    exact evP_mem.1 q2
theorem Okw.uses {s : Sa} {D A : List Int} {k : Nat} {i : Nat} {w : List Int} {x : Sx} (h : Okw s D A k i w x) (hk : k < s.parts.length) (hi : i < s.parts[k].code.length) (hu : usesP s (nextN s) D A k s.parts[k]) :
    ∀ v ∈ usesV s.parts[k].code[i], wordP (rdV w v) := fun v hv => h.th v (hu.1 i hi v hv)
theorem Okw.step {s : Sa} {D A : List Int} {k : Nat} {i : Nat} {w : List Int} {x : Sx} (hd : Df s D A) (h : Okw s D A k i w x) (hk : k < s.parts.length) (hi : i < s.parts[k].code.length) (hx : flatM s.values s.parts[k].code[i])
    (hu : usesP s (nextN s) D A k s.parts[k]) (hs : (stepV s.parts[k].code[i] w x).1 = true) : Okw s D A k ((i + 1 : Nat) : Int) (stepV s.parts[k].code[i] w x).2.1 (stepV s.parts[k].code[i] w x).2.2 := by
  have hu' := h.uses hk hi hu
  obtain ⟨m1, m2, m3, m4, m5⟩ := stepV_st hx hu' h.ml h.mw h.tl
  obtain ⟨s1, s2⟩ := stepV_set hx hu' h.mw hs
  refine ⟨m5.trans h.wl, fun v hv => ?_, m1, m2, m3, by rw [m4]; exact h.ll⟩
  -- where it was there before
  have old : thereP s.values (nextN s) D A k i v → wordP (rdV (stepV s.parts[k].code[i] w x).2.1 v) := fun ho => by
    have hw := h.th v ho
    by_cases c : setsP s.parts[k].code[i]
    · obtain ⟨n, hn, e⟩ := s1 c
      obtain ⟨_, _, hx3⟩ := hx
      have hc : 1 ≤ s.parts[k].code[i].op ∧ s.parts[k].code[i].op ≤ 4 := c
      rw [e, rdV_set (by rw [h.wl]; omega)]
      split
      · exact hn
      · exact hw
    · rw [s2 c]; exact hw
  obtain ⟨v0, v1, hv⟩ := hv
  rcases hv with c | ⟨c1, c2⟩ | c
  · exact old ⟨v0, v1, .inl c⟩
  · by_cases c3 : A.getD v.toNat 0 < (i : Int)
    · exact old ⟨v0, v1, .inr (.inl ⟨c1, c3⟩)⟩
    · rcases hd.code hk v0 v1 c1 with ⟨_, q⟩ | ⟨j, hj, q1, q2, q3⟩
      · omega
      · obtain rfl : j = i := by omega
        obtain ⟨n, hn, e⟩ := s1 q1
        rw [e, rdV_set (by rw [h.wl, ← q2]; omega), if_pos (by rw [q2])]
        exact hn
  · exact old ⟨v0, v1, .inr (.inr c)⟩
/-- What comes of params. -/
theorem setPs_len : ∀ (ps h w : List Int), (setPs ps h w).length = w.length
  | [], _, w => rfl
  | _ :: _, [], w => rfl
  | v :: ps, x :: h, w => by rw [setPs, setPs_len ps h, List.length_set]
theorem setPs_at : ∀ (ps h w : List Int) (v : Int), (∀ p ∈ ps, p.toNat < w.length) → ps.length = h.length → (rdV (setPs ps h w) v ∈ h) ∨ ((∀ p ∈ ps, p.toNat ≠ v.toNat) ∧ rdV (setPs ps h w) v = rdV w v)
  | [], [], w, v, _, _ => .inr ⟨fun p hp => (by cases hp), rfl⟩
  | [], _ :: _, w, v, _, hl => by simp at hl
  | _ :: _, [], w, v, _, hl => by simp at hl
  | p :: ps, x :: h, w, v, hp, hl => by
    rw [setPs]
    rcases setPs_at ps h (w.set p.toNat x) v (fun q hq => by rw [List.length_set]; exact hp q (List.mem_cons_of_mem _ hq)) (by simpa using hl) with c | ⟨c1, c2⟩
    · exact .inl (List.mem_cons_of_mem _ c)
    · rw [rdV_set (hp p List.mem_cons_self)] at c2
      split at c2
      · rw [c2]; exact .inl List.mem_cons_self
      · rename_i c3
        refine .inr ⟨fun q hq => ?_, c2⟩
        rcases List.mem_cons.1 hq with rfl | hq
        · exact c3
        · exact c1 q hq
theorem dm_edge {N : List (List Nat)} {k k' d : Nat} (h : Dm N k d) (hne : d ≠ k) (hr : Star (Ed N []) 0 k') (he : Ed N [] k' k) : Dm N k' d := by
  refine ⟨h.1, hr, fun ⟨h0, hs⟩ => h.2.2 ⟨h0, ?_⟩⟩
  obtain ⟨e1, e2, _⟩ := he
  exact hs.tail ⟨e1, e2, by simpa using fun c => hne c.symm⟩
theorem Okw.edge {s : Sa} {D A : List Int} {k k' : Nat} {w h : List Int} {x : Sx} (hd : Df s D A) (hk : k < s.parts.length) (hk' : k' < s.parts.length) (ho : Okw s D A k' s.parts[k'].code.length w x)
    (hr : Star (Ed (nextN s) []) 0 k') (he : Ed (nextN s) [] k' k) (hl : s.parts[k].params.length = h.length) (hh : ∀ y ∈ h, wordP y) : Okw s D A k 0 (setPs s.parts[k].params h w) x := by
  have hp : ∀ p ∈ s.parts[k].params, 12 ≤ p ∧ p.toNat < w.length ∧ D.getD p.toNat 0 = k := fun p hp => by
    obtain ⟨h1, h2, h3, _⟩ := hd.ev k hk (p, -1) (evP_mem.2 (.inl ⟨hp, rfl⟩))
    exact ⟨h1, by rw [ho.wl]; omega, h3⟩
  refine ⟨(setPs_len ..).trans ho.wl, fun v hv => ?_, ho.ml, ho.mw, ho.tl, ho.ll⟩
  rcases setPs_at s.parts[k].params h w v (fun p q => (hp p q).2.1) hl with c | ⟨c1, c2⟩
  · exact hh _ c
  · rw [c2]
    obtain ⟨v0, v1, hv⟩ := hv
    refine ho.th v ⟨v0, v1, ?_⟩
    rcases hv with c | ⟨c3, c4⟩ | ⟨c3, c4, c5⟩
    · exact .inl c
    · rcases hd.code hk v0 v1 c3 with ⟨q, _⟩ | ⟨j, hj, q1, q2, q3⟩
      · exact absurd rfl (c1 v q)
      · omega
    · by_cases c6 : D.getD v.toNat 0 = (k' : Int)
      · refine .inr (.inl ⟨c6, ?_⟩)
        rcases hd.code hk' v0 v1 c6 with ⟨_, q⟩ | ⟨j, hj, q1, q2, q3⟩ <;> omega
      · exact .inr (.inr ⟨c6, c4, dm_edge c5 (by omega) hr he⟩)
theorem Okw.init {s : Sa} {D A : List Int} {w : List Int} {x : Sx} (hd : Df s D A) (h0 : 0 < s.parts.length) (hp : (s.parts.getD 0 default).params = []) (hw : w.length = s.values.toNat) (h12 : ∀ v : Int, 0 ≤ v → v < 12 → wordP (rdV w v))
    (ml : x.mem.length = 16) (mw : ∀ y ∈ x.mem, wordP y) (tl : x.told.length ≤ 100) (ll : x.loc.length = 8) : Okw s D A 0 0 w x := by
  refine ⟨hw, fun v hv => ?_, ml, mw, tl, ll⟩
  obtain ⟨v0, v1, hv⟩ := hv
  rcases hv with c | ⟨c3, c4⟩ | ⟨c3, c4, c5⟩
  · exact h12 v v0 c
  · rcases hd.code h0 v0 v1 (by simpa using c3) with ⟨q, _⟩ | ⟨j, hj, q1, q2, q3⟩
    · have e : s.parts.getD 0 default = s.parts[0] := by rw [List.getD_eq_getElem?_getD, List.getElem?_eq_getElem h0]; rfl
      rw [e] at hp
      rw [hp] at q; cases q
    · omega
  · refine absurd ⟨?_, .refl 0⟩ c5.2.2
    rw [List.mem_singleton]
    omega
end Go.Tree.Q

/- A good ssa, as the reference has it: parts. -/
namespace Go.Tree.Q
open Go.Proofs Go.Tree.Cg
set_option linter.unusedVariables false
set_option linter.unusedSimpArgs false
abbrev rII (q q' : Bool) (xs : List (List Int)) : TV := sl q ⟨1, true⟩ (xs.map (rI q'))
abbrev ePt (q q' : Bool) (p : Pt) : TV := .st [rI q p.params, rF q p.code, i64 p.go, i64 p.test, rI q p.next, rII q q' p.args]
abbrev rP (a q q' : Bool) (ps : List Pt) : TV := sl a ⟨6, true⟩ (ps.map (ePt q q'))
abbrev eSa (a q q' : Bool) (s : Sa) : TV := .st [rP a q q' s.parts, i64 s.values]
/-- Not too much for any memory. -/
def smallP (p : Pt) : Prop := p.params.length ≤ 1048576 ∧ p.code.length ≤ 1048576 ∧ p.next.length ≤ 1048576 ∧ p.args.length ≤ 1048576 ∧ ∀ l ∈ p.args, l.length ≤ 1048576
def smallA (s : Sa) : Prop := s.parts.length ≤ 1048576 ∧ ∀ p ∈ s.parts, smallP p
theorem pt_at {ps : List Pt} {q q' : Bool} {j : Nat} (h : j < ps.length) : (ps.map (ePt q q')).getD (0 + ((j : Nat) : Int).toNat) (.dead ()) = ePt q q' ps[j] := getD_at (List.getElem?_eq_getElem h)
theorem row_at {l : List (List Int)} {q : Bool} {j : Nat} (h : j < l.length) : (l.map (rI q)).getD (0 + ((j : Nat) : Int).toNat) (.dead ()) = rI q l[j] := getD_at (List.getElem?_eq_getElem h)
theorem cf_at {xs : List F} {j : Nat} (h : j < xs.length) : (xs.map eF).getD (0 + ((j : Nat) : Int).toNat) (.dead ()) = eF xs[j] := getD_at (List.getElem?_eq_getElem h)
theorem len_p {ps : List Pt} {q q' : Bool} : (ps.map (ePt q q')).length = ps.length := List.length_map _
theorem len_r {l : List (List Int)} {q : Bool} : (l.map (rI q)).length = l.length := List.length_map _
theorem len_f {xs : List F} : (xs.map eF).length = xs.length := List.length_map _
theorem t86 (x : F) : tw cx 86 [eF x] = some ([rI false (usesV x)], []) := by
  refine e86 ?_
  have hG : ∀ b : Bool, b = decide (x.op = 3 ∨ x.op = 5) → ¬ x.op = 1 → S cx 86 (G86_0 x.op x.fdo x.dst x.a x.b x.n b) = some ([rI false (usesV x)], []) := fun b hb h1 => by
    refine eG86_0 ?_
    unfold usesV
    rw [if_neg h1]
    by_cases c : x.op = 3 ∨ x.op = 5
    · rw [if_pos c]
      exact bif_pos (by rw [hb, dT c]) rfl
    · rw [if_neg c]
      exact bif_neg (by rw [hb, dF c]) rfl
  by_cases c1 : x.op = 1
  · refine bif_pos (by simp [c1]) ?_
    unfold usesV
    rw [if_pos c1]; rfl
  · refine bif_neg (by simp [c1]) ?_
    by_cases c3 : x.op = 3
    · exact bif_pos (by simp [c3]) (hG _ (by simp [c3]) c1)
    · exact bif_neg (by simp [c3]) (hG _ (by simp only [c3, false_or]; rfl) c1)
theorem t87 (op : Int) : tw cx 87 [i64 op] = some ([tb (decide (1 ≤ op ∧ op ≤ 4))], []) := by
  refine e87 ?_
  rw [N87, C80_S (t80 _ _ _), S_ret]
theorem t88 (p : Pt) (q : Bool) (h1 : p.args.length ≤ 6) (h2 : ∀ l ∈ p.args, l.length ≤ 1048576) : tw cx 88 [ePt true q p] = some ([rI false (endsV p)], []) := by
  have lim0 : lim = 140737488355328 := rfl
  have key : ∀ d j (out : List Int), p.args.length - j = d → j ≤ p.args.length → out.length ≤ 1 + 1048576 * j → S cx 88 (H88_1 (out.map i64) (p.args.map (rI q)) (j : Int)) = some ([rI false (out ++ (p.args.drop j).flatten)], []) := by
    intro d
    induction d with
    | zero =>
      intro j out hd hj ho
      obtain rfl : j = p.args.length := by omega
      rw [List.drop_length, List.flatten_nil, List.append_nil]
      exact eH88_1 (bif_neg (dF (by rw [len_r]; omega)) rfl)
    | succ d ih =>
      intro j out hd hj ho
      have hjl : j < p.args.length := by omega
      have hr := h2 _ (List.getElem_mem hjl)
      refine eH88_1 (bif_pos (dT (by rw [len_r]; omega)) (ck_pos (dT2 (by rw [len_r]; omega)) ?_))
      rw [row_at hjl, S_slR]
      refine ck_pos (decide_eq_true (by rw [len_i, len_i]; omega)) (back_of ?_)
      rw [inc64 hjl (by omega), ← List.map_append, ih (j + 1) (out ++ p.args[j]) (by omega) (by omega) (by rw [List.length_append]; omega), List.drop_eq_getElem_cons hjl, List.flatten_cons, List.append_assoc]
  have hG : ∀ out : List Int, out.length ≤ 1 → S cx 88 (G88_0 (p.params.map i64) (p.code.map eF) p.go p.test (p.next.map i64) (p.args.map (rI q)) (out.map i64)) = some ([rI false (out ++ p.args.flatten)], []) := fun out ho => by
    refine eG88_0 ?_
    have := key _ 0 out rfl (Nat.zero_le _) (by omega)
    rw [List.drop_zero] at this
    exact this
  refine e88 ?_
  by_cases c2 : p.go = 2
  · refine bif_pos (by simp [c2]) (ck_pos (decide_eq_true (by simp; omega)) ?_)
    refine (hG [p.test] (by simp)).trans ?_
    simp [endsV, testP, c2]
  · refine bif_neg (by simp [c2]) ?_
    by_cases c5 : p.go = 5
    · refine bif_pos (by simp [c5]) (ck_pos (decide_eq_true (by simp; omega)) ?_)
      refine (hG [p.test] (by simp)).trans ?_
      simp [endsV, testP, c5]
    · refine bif_neg (by simp [c5]) ?_
      refine (hG [] (by simp)).trans ?_
      simp [endsV, testP, c2, c5]
theorem t112 (b : Bk) (n : Int) (h : smallB b) : tw cx 112 [eB true b, i64 n] = some ([tb (decide (blockP n b))], []) := by
  obtain ⟨code, go, test, next⟩ := b
  refine e112 ?_
  have h1 : code.length ≤ 1073741824 := h.1
  have h2 : next.length ≤ 1073741824 := h.2
  have f1 : ((next.length : Nat) : Int) = 1 ↔ next.length = 1 := by omega
  have f2 : ((next.length : Nat) : Int) = 2 ↔ next.length = 2 := by omega
  have f0 : ((next.length : Nat) : Int) = 0 ↔ next.length = 0 := by omega
  have f3 : (2 ≤ ((next.length : Nat) : Int) ∧ ((next.length : Nat) : Int) ≤ 6) ↔ (2 ≤ next.length ∧ next.length ≤ 6) := by omega
  have f6 : ((code.length : Nat) : Int) ≤ 60 ↔ code.length ≤ 60 := by omega
  have hend : S cx 112 (H112_1 n (code.map eF) go test (next.map i64) (next.length : Int)) = some ([tb (decide (code.length ≤ 60 ∧ goP ⟨code, go, test, next⟩))], []) := by
    refine eH112_1 (bif_neg (dF (by simp)) ?_)
    simp only [NH112_1_s0, C154_S (t154 _), C80_S (t80 _ _ _), S_bif, S_ret, decide_eq_true_eq, beq_iff_eq, List.length_map, f0, f1, f2, f3, f6]
    repeat' split
    all_goals exact leaf (by simp only [goP, decide_eq_true_eq, Bool.false_eq_true, false_iff, true_iff, eq_self]; grind)
  have hin := all_list (xs := next) (q := fun k => decide (0 ≤ k ∧ k < n)) (H := fun i => S cx 112 (H112_1 n (code.map eF) go test (next.map i64) i)) (yes := fun _ => none) (no := ([tb false], [])) (fun j x hx => by
    have hj := lt_of_at hx
    have e1 : (next.map i64).length = next.length := List.length_map _
    refine ⟨fun hq r h => ?_, fun hq => ?_⟩
    · refine eH112_1 (bif_pos (dT (by omega)) (ck_pos (dT2 (by omega)) ?_))
      have hq' := of_decide_eq_true hq
      rw [getD_at hx, S_int]
      refine bif_neg (dF (by omega)) (bif_neg (dF (by omega)) (back_of ?_))
      rw [inc64 hj h2]
      exact h
    · refine eH112_1 (bif_pos (dT (by omega)) (ck_pos (dT2 (by omega)) ?_))
      have hq' := of_decide_eq_false hq
      rw [getD_at hx, S_int]
      by_cases c : x < 0
      · exact bif_pos (dT c) rfl
      · exact bif_neg (dF c) (bif_pos (dT (by omega)) rfl)) hend
  have hout := all_list (xs := code) (q := fun x => decide (flatP x)) (H := fun i => S cx 112 (H112_0 n (code.map eF) go test (next.map i64) i)) (yes := fun _ => none) (no := ([tb false], [])) (fun j x hx => by
    have hj := lt_of_at hx
    have e1 : (code.map eF).length = code.length := List.length_map _
    refine ⟨fun hq r h => ?_, fun hq => ?_⟩
    · refine eH112_0 (bif_pos (dT (by omega)) (ck_pos (dT2 (by omega)) ?_))
      rw [getD_at hx, V6_1_S, C130_S (t130 x)]
      refine bif_neg (by rw [show decide (flatP x) = true from hq]; rfl) (back_of ?_)
      rw [inc64 hj h1]
      exact h
    · refine eH112_0 (bif_pos (dT (by omega)) (ck_pos (dT2 (by omega)) ?_))
      rw [getD_at hx, V6_1_S, C130_S (t130 x)]
      exact bif_pos (by rw [show decide (flatP x) = false from hq]; rfl) rfl) (eH112_0 (bif_neg (dF (by simp)) hin))
  refine Eq.trans hout ?_
  rw [all_dec, all_dec]
  by_cases c1 : ∀ x ∈ code, flatP x
  · rw [if_pos (by simpa using c1)]
    by_cases c2 : ∀ k ∈ next, 0 ≤ k ∧ k < n
    · rw [if_pos (by simpa using c2)]
      exact leaf (by simp only [blockP, decide_eq_true_eq]; exact ⟨fun h => ⟨c1, h.1, c2, h.2⟩, fun h => ⟨h.2.1, h.2.2.2⟩⟩)
    · rw [if_neg (by simpa using c2)]
      exact leaf (by simp only [blockP, Bool.false_eq_true, false_iff]; exact fun h => c2 h.2.2.1)
  · rw [if_neg (by simpa using c1)]
    exact leaf (by simp only [blockP, Bool.false_eq_true, false_iff]; exact fun h => c1 h.1)
set_option maxHeartbeats 1000000 in
theorem t81 (s : Sa) (p : Pt) (q : Bool) (hv : 12 ≤ s.values ∧ s.values ≤ 250) (hs : smallA s) (hp : smallP p) (hn : nextM s.parts.length p) : tw cx 81 [eSa true false false s, ePt true q p] = some ([tb (decide (partG s p))], []) := by
  obtain ⟨params, code, go, test, next, args⟩ := p
  obtain ⟨p1, p2, p3, p4, p5⟩ := hp
  obtain ⟨s1, s2⟩ := hs
  simp only at p1 p2 p3 p4 p5
  have hw : w64 (s.values - 1) = s.values - 1 := w64_id (by omega) (by omega)
  -- args
  have args1 : args.length = next.length → ∀ d j, next.length - j = d → j ≤ next.length →
      ∃ b : Bool, S cx 81 (H81_1 (s.parts.map (ePt false false)) s.values (params.map i64) (code.map eF) go test (next.map i64) (args.map (rI q)) (j : Int)) = some ([tb b], []) ∧ (b = true ↔ ∀ i, j ≤ i → i < next.length → (args.getD i []).length = (s.parts.getD (next.getD i 0).toNat default).params.length) := by
    intro hal d
    induction d with
    | zero =>
      intro j hd hj
      exact ⟨true, eH81_1 (bif_neg (dF (by rw [len_i]; omega)) rfl), by simp only [true_iff]; exact fun i h1 h2 => by omega⟩
    | succ d ih =>
      intro j hd hj
      have hjl : j < next.length := by omega
      have n12 : 1 ≤ next[j] ∧ next[j] < (s.parts.length : Int) := hn _ (List.getElem_mem hjl)
      have hk : next[j].toNat < s.parts.length := by omega
      have e1 := pt_at (q := false) (q' := false) hk
      rw [show ((next[j].toNat : Nat) : Int) = next[j] by omega] at e1
      have e2 : (args.getD j []).length = (args[j]'(by omega)).length := by rw [List.getD_eq_getElem?_getD, List.getElem?_eq_getElem (by omega)]; rfl
      have e3 : (s.parts.getD (next.getD j 0).toNat default) = s.parts[next[j].toNat] := by
        have : next.getD j 0 = next[j] := by rw [List.getD_eq_getElem?_getD, List.getElem?_eq_getElem hjl]; rfl
        rw [this, List.getD_eq_getElem?_getD, List.getElem?_eq_getElem hk]; rfl
      obtain ⟨b, hb, hb2⟩ := ih (j + 1) (by omega) (by omega)
      by_cases c : (args[j]'(by omega)).length = s.parts[next[j].toNat].params.length
      · refine ⟨b, eH81_1 (bif_pos (dT (by rw [len_i]; omega)) (ck_pos (dT2 (by rw [len_i]; omega)) ?_)), hb2.trans ⟨fun h i h1 h2 => ?_, fun h i h1 h2 => h i (by omega) h2⟩⟩
        · rw [i64_at hjl, S_int]
          refine ck_pos (dT2 (by rw [len_r]; omega)) ?_
          rw [row_at (by omega), S_slR]
          refine ck_pos (dT2 (by rw [len_p]; omega)) ?_
          rw [e1, V6_S, len_i, len_i]
          refine bif_neg (by simp [c]) (back_of ?_)
          rw [inc64 hjl (by omega)]
          exact hb
        · by_cases c2 : i = j
          · subst c2; rw [e2, e3]; exact c
          · exact h i (by omega) h2
      · refine ⟨false, eH81_1 (bif_pos (dT (by rw [len_i]; omega)) (ck_pos (dT2 (by rw [len_i]; omega)) ?_)), by simp only [Bool.false_eq_true, false_iff]; exact fun h => c (by rw [← e2, ← e3]; exact h j (Nat.le_refl _) hjl)⟩
        rw [i64_at hjl, S_int]
        refine ck_pos (dT2 (by rw [len_r]; omega)) ?_
        rw [row_at (by omega), S_slR]
        refine ck_pos (dT2 (by rw [len_p]; omega)) ?_
        rw [e1, V6_S, len_i, len_i]
        exact bif_pos (by simp; omega) rfl
  have h112 : tw cx 112 [.st [sl true ⟨6, false⟩ [], i64 go, i64 0, sl true ⟨1, false⟩ (next.map i64)], i64 (s.parts.length : Int)] = some ([tb (decide (blockP s.parts.length ⟨[], go, 0, next⟩))], []) := t112 ⟨[], go, 0, next⟩ (s.parts.length : Int) ⟨by show 0 ≤ 1073741824; omega, by show next.length ≤ 1073741824; omega⟩
  have hblk : blockP s.parts.length ⟨[], go, 0, next⟩ ↔ (go = 1 ∧ next.length = 1) ∨ (go = 2 ∧ next.length = 2) ∨ (go = 5 ∧ 2 ≤ next.length ∧ next.length ≤ 6) ∨ ((go = 3 ∨ go = 4) ∧ next.length = 0) := by
    have : ∀ k ∈ next, 0 ≤ k ∧ k < (s.parts.length : Int) := fun k hk => by have : 1 ≤ k ∧ k < (s.parts.length : Int) := hn k hk; omega
    simp only [blockP, goP, List.length_nil, List.not_mem_nil, false_implies, implies_true, true_and, Nat.zero_le]
    constructor
    · rintro ⟨_, h⟩; omega
    · intro h; exact ⟨this, by grind⟩
  have s2' : (∀ x ∈ code, flatM s.values x) → ((go = 2 ∨ go = 5) → 0 ≤ test ∧ test < s.values) → (¬ (go = 2 ∨ go = 5) → test = 0) →
      ∃ b : Bool, S cx 81 (NH81_0_s2 (s.parts.map (ePt false false)) s.values (params.map i64) (code.map eF) go test (next.map i64) (args.map (rI q))) = some ([tb b], []) ∧ (b = true ↔ partG s ⟨params, code, go, test, next, args⟩) := by
    intro hc ht ht0
    unfold NH81_0_s2
    rw [len_p, C112_S h112]
    by_cases cb : blockP s.parts.length ⟨[], go, 0, next⟩
    · have cb' := hblk.1 cb
      rw [dT cb]
      by_cases c60 : code.length ≤ 60
      · have pre : argM s.parts ⟨params, code, go, test, next, args⟩ ↔ partG s ⟨params, code, go, test, next, args⟩ := ⟨fun h => ⟨⟨c60, hc⟩, hn, ⟨ht, ht0, cb'⟩, h⟩, fun h => h.2.2.2⟩
        by_cases c3 : go = 3
        · by_cases ca : args.length = 1
          · refine ⟨((args[0]'(by omega)).length == 3), bif_neg rfl (bif_neg (dF (by rw [len_f]; omega)) (bif_pos (by simp [c3]) (bif_pos (by simp [ca]) (ck_pos (dT (by rw [len_r]; omega)) ?_)))), Iff.trans ?_ pre⟩
            · have := row_at (q := q) (show 0 < args.length by omega)
              rw [show (0 + ((0 : Nat) : Int).toNat) = 0 from rfl] at this
              rw [this, S_slR, len_i, S_ret]
              refine congrArg (fun b => (some ([tb b], []) : Option Res)) ?_
              rw [Bool.eq_iff_iff, beq_iff_eq, beq_iff_eq]
              omega
            · unfold argM
              rw [if_pos c3, List.getD_eq_getElem?_getD, List.getElem?_eq_getElem (show 0 < args.length by omega)]
              simp [ca]
          · exact ⟨false, bif_neg rfl (bif_neg (dF (by rw [len_f]; omega)) (bif_pos (by simp [c3]) (bif_neg (by rw [len_r]; simp; omega) rfl))), Iff.trans (by unfold argM; rw [if_pos c3]; simp [ca]) pre⟩
        · by_cases ca : args.length = next.length
          · obtain ⟨b, hb, hb2⟩ := args1 ca _ 0 rfl (Nat.zero_le _)
            refine ⟨b, bif_neg rfl (bif_neg (dF (by rw [len_f]; omega)) (bif_neg (by simp [c3]) (bif_neg (by simp [ca]) hb))), hb2.trans (Iff.trans ?_ pre)⟩
            unfold argM
            rw [if_neg c3]
            exact ⟨fun h => ⟨ca, fun i hi => h i (Nat.zero_le _) hi⟩, fun h i _ hi => h.2 i hi⟩
          · exact ⟨false, bif_neg rfl (bif_neg (dF (by rw [len_f]; omega)) (bif_neg (by simp [c3]) (bif_pos (by simp; omega) rfl))), Iff.trans (by unfold argM; rw [if_neg c3]; simp [ca]) pre⟩
      · exact ⟨false, bif_neg rfl (bif_pos (dT (by rw [len_f]; omega)) rfl), by simp only [Bool.false_eq_true, false_iff]; exact fun h => c60 h.1.1⟩
    · rw [dF cb]
      exact ⟨false, bif_pos rfl rfl, by simp only [Bool.false_eq_true, false_iff]; exact fun h => cb (hblk.2 h.2.2.1.2.2)⟩
  have s3 : (∀ x ∈ code, flatM s.values x) → ((go = 2 ∨ go = 5) → 0 ≤ test ∧ test < s.values) →
      ∃ b : Bool, S cx 81 (NH81_0_s3 (s.parts.map (ePt false false)) s.values (params.map i64) (code.map eF) go test (next.map i64) (args.map (rI q))) = some ([tb b], []) ∧ (b = true ↔ partG s ⟨params, code, go, test, next, args⟩) := by
    intro hc ht
    by_cases c2 : go = 2
    · obtain ⟨b, h1, h2⟩ := s2' hc ht (fun h => absurd (.inl c2) h)
      exact ⟨b, bif_neg (by simp [c2]) h1, h2⟩
    · by_cases c5 : go = 5
      · obtain ⟨b, h1, h2⟩ := s2' hc ht (fun h => absurd (.inr c5) h)
        exact ⟨b, bif_pos (by simp [c2]) (bif_neg (by simp [c5]) h1), h2⟩
      · by_cases c0 : test = 0
        · obtain ⟨b, h1, h2⟩ := s2' hc ht (fun _ => c0)
          exact ⟨b, bif_pos (by simp [c2]) (bif_pos (by simp [c5]) (bif_neg (by simp [c0]) h1)), h2⟩
        · exact ⟨false, bif_pos (by simp [c2]) (bif_pos (by simp [c5]) (bif_pos (by simp [c0]) rfl)), by simp only [Bool.false_eq_true, false_iff]; exact fun h => c0 (h.2.2.1.2.1 (by simp [c2, c5]))⟩
  have s4 : (go = 2 ∨ go = 5) → (∀ x ∈ code, flatM s.values x) →
      ∃ b : Bool, S cx 81 (NH81_0_s4 (s.parts.map (ePt false false)) s.values (params.map i64) (code.map eF) go test (next.map i64) (args.map (rI q))) = some ([tb b], []) ∧ (b = true ↔ partG s ⟨params, code, go, test, next, args⟩) := by
    intro hg hc
    unfold NH81_0_s4
    rw [hw, C80_S (t80 _ _ _)]
    by_cases c : 0 ≤ test ∧ test ≤ s.values - 1
    · obtain ⟨b, h1, h2⟩ := s3 hc (fun _ => by omega)
      exact ⟨b, bif_neg (by rw [dT c]; rfl) h1, h2⟩
    · exact ⟨false, bif_pos (by rw [dF c]; rfl) rfl, by simp only [Bool.false_eq_true, false_iff]; exact fun h => c (by have := h.2.2.1.1 hg; simp only at this; omega)⟩
  have hend : (∀ x ∈ code, flatM s.values x) → ∃ b : Bool, S cx 81 (H81_0 (s.parts.map (ePt false false)) s.values (params.map i64) (code.map eF) go test (next.map i64) (args.map (rI q)) (code.length : Int)) = some ([tb b], []) ∧ (b = true ↔ partG s ⟨params, code, go, test, next, args⟩) := by
    intro hc
    by_cases c2 : go = 2
    · obtain ⟨b, h1, h2⟩ := s4 (.inl c2) hc
      exact ⟨b, eH81_0 (bif_neg (dF (by simp)) (bif_pos (by simp [c2]) h1)), h2⟩
    · by_cases c5 : go = 5
      · obtain ⟨b, h1, h2⟩ := s4 (.inr c5) hc
        exact ⟨b, eH81_0 (bif_neg (dF (by simp)) (bif_neg (by simp [c2]) (bif_pos (by simp [c5]) h1))), h2⟩
      · obtain ⟨b, h1, h2⟩ := s3 hc (fun h => by omega)
        exact ⟨b, eH81_0 (bif_neg (dF (by simp)) (bif_neg (by simp [c2]) (bif_neg (by simp [c5]) h1))), h2⟩
  -- the code
  have key : ∀ d j, code.length - j = d → j ≤ code.length → (∀ i (h : i < code.length), i < j → flatM s.values code[i]) →
      ∃ b : Bool, S cx 81 (H81_0 (s.parts.map (ePt false false)) s.values (params.map i64) (code.map eF) go test (next.map i64) (args.map (rI q)) (j : Int)) = some ([tb b], []) ∧ (b = true ↔ partG s ⟨params, code, go, test, next, args⟩) := by
    intro d
    induction d with
    | zero =>
      intro j hd hj hc
      obtain rfl : j = code.length := by omega
      exact hend fun x hx => by
        obtain ⟨i, hi, rfl⟩ := List.mem_iff_getElem.1 hx
        exact hc i hi hi
    | succ d ih =>
      intro j hd hj hc
      have hjl : j < code.length := by omega
      by_cases cf : flatM s.values code[j]
      · obtain ⟨b, h1, h2⟩ := ih (j + 1) (by omega) (by omega) (fun i h hi => by
          by_cases c : i = j
          · subst c; exact cf
          · exact hc i h (by omega))
        refine ⟨b, eH81_0 (bif_pos (dT (by rw [len_f]; omega)) (ck_pos (dT2 (by rw [len_f]; omega)) ?_)), h2⟩
        have hb : S cx 81 (B81_0 (s.parts.map (ePt false false)) s.values (params.map i64) (code.map eF) go test (next.map i64) (args.map (rI q)) (w64 ((j : Int) + 1))) = some ([tb b], []) := by
          refine back_of ?_
          rw [inc64 hjl (by omega)]
          exact h1
        rw [cf_at hjl, V6_1_S, hw, C130_S (t130 ⟨code[j].op, code[j].fdo, 0, 0, 0, code[j].n⟩)]
        obtain ⟨u1, u2, u3⟩ := cf
        have q0 : flatP ⟨code[j].op, code[j].fdo, 0, 0, 0, code[j].n⟩ := ⟨u1, u2, by simp only; grind⟩
        rw [dT q0]
        refine bif_neg rfl ?_
        rw [C80_S (t80 _ _ _), dT (p := 0 ≤ code[j].dst ∧ code[j].dst ≤ s.values - 1) (by omega)]
        refine bif_neg rfl ?_
        rw [C80_S (t80 _ _ _), dT (p := 0 ≤ code[j].a ∧ code[j].a ≤ s.values - 1) (by omega)]
        refine bif_neg rfl ?_
        rw [C80_S (t80 _ _ _), dT (p := 0 ≤ code[j].b ∧ code[j].b ≤ s.values - 1) (by omega)]
        refine bif_neg rfl ?_
        rw [C87_S (t87 _)]
        have q3 : S cx 81 (NH81_0_s0 (s.parts.map (ePt false false)) s.values (params.map i64) (code.map eF) go test (next.map i64) (args.map (rI q)) j code[j].op code[j].b) = some ([tb b], []) := by
          by_cases c3 : code[j].op = 3
          · exact bif_neg (by simp [c3]) hb
          · refine bif_pos (by simp [c3]) ?_
            by_cases c5 : code[j].op = 5
            · exact bif_neg (by simp [c5]) hb
            · exact bif_pos (by simp [c5]) (bif_neg (by have : code[j].b = 0 := by omega
                                                        simp [this]) hb)
        have q2 : S cx 81 (NH81_0_s1 (s.parts.map (ePt false false)) s.values (params.map i64) (code.map eF) go test (next.map i64) (args.map (rI q)) j code[j].op code[j].a code[j].b) = some ([tb b], []) := by
          by_cases c1 : code[j].op = 1
          · exact bif_pos (by simp [c1]) (bif_neg (by have : code[j].a = 0 := by omega
                                                      simp [this]) q3)
          · exact bif_neg (by simp [c1]) q3
        by_cases cs : 1 ≤ code[j].op ∧ code[j].op ≤ 4
        · exact bif_neg (by rw [dT cs]; rfl) q2
        · exact bif_pos (by rw [dF cs]; rfl) (bif_neg (by have : code[j].dst = 0 := by omega
                                                          simp [this]) q2)
      · refine ⟨false, eH81_0 (bif_pos (dT (by rw [len_f]; omega)) (ck_pos (dT2 (by rw [len_f]; omega)) ?_)), by simp only [Bool.false_eq_true, false_iff]; exact fun h => cf (h.1.2 _ (List.getElem_mem hjl))⟩
        rw [cf_at hjl, V6_1_S, hw, C130_S (t130 ⟨code[j].op, code[j].fdo, 0, 0, 0, code[j].n⟩)]
        by_cases q0 : flatP ⟨code[j].op, code[j].fdo, 0, 0, 0, code[j].n⟩
        case neg => exact bif_pos (by rw [dF q0]; rfl) rfl
        rw [dT q0]
        refine bif_neg rfl ?_
        rw [C80_S (t80 _ _ _)]
        by_cases r1 : 0 ≤ code[j].dst ∧ code[j].dst ≤ s.values - 1
        case neg => exact bif_pos (by rw [dF r1]; rfl) rfl
        rw [dT r1]
        refine bif_neg rfl ?_
        rw [C80_S (t80 _ _ _)]
        by_cases r2 : 0 ≤ code[j].a ∧ code[j].a ≤ s.values - 1
        case neg => exact bif_pos (by rw [dF r2]; rfl) rfl
        rw [dT r2]
        refine bif_neg rfl ?_
        rw [C80_S (t80 _ _ _)]
        by_cases r3 : 0 ≤ code[j].b ∧ code[j].b ≤ s.values - 1
        case neg => exact bif_pos (by rw [dF r3]; rfl) rfl
        rw [dT r3]
        refine bif_neg rfl ?_
        rw [C87_S (t87 _)]
        obtain ⟨u1, u2, u3⟩ := q0
        simp only at u1 u2 u3
        have q3 : (code[j].op = 1 → code[j].a = 0) → (¬ (1 ≤ code[j].op ∧ code[j].op ≤ 4) → code[j].dst = 0) → S cx 81 (NH81_0_s0 (s.parts.map (ePt false false)) s.values (params.map i64) (code.map eF) go test (next.map i64) (args.map (rI q)) j code[j].op code[j].b) = some ([tb false], []) := by
          intro g1 g2
          by_cases c3 : code[j].op = 3
          · exact absurd ⟨u1, u2, by omega⟩ cf
          · by_cases c5 : code[j].op = 5
            · exact absurd ⟨u1, u2, by omega⟩ cf
            · refine bif_pos (by simp [c3]) (bif_pos (by simp [c5]) ?_)
              by_cases cb : code[j].b = 0
              · exact absurd ⟨u1, u2, by omega⟩ cf
              · exact bif_pos (by simp [cb]) rfl
        have q2 : (¬ (1 ≤ code[j].op ∧ code[j].op ≤ 4) → code[j].dst = 0) → S cx 81 (NH81_0_s1 (s.parts.map (ePt false false)) s.values (params.map i64) (code.map eF) go test (next.map i64) (args.map (rI q)) j code[j].op code[j].a code[j].b) = some ([tb false], []) := by
          intro g2
          by_cases c1 : code[j].op = 1
          · refine bif_pos (by simp [c1]) ?_
            by_cases ca : code[j].a = 0
            · exact bif_neg (by simp [ca]) (q3 (fun _ => ca) g2)
            · exact bif_pos (by simp [ca]) rfl
          · exact bif_neg (by simp [c1]) (q3 (fun h => absurd h c1) g2)
        by_cases cs : 1 ≤ code[j].op ∧ code[j].op ≤ 4
        · exact bif_neg (by rw [dT cs]; rfl) (q2 fun h => absurd cs h)
        · refine bif_pos (by rw [dF cs]; rfl) ?_
          by_cases cd : code[j].dst = 0
          · exact bif_neg (by simp [cd]) (q2 fun _ => cd)
          · exact bif_pos (by simp [cd]) rfl
  obtain ⟨b, h1, h2⟩ := key _ 0 rfl (Nat.zero_le _) (fun i _ h => absurd h (Nat.not_lt_zero _))
  exact (e81 h1).trans (leaf h2)
end Go.Tree.Q

/- A good ssa, as the reference has it: where values come to be; the graph. -/
namespace Go.Tree.Q
open Go.Proofs Go.Tree.Cg
set_option linter.unusedVariables false
set_option linter.unusedSimpArgs false
/-- The same places, with the first twelve values there at first. -/
def rD (D : List Int) : List Int := (List.range D.length).map fun i => if i < 12 then 0 else D.getD i 0
theorem rD_len (D : List Int) : (rD D).length = D.length := by simp [rD]
theorem rD_at {D : List Int} {i : Nat} (h : i < (rD D).length) : (rD D)[i] = if i < 12 then 0 else D.getD i 0 := by simp [rD]
theorem rD_set {D : List Int} {v : Nat} {k : Int} (h : 12 ≤ v) (hv : v < D.length) : rD (D.set v k) = (rD D).set v k := by
  refine List.ext_getElem (by rw [rD_len, List.length_set, List.length_set, rD_len]) fun i h1 h2 => ?_
  rw [rD_at, List.getElem_set, getD_set hv]
  by_cases c : v = i
  · rw [if_pos c, if_pos c, if_neg (by omega)]
  · rw [if_neg c, if_neg c, rD_at]
def dsts : List F → List Int
  | [] => []
  | x :: xs => if setsP x then x.dst :: dsts xs else dsts xs
theorem dsts_len : ∀ xs : List F, (dsts xs).length ≤ xs.length
  | [] => Nat.le_refl _
  | x :: xs => by
    have := dsts_len xs
    rw [dsts]
    split <;> simp <;> omega
theorem codeEv_fst : ∀ (xs : List F) (n : Nat), (codeEv xs n).map Prod.fst = dsts xs
  | [], _ => rfl
  | x :: xs, n => by
    rw [codeEv, dsts]
    split
    · rw [List.map_cons, codeEv_fst xs]
    · exact codeEv_fst xs _
theorem evP_fst (p : Pt) : (evP p).map Prod.fst = p.params ++ dsts p.code := by
  rw [evP, List.map_append, codeEv_fst, List.map_map]
  congr 1
  exact List.map_id' _
theorem drop_f {xs : List F} {j : Nat} (h : j < xs.length) : xs.drop j = xs[j] :: xs.drop (j + 1) := List.drop_eq_getElem_cons h
theorem t82 (s : Sa) (hv : 12 ≤ s.values ∧ s.values ≤ 250) (hs : smallA s) (hc : ∀ p ∈ s.parts, p.code.length ≤ 60) :
    ∃ (vs : List Int) (b : Bool), tw cx 82 [eSa true false false s] = some ([rI false vs, tb b], []) ∧ (∀ st, allV s.values s.parts 0 (init2 s.values) = some st → b = true ∧ vs = rD st.1) ∧ (allV s.values s.parts 0 (init2 s.values) = none → b = false) := by
  obtain ⟨s1, s2⟩ := hs
  have lim0 : lim = 140737488355328 := rfl
  -- a part's values
  have lp3 : ∀ (k : Nat) (v : Int), ∀ (es : List (Int × Int)) (pre : List Int) (st : St2), st.1.length = s.values.toNat → st.2.length = s.values.toNat → pre.length + es.length ≤ 2000000 →
      (∀ st', defsV s.values k es st = some st' → ∀ r, S cx 82 (B82_1 (s.parts.map (ePt false false)) s.values ((rD st'.1).map i64) (w64 (v + 1))) = some r → S cx 82 (H82_3 (s.parts.map (ePt false false)) s.values ((rD st.1).map i64) (k : Int) ((pre ++ es.map Prod.fst).map i64) v (pre.length : Int)) = some r) ∧
      (defsV s.values k es st = none → S cx 82 (H82_3 (s.parts.map (ePt false false)) s.values ((rD st.1).map i64) (k : Int) ((pre ++ es.map Prod.fst).map i64) v (pre.length : Int)) = some ([rI false [], tb false], [])) := by
    intro k v es
    induction es with
    | nil =>
      intro pre st l1 l2 hl
      refine ⟨fun st' h r hr => ?_, fun h => by cases h⟩
      obtain rfl := Option.some.inj h
      exact eH82_3 (bif_neg (dF (by simp)) hr)
    | cons e es ih =>
      intro pre st l1 l2 hl
      rw [List.length_cons] at hl
      have hlen : (pre ++ (e :: es).map Prod.fst).length = pre.length + es.length + 1 := by simp; omega
      have hat : ((pre ++ (e :: es).map Prod.fst).map i64).getD (0 + ((pre.length : Nat) : Int).toNat) (.dead ()) = i64 e.1 := by
        rw [i64_at (by omega)]
        congr 1
        simp
      have next : pre ++ (e :: es).map Prod.fst = (pre ++ [e.1]) ++ es.map Prod.fst := by simp
      have start : ∀ r, S cx 82 (.bif (decide (e.1 < 0)) (.ret [sl false ⟨1, false⟩ [], tb false] [])
          (.bif (decide (e.1 ≥ s.values)) (.ret [sl false ⟨1, false⟩ [], tb false] [])
            (.ck (decide (0 ≤ e.1) && decide (e.1 < ((((rD st.1).map i64).length : Nat) : Int))) <|
              .int .i64 (((rD st.1).map i64).getD (0 + e.1.toNat) (.dead ())) fun x_11 =>
              .bif (decide (x_11 ≥ 0)) (.ret [sl false ⟨1, false⟩ [], tb false] [])
              (.ck (decide (0 ≤ e.1) && decide (e.1 < ((((rD st.1).map i64).length : Nat) : Int))) <|
                B82_3 (s.parts.map (ePt false false)) s.values (((rD st.1).map i64).set (0 + e.1.toNat) (i64 (k : Int))) (k : Int) ((pre ++ (e :: es).map Prod.fst).map i64) v (w64 ((pre.length : Int) + 1)))))) = some r →
          S cx 82 (H82_3 (s.parts.map (ePt false false)) s.values ((rD st.1).map i64) (k : Int) ((pre ++ (e :: es).map Prod.fst).map i64) v (pre.length : Int)) = some r := fun r hr => by
        refine eH82_3 (bif_pos (dT (by rw [len_i]; omega)) (ck_pos (dT2 (by rw [len_i]; omega)) ?_))
        rw [hat, S_int]
        exact hr
      have hrl : ((rD st.1).map i64).length = s.values.toNat := by rw [len_i, rD_len, l1]
      have hrd : 0 ≤ e.1 → e.1 < s.values → ((rD st.1).map i64).getD (0 + e.1.toNat) (.dead ()) = i64 (if e.1.toNat < 12 then 0 else st.1.getD e.1.toNat 0) := fun h0 h1 => by
        have := i64_at (xs := rD st.1) (j := e.1.toNat) (by rw [rD_len, l1]; omega)
        rw [show ((e.1.toNat : Nat) : Int).toNat = e.1.toNat by omega] at this
        rw [this, rD_at]
      have bad : ¬ (12 ≤ e.1 ∧ e.1 < s.values ∧ st.1.getD e.1.toNat 0 < 0) → S cx 82 (H82_3 (s.parts.map (ePt false false)) s.values ((rD st.1).map i64) (k : Int) ((pre ++ (e :: es).map Prod.fst).map i64) v (pre.length : Int)) = some ([rI false [], tb false], []) := fun h => by
        refine start _ ?_
        by_cases c0 : e.1 < 0
        · exact bif_pos (dT c0) rfl
        · refine bif_neg (dF c0) ?_
          by_cases c1 : e.1 ≥ s.values
          · exact bif_pos (dT c1) rfl
          · refine bif_neg (dF c1) (ck_pos (dT2 (by rw [hrl]; omega)) ?_)
            rw [hrd (by omega) (by omega), S_int]
            refine bif_pos (dT ?_) rfl
            split
            · omega
            · have : ¬ st.1.getD e.1.toNat 0 < 0 := fun h' => h ⟨by omega, by omega, h'⟩
              omega
      by_cases c : 12 ≤ e.1 ∧ e.1 < s.values ∧ st.1.getD e.1.toNat 0 < 0
      · have hd : defsV s.values k (e :: es) st = defsV s.values k es (st.1.set e.1.toNat k, st.2.set e.1.toNat e.2) := by
          rw [defsV, def1, if_pos c]; rfl
        obtain ⟨i1, i2⟩ := ih (pre ++ [e.1]) (st.1.set e.1.toNat k, st.2.set e.1.toNat e.2) (by simp [l1]) (by simp [l2]) (by simp; omega)
        have go : ∀ r, S cx 82 (H82_3 (s.parts.map (ePt false false)) s.values ((rD (st.1.set e.1.toNat k)).map i64) (k : Int) (((pre ++ [e.1]) ++ es.map Prod.fst).map i64) v ((pre ++ [e.1]).length : Int)) = some r →
            S cx 82 (H82_3 (s.parts.map (ePt false false)) s.values ((rD st.1).map i64) (k : Int) ((pre ++ (e :: es).map Prod.fst).map i64) v (pre.length : Int)) = some r := fun r hr => by
          refine start _ (bif_neg (dF (by omega)) (bif_neg (dF (by omega)) (ck_pos (dT2 (by rw [hrl]; omega)) ?_)))
          rw [hrd (by omega) (by omega), S_int, if_neg (by omega)]
          refine bif_neg (dF (by omega)) (ck_pos (dT2 (by rw [hrl]; omega)) (back_of ?_))
          rw [Nat.zero_add, show (i64 (k : Int)) = i64 ((k : Nat) : Int) from rfl, ← List.map_set, ← rD_set (by omega) (by rw [l1]; omega), w64_id (by omega) (by omega), next]
          rw [List.length_append, List.length_singleton] at hr
          exact hr
        refine ⟨fun st' h r hr => go r (i1 st' (hd ▸ h) r hr), fun h => go _ (i2 (hd ▸ h))⟩
      · refine ⟨fun st' h => ?_, fun _ => bad c⟩
        rw [defsV, def1, if_neg c] at h
        cases h
  have lp2 : ∀ (k : Nat) (D : List Int) (code : List F) (v : Int), code.length ≤ 60 → ∀ d j (acc : List Int), code.length - j = d → j ≤ code.length → acc.length ≤ 1048576 + j → ∀ r, S cx 82 (H82_3 (s.parts.map (ePt false false)) s.values (D.map i64) (k : Int) ((acc ++ dsts (code.drop j)).map i64) v 0) = some r →
      S cx 82 (H82_2 (s.parts.map (ePt false false)) s.values (D.map i64) (k : Int) (acc.map i64) v (code.map eF) (j : Int)) = some r := by
    intro k D code v h60 d
    induction d with
    | zero =>
      intro j acc hd hj ha r h
      obtain rfl : j = code.length := by omega
      rw [List.drop_length] at h
      simp only [dsts, List.append_nil] at h
      exact eH82_2 (bif_neg (dF (by rw [len_f]; omega)) h)
    | succ d ih =>
      intro j acc hd hj ha r h
      have hjl : j < code.length := by omega
      rw [drop_f hjl, dsts] at h
      refine eH82_2 (bif_pos (dT (by rw [len_f]; omega)) (ck_pos (dT2 (by rw [len_f]; omega)) ?_))
      rw [cf_at hjl, V6_1_S, C87_S (t87 _)]
      by_cases c : setsP code[j]
      · rw [if_pos c] at h
        refine bif_pos (dT c) (ck_pos (decide_eq_true (by rw [len_i]; simp; omega)) (back_of ?_))
        rw [inc64 hjl (by omega)]
        have := ih (j + 1) (acc ++ [code[j].dst]) (by omega) (by omega) (by simp; omega) r (by rw [List.append_assoc]; exact h)
        rw [List.map_append] at this
        exact this
      · rw [if_neg c] at h
        refine bif_neg (dF c) (back_of ?_)
        rw [inc64 hjl (by omega)]
        exact ih (j + 1) acc (by omega) (by omega) (by omega) r h
  have lp1 : ∀ d k (st : St2), s.parts.length - k = d → k ≤ s.parts.length → st.1.length = s.values.toNat → st.2.length = s.values.toNat →
      ∃ (vs : List Int) (b : Bool), S cx 82 (H82_1 (s.parts.map (ePt false false)) s.values ((rD st.1).map i64) (k : Int)) = some ([rI false vs, tb b], []) ∧ (∀ st', allV s.values (s.parts.drop k) k st = some st' → b = true ∧ vs = rD st'.1) ∧ (allV s.values (s.parts.drop k) k st = none → b = false) := by
    intro d
    induction d with
    | zero =>
      intro k st hd hk l1 l2
      obtain rfl : k = s.parts.length := by omega
      rw [List.drop_length]
      refine ⟨rD st.1, true, eH82_1 (bif_neg (dF (by rw [len_p]; omega)) rfl), fun st' h => ?_, fun h => by cases h⟩
      obtain rfl := Option.some.inj h
      exact ⟨rfl, rfl⟩
    | succ d ih =>
      intro k st hd hk l1 l2
      have hkl : k < s.parts.length := by omega
      have hm := List.getElem_mem hkl
      obtain ⟨p1, p2, _⟩ := s2 _ hm
      have h60 := hc _ hm
      rw [show s.parts.drop k = s.parts[k] :: s.parts.drop (k + 1) from List.drop_eq_getElem_cons hkl, allV]
      have hd60 := dsts_len s.parts[k].code
      have hev : (evP s.parts[k]).length ≤ 1048576 + 60 := by
        have := congrArg List.length (evP_fst s.parts[k])
        rw [List.length_map, List.length_append] at this
        omega
      obtain ⟨q1, q2⟩ := lp3 k (k : Int) (evP s.parts[k]) [] st l1 l2 (by simp; omega)
      rw [List.nil_append, evP_fst] at q1 q2
      have go : ∀ r, S cx 82 (H82_3 (s.parts.map (ePt false false)) s.values ((rD st.1).map i64) (k : Int) ((s.parts[k].params ++ dsts s.parts[k].code).map i64) (k : Int) 0) = some r → S cx 82 (H82_1 (s.parts.map (ePt false false)) s.values ((rD st.1).map i64) (k : Int)) = some r := fun r hr => by
        refine eH82_1 (bif_pos (dT (by rw [len_p]; omega)) (ck_pos (dT2 (by rw [len_p]; omega)) ?_))
        rw [pt_at hkl, V6_S]
        refine ck_pos (decide_eq_true (by rw [len_i]; omega)) ?_
        exact lp2 k (rD st.1) s.parts[k].code k h60 _ 0 s.parts[k].params rfl (Nat.zero_le _) (by omega) r (by rw [List.drop_zero]; exact hr)
      cases h1 : defsV s.values k (evP s.parts[k]) st with
      | none =>
        exact ⟨[], false, go _ (q2 h1), fun st' h => (by cases h), fun _ => rfl⟩
      | some s1' =>
        obtain ⟨k1, k2, _⟩ := defsV_ok (by omega) _ _ _ h1 l1 l2
        obtain ⟨vs, b, e1, e2, e3⟩ := ih (k + 1) s1' (by omega) (by omega) k1 k2
        refine ⟨vs, b, go _ (q1 s1' h1 _ (back_of ?_)), e2, e3⟩
        rw [inc64 hkl (by omega)]
        exact e1
  -- the first row
  have lp0 : ∀ d j, s.values.toNat - j = d → j ≤ s.values.toNat → ∀ r, S cx 82 (H82_1 (s.parts.map (ePt false false)) s.values ((rD (init2 s.values).1).map i64) 0) = some r →
      S cx 82 (H82_0 (s.parts.map (ePt false false)) s.values (((rD (init2 s.values).1).take j).map i64) (j : Int)) = some r := by
    intro d
    have hl : (rD (init2 s.values).1).length = s.values.toNat := by rw [rD_len]; simp
    induction d with
    | zero =>
      intro j hd hj r h
      obtain rfl : j = s.values.toNat := by omega
      rw [List.take_of_length_le (by omega)]
      exact eH82_0 (bif_neg (dF (by omega)) h)
    | succ d ih =>
      intro j hd hj r h
      have := ih (j + 1) (by omega) (by omega) r h
      rw [List.take_add_one, List.getElem?_eq_getElem (by omega), List.map_append, rD_at] at this
      have hg : (init2 s.values).1.getD j 0 = -1 := by
        rw [List.getD_eq_getElem?_getD, List.getElem?_replicate, if_pos (by omega)]; rfl
      rw [hg] at this
      have hlt : (List.map i64 ((rD (init2 s.values).1).take j)).length = j := by rw [len_i, List.length_take]; omega
      refine eH82_0 (bif_pos (dT (by omega)) ?_)
      by_cases c : j < 12
      · rw [if_pos c] at this
        refine bif_pos (dT (by omega)) (ck_pos (decide_eq_true (by rw [hlt]; simp; omega)) (back_of ?_))
        rw [inc64 (n := 250) (by omega) (by omega)]
        exact this
      · rw [if_neg c] at this
        refine bif_neg (dF (by omega)) (ck_pos (decide_eq_true (by rw [hlt]; simp; omega)) (back_of ?_))
        rw [inc64 (n := 250) (by omega) (by omega)]
        exact this
  obtain ⟨vs, b, e1, e2, e3⟩ := lp1 _ 0 (init2 s.values) rfl (Nat.zero_le _) (by simp) (by simp)
  rw [List.drop_zero] at e2 e3
  exact ⟨vs, b, e82 (lp0 _ 0 rfl (Nat.zero_le _) _ e1), e2, e3⟩
end Go.Tree.Q

/- A good ssa, as the reference has it. -/
namespace Go.Tree.Q
open Go.Proofs Go.Tree.Cg
set_option linter.unusedVariables false
set_option linter.unusedSimpArgs false
/-- The same next ones. -/
def Alike (N G : List (List Nat)) : Prop := G.length = N.length ∧ ∀ (i : Nat) (hi : i < N.length) (hi2 : i < G.length) (v : Nat), v ∈ G[i] ↔ v ∈ N[i]
theorem Alike.ed {N G : List (List Nat)} (h : Alike N G) (but : List Nat) (a b : Nat) : Ed G but a b ↔ Ed N but a b := by
  constructor
  · rintro ⟨h1, h2, h3⟩
    exact ⟨by have := h.1; omega, (h.2 a (by have := h.1; omega) h1 b).1 h2, h3⟩
  · rintro ⟨h1, h2, h3⟩
    exact ⟨by have := h.1; omega, (h.2 a h1 (by have := h.1; omega) b).2 h2, h3⟩
theorem Alike.star {N G : List (List Nat)} (h : Alike N G) (but : List Nat) (a b : Nat) : Star (Ed G but) a b ↔ Star (Ed N but) a b := ⟨Star.mono fun x y => (h.ed but x y).1, Star.mono fun x y => (h.ed but x y).2⟩
theorem Alike.dm {N G : List (List Nat)} (h : Alike N G) (b k : Nat) : Dm G b k ↔ Dm N b k := by
  unfold Dm
  rw [h.star, h.star, h.star]
/-- What parts lead to is in order. -/
def nextsP (s : Sa) : Prop := s.parts.length ≤ 11 ∧ ∀ p ∈ s.parts, nextM s.parts.length p ∧ p.next.length ≤ 6
theorem nextN_len (s : Sa) : (nextN s).length = s.parts.length := List.length_map _
theorem nextN_at (s : Sa) {i : Nat} (h : i < (nextN s).length) : (nextN s)[i] = (s.parts[i]'(by simpa [nextN] using h)).next.map Int.toNat := by
  show (s.parts.map fun p => p.next.map Int.toNat)[i] = _
  exact List.getElem_map ..
theorem nI_nextS {s : Sa} (hs : nextsP s) {i : Nat} (h : i < s.parts.length) : nI (s.parts[i].next.map Int.toNat) = s.parts[i].next := nI_of fun v hv => by
  have := (hs.2 _ (List.getElem_mem h)).1 v hv
  omega
theorem gr_s {s : Sa} (hs : nextsP s) : Gr s.parts.length (nextN s) := by
  refine ⟨nextN_len s, by have := hs.1; omega, fun l hl => ?_⟩
  obtain ⟨p, hp, rfl⟩ := List.mem_map.1 hl
  obtain ⟨h1, h2⟩ := hs.2 p hp
  refine ⟨by rw [List.length_map]; omega, fun x hx => ?_⟩
  obtain ⟨v, hv, rfl⟩ := List.mem_map.1 hx
  have := h1 v hv
  omega
abbrev nextV_ (p : Pt) : List Int := p.next.foldl putV []
theorem t83 {s : Sa} (hs : nextsP s) : ∃ out G, tw cx 83 [eSa true false false s] = some ([.st [sl false ⟨1, true⟩ out]], []) ∧ Rows out G ∧ Gr s.parts.length G ∧ Alike (nextN s) G := by
  have e1 := len_p (ps := s.parts) (q := false) (q' := false)
  have h11 := hs.1
  have inner : ∀ (j : Nat) (hj : j < s.parts.length) (g : List TV), g.length = j → ∀ d i (acc : List Int), s.parts[j].next.length - i = d → i ≤ s.parts[j].next.length → acc.length ≤ i → ∀ r, S cx 83 (H83_0 (g ++ [rI false ((s.parts[j].next.drop i).foldl putV acc)]) (s.parts.map (ePt false false)) ((j + 1 : Nat) : Int)) = some r → S cx 83 (H83_1 g (acc.map i64) (s.parts.map (ePt false false)) j (s.parts[j].next.map i64) (i : Int)) = some r := by
    intro j hj g hgl d
    have h6 := (hs.2 _ (List.getElem_mem hj)).2
    induction d with
    | zero =>
      intro i acc hd hi ha r h
      obtain rfl : i = s.parts[j].next.length := by omega
      refine eH83_1 (bif_neg (dF (by rw [len_i]; omega)) (ck_pos ?_ (back_of ?_)))
      · refine decide_eq_true ?_
        have : lim = 140737488355328 := rfl
        simp; omega
      · rw [inc64 hj (by omega)]
        rw [List.drop_length] at h
        exact h
    | succ d ih =>
      intro i acc hd hi ha r h
      have hil : i < s.parts[j].next.length := by omega
      refine eH83_1 (bif_pos (dT (by rw [len_i]; omega)) (ck_pos (dT2 (by rw [len_i]; omega)) ?_))
      rw [i64_at hil, S_int, C120_S (t120 acc _ (by omega))]
      refine back_of ?_
      rw [inc64 (n := s.parts[j].next.length) hil (by omega)]
      have h2 := (putV_len acc s.parts[j].next[i]).1
      refine ih (i + 1) (putV acc s.parts[j].next[i]) (by omega) (by omega) (by omega) r ?_
      rw [List.drop_eq_getElem_cons hil, List.foldl_cons] at h
      exact h
  have outer : ∀ d j, s.parts.length - j = d → j ≤ s.parts.length → S cx 83 (H83_0 ((s.parts.take j).map fun b => rI false (nextV_ b)) (s.parts.map (ePt false false)) (j : Int)) = some ([.st [sl false ⟨1, true⟩ (s.parts.map fun b => rI false (nextV_ b))]], []) := by
    intro d
    induction d with
    | zero =>
      intro j hd hj
      obtain rfl : j = s.parts.length := by omega
      refine eH83_0 (bif_neg (dF (by rw [e1]; omega)) ?_)
      rw [List.take_length]
      rfl
    | succ d ih =>
      intro j hd hj
      have hjl : j < s.parts.length := by omega
      refine eH83_0 (bif_pos (dT (by rw [e1]; omega)) (ck_pos (dT2 (by rw [e1]; omega)) ?_))
      rw [pt_at hjl, V6_S]
      have := inner j hjl ((s.parts.take j).map fun b => rI false (nextV_ b)) (by simp; omega) _ 0 [] rfl (Nat.zero_le _) (by simp) _ (by
        rw [List.drop_zero]
        have e2 : ((s.parts.take j).map fun b => rI false (nextV_ b)) ++ [rI false (s.parts[j].next.foldl putV [])] = (s.parts.take (j + 1)).map fun b => rI false (nextV_ b) := by
          rw [List.take_add_one, List.getElem?_eq_getElem hjl, List.map_append]
          rfl
        rw [e2]
        exact ih (j + 1) (by omega) (by omega))
      exact this
  have h0 := outer s.parts.length 0 rfl (Nat.zero_le _)
  have hrow : ∀ (i : Nat) (hi : i < s.parts.length), nI ((nextV_ s.parts[i]).map Int.toNat) = nextV_ s.parts[i] := fun i hi => nI_of fun v hv => by
    have := (fold_mem _ _ v).1 hv
    have := (hs.2 _ (List.getElem_mem hi)).1 v (by simpa using this)
    omega
  refine ⟨s.parts.map fun b => rI false (nextV_ b), s.parts.map fun b => (nextV_ b).map Int.toNat, e83 h0, ⟨by simp, fun j hj => ⟨false, ?_⟩⟩, ⟨by simp, by omega, fun l hl => ?_⟩, by rw [List.length_map, nextN_len], fun i hi hi2 v => ?_⟩
  · have hj' : j < s.parts.length := by simpa using hj
    rw [List.getElem_map, List.getElem?_map, List.getElem?_eq_getElem hj', Option.map_some, hrow j hj']
  · obtain ⟨b, hb, rfl⟩ := List.mem_map.1 hl
    obtain ⟨h3, h4⟩ := hs.2 b hb
    refine ⟨by
      rw [List.length_map]
      show (b.next.foldl putV []).length ≤ 12
      have h5 := fold_len b.next []
      simp only [List.length_nil] at h5
      omega, fun x hx => ?_⟩
    obtain ⟨v, hv, rfl⟩ := List.mem_map.1 hx
    have := h3 v (by simpa using (fold_mem _ _ v).1 hv)
    omega
  · have hi' : i < s.parts.length := by rw [← nextN_len]; exact hi
    have e := mem_nI (a := v) (ts := s.parts[i].next.map Int.toNat)
    rw [nI_nextS hs hi'] at e
    rw [List.getElem_map, nextN_at s hi, ← e, ← mem_nI, hrow i hi', fold_mem]
    simp only [List.not_mem_nil, false_or]
/-- Is a value there, as the reference asks? -/
def therR (m : Int) (D : List Int) (dom : List Nat) (far : List Int) (k : Nat) (v : Int) : Prop :=
  0 ≤ v ∧ v < m ∧ (v < 12 ∨ v ∈ far ∨ (0 ≤ D.getD v.toNat 0 ∧ D.getD v.toNat 0 ≠ k ∧ D.getD v.toNat 0 ∈ nI dom))
theorem t85 (l D : List Int) (dom : List Nat) (far : List Int) (k : Nat) (hl : l.length ≤ 10000000) (hD : D.length ≤ 1000) (hd : dom.length ≤ 1000) (hf : far.length ≤ 10000000) :
    ∃ b : Bool, tw cx 85 [rI true l, rI true (rD D), rI true (nI dom), rI true far, i64 (k : Int)] = some ([tb b], []) ∧ (b = true ↔ ∀ v ∈ l, therR D.length D dom far k v) := by
  have hR : ((rD D).map i64).length = D.length := by rw [len_i, rD_len]
  have key : ∀ d j, l.length - j = d → j ≤ l.length → ∃ b : Bool, S cx 85 (H85_0 ((rD D).map i64) ((nI dom).map i64) (far.map i64) (k : Int) (l.map i64) (j : Int)) = some ([tb b], []) ∧ (b = true ↔ ∀ v ∈ l.drop j, therR D.length D dom far k v) := by
    intro d
    induction d with
    | zero =>
      intro j hd hj
      obtain rfl : j = l.length := by omega
      exact ⟨true, eH85_0 (bif_neg (dF (by rw [len_i]; omega)) rfl), by simp⟩
    | succ d ih =>
      intro j hd hj
      have hjl : j < l.length := by omega
      obtain ⟨b, h1, h2⟩ := ih (j + 1) (by omega) (by omega)
      have hdr : l.drop j = l[j] :: l.drop (j + 1) := List.drop_eq_getElem_cons hjl
      have hB : S cx 85 (B85_0 ((rD D).map i64) ((nI dom).map i64) (far.map i64) (k : Int) (l.map i64) (w64 ((j : Int) + 1))) = some ([tb b], []) := by
        refine back_of ?_
        rw [inc64 (n := 10000000) (by omega) (by omega)]
        exact h1
      have good : therR D.length D dom far k l[j] → (b = true ↔ ∀ v ∈ l.drop j, therR D.length D dom far k v) := fun h => by
        rw [h2, hdr, List.forall_mem_cons]
        exact ⟨fun h' => ⟨h, h'⟩, fun h' => h'.2⟩
      have bad : ¬ therR D.length D dom far k l[j] → (false = true ↔ ∀ v ∈ l.drop j, therR D.length D dom far k v) := fun h => by
        rw [hdr, List.forall_mem_cons]
        simp [h]
      have start : ∀ b', S cx 85 (.bif (decide (l[j] < 0)) (.ret [tb false] []) (.bif (decide (l[j] ≥ ((((rD D).map i64).length : Nat) : Int))) (.ret [tb false] [])
          (.ck (decide (0 ≤ l[j]) && decide (l[j] < ((((rD D).map i64).length : Nat) : Int))) <|
            .int .i64 (((rD D).map i64).getD (0 + l[j].toNat) (.dead ())) fun x_88 =>
            .bif (decide (l[j] < 12)) (B85_0 ((rD D).map i64) ((nI dom).map i64) (far.map i64) (k : Int) (l.map i64) (w64 ((j : Int) + 1)))
            (C116 (far.map i64) l[j] fun v_c3 =>
              .bif (v_c3) (B85_0 ((rD D).map i64) ((nI dom).map i64) (far.map i64) (k : Int) (l.map i64) (w64 ((j : Int) + 1)))
              (.bif (decide (x_88 ≥ 0)) (.bif ((x_88 != (k : Int)))
                (C116 ((nI dom).map i64) x_88 fun v_c5 =>
                  .bif (v_c5) (B85_0 ((rD D).map i64) ((nI dom).map i64) (far.map i64) (k : Int) (l.map i64) (w64 ((j : Int) + 1))) (.ret [tb false] []))
                (.ret [tb false] [])) (.ret [tb false] [])))))) = some ([tb b'], []) →
          S cx 85 (H85_0 ((rD D).map i64) ((nI dom).map i64) (far.map i64) (k : Int) (l.map i64) (j : Int)) = some ([tb b'], []) := fun b' h => by
        refine eH85_0 (bif_pos (dT (by rw [len_i]; omega)) (ck_pos (dT2 (by rw [len_i]; omega)) ?_))
        rw [i64_at hjl, S_int]
        exact h
      by_cases c0 : l[j] < 0
      · exact ⟨false, start _ (bif_pos (dT c0) rfl), bad fun h => by have := h.1; omega⟩
      by_cases c1 : l[j] ≥ (D.length : Int)
      · exact ⟨false, start _ (bif_neg (dF c0) (bif_pos (dT (by omega)) rfl)), bad fun h => by have := h.2.1; omega⟩
      have hrd : ((rD D).map i64).getD (0 + l[j].toNat) (.dead ()) = i64 (if l[j].toNat < 12 then 0 else D.getD l[j].toNat 0) := by
        have := i64_at (xs := rD D) (j := l[j].toNat) (by rw [rD_len]; omega)
        rw [show ((l[j].toNat : Nat) : Int).toNat = l[j].toNat by omega] at this
        rw [this, rD_at]
      by_cases c2 : l[j] < 12
      · refine ⟨b, start _ (bif_neg (dF c0) (bif_neg (dF (by omega)) (ck_pos (dT2 (by omega)) ?_))), good ⟨by omega, by omega, .inl c2⟩⟩
        rw [hrd, S_int]
        exact bif_pos (dT c2) hB
      by_cases c3 : l[j] ∈ far
      · refine ⟨b, start _ (bif_neg (dF c0) (bif_neg (dF (by omega)) (ck_pos (dT2 (by omega)) ?_))), good ⟨by omega, by omega, .inr (.inl c3)⟩⟩
        rw [hrd, S_int]
        refine bif_neg (dF c2) ?_
        rw [C116_S (t116 far _ (by show _ ≤ 1073741824; omega))]
        exact bif_pos (dT c3) hB
      have mid : ∀ b', S cx 85 (.bif (decide (D.getD l[j].toNat 0 ≥ 0)) (.bif ((D.getD l[j].toNat 0 != (k : Int)))
                (C116 ((nI dom).map i64) (D.getD l[j].toNat 0) fun v_c5 =>
                  .bif (v_c5) (B85_0 ((rD D).map i64) ((nI dom).map i64) (far.map i64) (k : Int) (l.map i64) (w64 ((j : Int) + 1))) (.ret [tb false] []))
                (.ret [tb false] [])) (.ret [tb false] [])) = some ([tb b'], []) → S cx 85 (H85_0 ((rD D).map i64) ((nI dom).map i64) (far.map i64) (k : Int) (l.map i64) (j : Int)) = some ([tb b'], []) := fun b' h => by
        refine start _ (bif_neg (dF c0) (bif_neg (dF (by omega)) (ck_pos (dT2 (by omega)) ?_)))
        rw [hrd, S_int, if_neg (by omega)]
        refine bif_neg (dF c2) ?_
        rw [C116_S (t116 far _ (by show _ ≤ 1073741824; omega))]
        exact bif_neg (dF c3) h
      by_cases c4 : D.getD l[j].toNat 0 ≥ 0
      case neg => exact ⟨false, mid _ (bif_neg (dF c4) rfl), bad fun h => h.2.2.elim c2 fun h => h.elim c3 fun h => c4 h.1⟩
      by_cases c5 : D.getD l[j].toNat 0 = (k : Int)
      · exact ⟨false, mid _ (bif_pos (dT c4) (bif_neg (by rw [bne_eq_false_iff_eq]; exact c5) rfl)), bad fun h => h.2.2.elim c2 fun h => h.elim c3 fun h => h.2.1 c5⟩
      by_cases c6 : D.getD l[j].toNat 0 ∈ nI dom
      · refine ⟨b, mid _ (bif_pos (dT c4) (bif_pos (by rw [bne_iff_ne]; exact c5) ?_)), good ⟨by omega, by omega, .inr (.inr ⟨by omega, c5, c6⟩)⟩⟩
        rw [C116_S (t116 (nI dom) _ (by show _ ≤ 1073741824; rw [List.length_map]; omega))]
        exact bif_pos (dT c6) hB
      · refine ⟨false, mid _ (bif_pos (dT c4) (bif_pos (by rw [bne_iff_ne]; exact c5) ?_)), bad fun h => h.2.2.elim c2 fun h => h.elim c3 fun h => c6 h.2.2⟩
        rw [C116_S (t116 (nI dom) _ (by show _ ≤ 1073741824; rw [List.length_map]; omega))]
        exact bif_neg (dF c6) rfl
  obtain ⟨b, h1, h2⟩ := key _ 0 rfl (Nat.zero_le _)
  exact ⟨b, e85 h1, by rw [List.drop_zero] at h2; exact h2⟩
end Go.Tree.Q

/- A good ssa: what the reference answers. -/
namespace Go.Tree.Q
open Go.Proofs Go.Tree.Cg
set_option linter.unusedVariables false
set_option linter.unusedSimpArgs false
noncomputable instance (s : Sa) : Decidable (goodS s) := Classical.propDecidable _
theorem dsts_mem : ∀ (xs : List F) (v : Int), v ∈ dsts xs ↔ ∃ (j : Nat) (h : j < xs.length), setsP xs[j] ∧ v = xs[j].dst
  | [], v => by simp [dsts]
  | x :: xs, v => by
    have ih := dsts_mem xs v
    have tail : (∃ (j : Nat) (h : j < (x :: xs).length), setsP (x :: xs)[j] ∧ v = (x :: xs)[j].dst) ↔ (setsP x ∧ v = x.dst) ∨ ∃ (j : Nat) (h : j < xs.length), setsP xs[j] ∧ v = xs[j].dst := by
      constructor
      · rintro ⟨j, h, h1, h2⟩
        cases j with
        | zero => exact .inl ⟨h1, h2⟩
        | succ j => exact .inr ⟨j, by simpa using h, h1, h2⟩
      · rintro (⟨h1, h2⟩ | ⟨j, h, h1, h2⟩)
        · exact ⟨0, by simp, h1, h2⟩
        · exact ⟨j + 1, by simpa using h, h1, h2⟩
    rw [tail, ← ih, dsts]
    split
    · rename_i c
      rw [List.mem_cons]
      exact or_congr ⟨fun h => ⟨c, h⟩, fun h => h.2⟩ Iff.rfl
    · rename_i c
      exact ⟨.inr, fun h => h.resolve_left fun h => c h.1⟩
theorem far_iff {s : Sa} {D A : List Int} (hd : Df s D A) {k : Nat} (hk : k < s.parts.length) {i : Nat} (hi : i ≤ s.parts[k].code.length) {v : Int} (h12 : 12 ≤ v) (hv : v < s.values) :
    v ∈ s.parts[k].params ++ dsts (s.parts[k].code.take i) ↔ D.getD v.toNat 0 = k ∧ A.getD v.toNat 0 < (i : Int) := by
  rw [List.mem_append, dsts_mem]
  constructor
  · rintro (h | ⟨j, h, h1, h2⟩)
    · obtain ⟨_, _, q1, q2⟩ := hd.ev k hk (v, -1) (evP_mem.2 (.inl ⟨h, rfl⟩))
      exact ⟨q1, by simp only at q2; omega⟩
    · rw [List.length_take] at h
      rw [List.getElem_take] at h1 h2
      obtain ⟨_, _, q1, q2⟩ := hd.ev k hk (v, (j : Int)) (evP_mem.2 (.inr ⟨j, by omega, h1, h2, rfl⟩))
      exact ⟨q1, by simp only at q2; omega⟩
  · rintro ⟨h1, h2⟩
    rcases hd.code hk (by omega) hv h1 with ⟨q, _⟩ | ⟨j, hj, q1, q2, q3⟩
    · exact .inl q
    · exact .inr ⟨j, by rw [List.length_take]; omega, by rw [List.getElem_take]; exact q1, by rw [List.getElem_take]; exact q2⟩
theorem ther_iff {s : Sa} {D A : List Int} (hd : Df s D A) {k : Nat} (hk : k < s.parts.length) {i : Nat} (hi : i ≤ s.parts[k].code.length) {dom : List Nat} (hdom : ∀ d, d ∈ dom ↔ Dm (nextN s) k d) (h0 : 0 ≤ s.values) (v : Int) :
    therR D.length D dom (s.parts[k].params ++ dsts (s.parts[k].code.take i)) k v ↔ thereP s.values (nextN s) D A k i v := by
  unfold therR thereP
  have e : (D.length : Int) = s.values := by rw [hd.dl]; omega
  rw [e]
  constructor
  · rintro ⟨a, b, c⟩
    refine ⟨a, b, ?_⟩
    rcases c with c | c | ⟨c1, c2, c3⟩
    · exact .inl c
    · by_cases h12 : v < 12
      · exact .inl h12
      · exact .inr (.inl ((far_iff hd hk hi (by omega) b).1 c))
    · refine .inr (.inr ⟨c2, c1, (hdom _).1 ?_⟩)
      obtain ⟨d, hd1, hd2⟩ := List.mem_map.1 c3
      rw [← hd2]
      simpa using hd1
  · rintro ⟨a, b, c⟩
    refine ⟨a, b, ?_⟩
    rcases c with c | c | ⟨c1, c2, c3⟩
    · exact .inl c
    · by_cases h12 : v < 12
      · exact .inl h12
      · exact .inr (.inl ((far_iff hd hk hi (by omega) b).2 c))
    · exact .inr (.inr ⟨c2, c1, List.mem_map.2 ⟨_, (hdom _).2 c3, by show ((D.getD v.toNat 0).toNat : Int) = _; omega⟩⟩)
theorem flat_len {l : List (List Int)} (h : ∀ x ∈ l, x.length ≤ 1048576) : l.flatten.length ≤ 1048576 * l.length := by
  induction l with
  | nil => simp
  | cons x l ih =>
    have := ih fun y hy => h y (List.mem_cons_of_mem _ hy)
    have := h x List.mem_cons_self
    rw [List.flatten_cons, List.length_append, List.length_cons]
    omega
theorem argM_len {s : Sa} {p : Pt} (h : partG s p) : p.args.length ≤ 6 := by
  obtain ⟨_, _, ⟨_, _, h2⟩, h3⟩ := h
  unfold argM at h3
  split at h3 <;> omega
theorem next_len {s : Sa} {p : Pt} (h : partG s p) : p.next.length ≤ 6 := by
  obtain ⟨_, _, ⟨_, _, h2⟩, h3⟩ := h
  omega
theorem nn_at2 {DM : List (List Nat)} {k : Nat} (h : k < DM.length) : (DM.map fun r => rI false (nI r)).getD (0 + ((k : Nat) : Int).toNat) (.dead ()) = rI false (nI DM[k]) := getD_at (e := fun r => rI false (nI r)) (List.getElem?_eq_getElem h)
theorem usesV_len (x : F) : (usesV x).length ≤ 2 := by
  unfold usesV
  split
  · simp
  · split <;> simp
/-- All that is used is there. -/
theorem uses43 {s : Sa} (hs : smallA s) (hv : 12 ≤ s.values ∧ s.values ≤ 250) (h11 : s.parts.length ≤ 11) (hG : ∀ p ∈ s.parts, partG s p) {D A : List Int} (hd : Df s D A) {DM : List (List Nat)} (hDl : DM.length = s.parts.length)
    (hDM : ∀ (b : Nat) (hb : b < DM.length), DM[b].length ≤ 1000 ∧ ∀ d, d ∈ DM[b] ↔ Dm (nextN s) b d) (g : List TV) : ∀ d k, s.parts.length - k = d → k ≤ s.parts.length →
      ∃ b : Bool, S cx 43 (H43_3 ((rD D).map i64) g (DM.map fun r => rI false (nI r)) (s.parts.map (ePt false false)) (k : Int)) = some ([tb b], []) ∧ (b = true ↔ ∀ k', k ≤ k' → ∀ h : k' < s.parts.length, Star (Ed (nextN s) []) 0 k' ∧ usesP s (nextN s) D A k' s.parts[k']) := by
  have lim0 : lim = 140737488355328 := rfl
  have hDlen : D.length ≤ 1000 := by rw [hd.dl]; omega
  intro d
  induction d with
  | zero =>
    intro k hdk hk
    obtain rfl : k = s.parts.length := by omega
    exact ⟨true, eH43_3 (bif_neg (dF (by rw [len_p]; omega)) rfl), by simp only [true_iff]; exact fun k' h1 h2 => by omega⟩
  | succ d ih =>
    intro k hdk hk
    have hkl : k < s.parts.length := by omega
    have hkD : k < DM.length := by omega
    have hm := List.getElem_mem hkl
    have hg := hG _ hm
    obtain ⟨p1, p2, p3, p4, p5⟩ := hs.2 _ hm
    have h60 := hg.1.1
    have hal := argM_len hg
    obtain ⟨hDk1, hDk2⟩ := hDM k hkD
    obtain ⟨b', hb', hb2⟩ := ih (k + 1) (by omega) (by omega)
    have hB : S cx 43 (B43_3 ((rD D).map i64) g (DM.map fun r => rI false (nI r)) (s.parts.map (ePt false false)) (w64 ((k : Int) + 1))) = some ([tb b'], []) := by
      refine back_of ?_
      rw [inc64 hkl (by omega)]
      exact hb'
    have hlen3 : (DM.map fun r => rI false (nI r)).length = s.parts.length := by rw [List.length_map, hDl]
    -- behind the steps
    have hend : ∃ b : Bool, S cx 43 (H43_4 ((rD D).map i64) g (DM.map fun r => rI false (nI r)) (k : Int) (s.parts[k].params.map i64) (s.parts[k].code.map eF) s.parts[k].go s.parts[k].test (s.parts[k].next.map i64) (s.parts[k].args.map (rI false)) ((s.parts[k].params ++ dsts (s.parts[k].code.take s.parts[k].code.length)).map i64) (s.parts.map (ePt false false)) (k : Int) (s.parts[k].code.length : Int)) = some ([tb b], []) ∧
        (b = true ↔ (∀ v ∈ endsV s.parts[k], thereP s.values (nextN s) D A k s.parts[k].code.length v) ∧ b' = true) := by
      have hfl : (endsV s.parts[k]).length ≤ 10000000 := by
        have := flat_len p5
        rw [endsV, List.length_append]
        split <;> simp only [List.length_cons, List.length_nil] <;> omega
      have hfar : (s.parts[k].params ++ dsts (s.parts[k].code.take s.parts[k].code.length)).length ≤ 10000000 := by
        have := dsts_len (s.parts[k].code.take s.parts[k].code.length)
        rw [List.length_take] at this
        rw [List.length_append]; omega
      obtain ⟨b1, q1, q2⟩ := t85 (endsV s.parts[k]) D DM[k] _ k hfl hDlen hDk1 hfar
      have q2' : b1 = true ↔ ∀ v ∈ endsV s.parts[k], thereP s.values (nextN s) D A k s.parts[k].code.length v := q2.trans ⟨fun h v hv' => (ther_iff hd hkl (Nat.le_refl _) hDk2 (by omega) v).1 (h v hv'), fun h v hv' => (ther_iff hd hkl (Nat.le_refl _) hDk2 (by omega) v).2 (h v hv')⟩
      have s1 : ∀ vs, S cx 43 (NH43_4_s1 ((rD D).map i64) g (DM.map fun r => rI false (nI r)) (k : Int) ((s.parts[k].params ++ dsts (s.parts[k].code.take s.parts[k].code.length)).map i64) (s.parts.map (ePt false false)) (k : Int) ((endsV s.parts[k]).map i64)) = vs → vs = some ([tb (b1 && b')], []) := fun vs h => by
        rw [← h, NH43_4_s1, nn_at2 hkD, S_slO, C85_S q1]
        cases b1 with
        | true => exact bif_neg rfl (hB.trans (by rw [Bool.true_and]))
        | false => exact bif_pos rfl rfl
      refine ⟨b1 && b', ?_, by rw [Bool.and_eq_true, q2']⟩
      refine eH43_4 (bif_neg (dF (by rw [len_f]; omega)) (ck_pos (dT2 (by rw [hlen3]; omega)) (S_amb2 ?_ ?_)))
      · rw [C88_S (t88 s.parts[k] false hal p5), nn_at2 hkD, S_slO]
        exact s1 _ rfl
      · rw [nn_at2 hkD, S_slO, C88_S (t88 s.parts[k] false hal p5)]
        exact s1 _ rfl
    -- the steps
    have hstep : ∀ d j, s.parts[k].code.length - j = d → j ≤ s.parts[k].code.length → ∃ b : Bool, S cx 43 (H43_4 ((rD D).map i64) g (DM.map fun r => rI false (nI r)) (k : Int) (s.parts[k].params.map i64) (s.parts[k].code.map eF) s.parts[k].go s.parts[k].test (s.parts[k].next.map i64) (s.parts[k].args.map (rI false)) ((s.parts[k].params ++ dsts (s.parts[k].code.take j)).map i64) (s.parts.map (ePt false false)) (k : Int) (j : Int)) = some ([tb b], []) ∧
        (b = true ↔ (∀ i, j ≤ i → ∀ (h : i < s.parts[k].code.length), ∀ v ∈ usesV s.parts[k].code[i], thereP s.values (nextN s) D A k i v) ∧ (∀ v ∈ endsV s.parts[k], thereP s.values (nextN s) D A k s.parts[k].code.length v) ∧ b' = true) := by
      intro d
      induction d with
      | zero =>
        intro j hd2 hj
        obtain rfl : j = s.parts[k].code.length := by omega
        obtain ⟨b, h1, h2⟩ := hend
        exact ⟨b, h1, h2.trans ⟨fun h => ⟨fun i h3 h4 => by omega, h⟩, fun h => h.2⟩⟩
      | succ d ih2 =>
        intro j hd2 hj
        have hjl : j < s.parts[k].code.length := by omega
        obtain ⟨b, h1, h2⟩ := ih2 (j + 1) (by omega) (by omega)
        have hfar : (s.parts[k].params ++ dsts (s.parts[k].code.take j)).length ≤ 10000000 := by
          have := dsts_len (s.parts[k].code.take j)
          rw [List.length_take] at this
          rw [List.length_append]; omega
        obtain ⟨b1, q1, q2⟩ := t85 (usesV s.parts[k].code[j]) D DM[k] _ k (by have := usesV_len s.parts[k].code[j]; omega) hDlen hDk1 hfar
        have q2' : b1 = true ↔ ∀ v ∈ usesV s.parts[k].code[j], thereP s.values (nextN s) D A k j v := q2.trans ⟨fun h v hv' => (ther_iff hd hkl (by omega) hDk2 (by omega) v).1 (h v hv'), fun h v hv' => (ther_iff hd hkl (by omega) hDk2 (by omega) v).2 (h v hv')⟩
        have htake : dsts (s.parts[k].code.take (j + 1)) = dsts (s.parts[k].code.take j) ++ (if setsP s.parts[k].code[j] then [s.parts[k].code[j].dst] else []) := by
          rw [List.take_add_one, List.getElem?_eq_getElem hjl]
          have app : ∀ xs ys : List F, dsts (xs ++ ys) = dsts xs ++ dsts ys := fun xs ys => by
            induction xs with
            | nil => rfl
            | cons x xs ih => rw [List.cons_append, dsts, dsts, ih]; split <;> simp
          rw [app]
          congr 1
        have s0 : S cx 43 (NH43_4_s0 ((rD D).map i64) g (DM.map fun r => rI false (nI r)) (k : Int) (s.parts[k].params.map i64) (s.parts[k].code.map eF) s.parts[k].go s.parts[k].test (s.parts[k].next.map i64) (s.parts[k].args.map (rI false)) ((s.parts[k].params ++ dsts (s.parts[k].code.take j)).map i64) (s.parts.map (ePt false false)) (k : Int) (j : Int) s.parts[k].code[j].op s.parts[k].code[j].dst ((usesV s.parts[k].code[j]).map i64)) = some ([tb (b1 && b)], []) := by
          rw [NH43_4_s0, nn_at2 hkD, S_slO, C85_S q1]
          cases b1 with
          | false => exact bif_pos rfl rfl
          | true =>
            refine bif_neg rfl ?_
            rw [C87_S (t87 _), Bool.true_and]
            rw [htake] at h1
            by_cases c : setsP s.parts[k].code[j]
            · rw [if_pos c, ← List.append_assoc, List.map_append] at h1
              refine bif_pos (dT c) (ck_pos (decide_eq_true (by rw [len_i]; simp only [List.length_singleton]; omega)) (back_of ?_))
              rw [inc64 hjl (by omega)]
              exact h1
            · rw [if_neg c, List.append_nil] at h1
              refine bif_neg (dF c) (back_of ?_)
              rw [inc64 hjl (by omega)]
              exact h1
        refine ⟨b1 && b, ?_, ?_⟩
        · refine eH43_4 (bif_pos (dT (by rw [len_f]; omega)) (ck_pos (dT2 (by rw [len_f]; omega)) ?_))
          rw [cf_at hjl, V6_1_S]
          refine ck_pos (dT2 (by rw [hlen3]; omega)) (S_amb2 ?_ ?_)
          · rw [C86_S (t86 s.parts[k].code[j]), nn_at2 hkD, S_slO]
            exact s0
          · rw [nn_at2 hkD, S_slO, C86_S (t86 s.parts[k].code[j])]
            exact s0
        · rw [Bool.and_eq_true, q2', h2]
          constructor
          · rintro ⟨h3, h4, h5⟩
            refine ⟨fun i h6 h7 => ?_, h5⟩
            by_cases c : i = j
            · subst c; exact h3
            · exact h4 i (by omega) h7
          · rintro ⟨h3, h4⟩
            exact ⟨h3 j (Nat.le_refl _) hjl, fun i h6 h7 => h3 i (by omega) h7, h4⟩
    have fin : ∀ b : Bool, (b = true ↔ (Star (Ed (nextN s) []) 0 k ∧ usesP s (nextN s) D A k s.parts[k]) ∧ b' = true) → (b = true ↔ ∀ k', k ≤ k' → ∀ h : k' < s.parts.length, Star (Ed (nextN s) []) 0 k' ∧ usesP s (nextN s) D A k' s.parts[k']) := fun b h => by
      rw [h, hb2]
      constructor
      · rintro ⟨h1, h2⟩ k' h3 h4
        by_cases c : k' = k
        · subst c; exact h1
        · exact h2 k' (by omega) h4
      · exact fun h1 => ⟨h1 k (Nat.le_refl _) hkl, fun k' h3 h4 => h1 k' (by omega) h4⟩
    have nz : Star (Ed (nextN s) []) 0 k ↔ DM[k] ≠ [] := by
      constructor
      · intro h he
        have : k ∈ DM[k] := (hDk2 k).2 ⟨h, h, fun ⟨h1, h2⟩ => ?_⟩
        · rw [he] at this; cases this
        · rcases (Star.cases_head h2) with q | ⟨c, q1, q2⟩
          · exact h1 (by rw [q]; simp)
          · have : ∀ a b : Nat, Star (Ed (nextN s) [k]) a b → a = b ∨ b ≠ k := fun a b h => by
              cases h with
              | refl => exact .inl rfl
              | tail _ e => exact .inr (by obtain ⟨_, _, h3⟩ := e; simpa using h3)
            rcases this _ _ h2 with q | q
            · exact h1 (by rw [q]; simp)
            · exact q rfl
      · intro h
        obtain ⟨d, l, e⟩ := List.exists_cons_of_ne_nil h
        exact ((hDk2 d).1 (by rw [e]; simp)).2.1
    obtain ⟨b0, z1, z2⟩ := hstep _ 0 rfl (Nat.zero_le _)
    have body : S cx 43 (NH43_3_s0 ((rD D).map i64) g (DM.map fun r => rI false (nI r)) (s.parts.map (ePt false false)) (k : Int) (s.parts[k].params.map i64) (s.parts[k].code.map eF) s.parts[k].go s.parts[k].test (s.parts[k].next.map i64) (s.parts[k].args.map (rI false)) ((nI DM[k]).map i64)) = some ([tb (decide (DM[k] ≠ []) && b0)], []) := by
      rw [NH43_3_s0]
      by_cases c : DM[k] = []
      · rw [dF (p := DM[k] ≠ []) (fun h => h c), c]
        exact bif_pos rfl rfl
      · rw [dT (p := DM[k] ≠ []) c]
        have hne : ¬ ((((nI DM[k]).map i64).length : Nat) : Int) = 0 := by
          rw [List.length_map, List.length_map]
          intro h
          exact c (List.length_eq_zero_iff.1 (by omega))
        refine bif_neg (by rw [beq_eq_false_iff_ne]; exact hne) (ck_pos (decide_eq_true (by rw [len_i]; omega)) ?_)
        rw [List.take_zero] at z1
        simp only [dsts, List.append_nil] at z1
        rw [List.nil_append]
        exact z1
    refine ⟨decide (DM[k] ≠ []) && b0, ?_, fin _ ?_⟩
    · refine eH43_3 (bif_pos (dT (by rw [len_p]; omega)) (ck_pos (dT2 (by rw [len_p]; omega)) ?_))
      rw [pt_at hkl, V6_S]
      refine ck_pos (dT2 (by rw [hlen3]; omega)) ?_
      rw [nn_at2 hkD, S_slO, S_slB]
      exact body
    · rw [Bool.and_eq_true, z2, decide_eq_true_eq, nz]
      exact ⟨fun ⟨h1, h2, h3, h4⟩ => ⟨⟨h1, fun i hi => h2 i (Nat.zero_le _) hi, h3⟩, h4⟩, fun ⟨⟨h1, h2, h3⟩, h4⟩ => ⟨h1, fun i _ hi => h2 i hi, h3, h4⟩⟩
theorem t43 (s : Sa) (hs : smallA s) : tw cx 43 [eSa true false false s] = some ([tb (decide (goodS s))], []) := by
  have bad : ¬ goodS s → (some ([tb false], []) : Option Res) = some ([tb (decide (goodS s))], []) := fun h => by rw [dF h]
  refine e43 ?_
  rw [N43, len_p, C80_S (t80 _ _ _)]
  by_cases a1 : 1 ≤ (s.parts.length : Int) ∧ (s.parts.length : Int) ≤ 11
  case neg => exact bif_pos (by rw [dF a1]; rfl) (bad fun h => a1 (by have := h.1; omega))
  refine bif_neg (by rw [dT a1]; rfl) ?_
  rw [C80_S (t80 _ _ _)]
  by_cases a2 : 12 ≤ s.values ∧ s.values ≤ 250
  case neg => exact bif_pos (by rw [dF a2]; rfl) (bad fun h => a2 h.2.1)
  refine bif_neg (by rw [dT a2]; rfl) ?_
  have h0 : 0 < s.parts.length := by omega
  have e0 : s.parts.getD 0 default = s.parts[0] := by rw [List.getD_eq_getElem?_getD, List.getElem?_eq_getElem h0]; rfl
  -- behind the parts
  have tail : (∀ p ∈ s.parts, partG s p) → S cx 43 (H43_2 (s.parts.map (ePt false false)) s.values (s.parts.length : Int)) = some ([tb (decide (goodS s))], []) := fun hG => by
    obtain ⟨vs, b, q1, q2, q3⟩ := t82 s a2 hs (fun p hp => (hG p hp).1.1)
    refine eH43_2 (bif_neg (dF (by rw [len_p]; omega)) ?_)
    rw [C82_S q1]
    cases hst : allV s.values s.parts 0 (init2 s.values) with
    | none =>
      rw [q3 hst]
      exact bif_pos rfl (bad fun h => by
        obtain ⟨st, h1, _⟩ := h.2.2.2.2.2
        rw [hst] at h1; cases h1)
    | some st =>
      obtain ⟨rfl, rfl⟩ := q2 st hst
      refine bif_neg rfl (ck_pos (dT (by rw [len_p]; omega)) ?_)
      have p0 := pt_at (q := false) (q' := false) h0
      rw [show (0 + ((0 : Nat) : Int).toNat) = 0 from rfl] at p0
      rw [p0, V6_S]
      by_cases c0 : s.parts[0].params = []
      case neg =>
        exact bif_pos (dT (by rw [len_i]; have := List.length_pos_iff.2 c0; omega)) (bad fun h => c0 (by rw [← e0]; exact h.2.2.2.1))
      refine bif_neg (dF (by rw [c0]; simp)) ?_
      have hnx : nextsP s := ⟨by omega, fun p hp => ⟨(hG p hp).2.1, next_len (hG p hp)⟩⟩
      obtain ⟨out, G, g1, g2, g3, g4⟩ := t83 hnx
      rw [C83_S g1]
      obtain ⟨DM, d1, d2, d3⟩ := t84 g3 h0 g2
      rw [C84_S d1]
      have hd := df_of hst
      obtain ⟨b, b1, b2⟩ := uses43 hs a2 (by omega) hG hd d2 (fun k hk => ⟨(d3 k hk).1, fun d => ((d3 k hk).2 d).trans (g4.dm k d)⟩) out _ 0 rfl (Nat.zero_le _)
      refine b1.trans (leaf (b2.trans ⟨fun h => ⟨by omega, a2, hG, by rw [e0]; exact c0, fun k hk => (h k (Nat.zero_le _) hk).1, st, hst, fun k hk => (h k (Nat.zero_le _) hk).2⟩, fun h k _ hk => ⟨h.2.2.2.2.1 k hk, ?_⟩⟩))
      obtain ⟨st', h1, h2⟩ := h.2.2.2.2.2
      obtain rfl := Option.some.inj (hst.symm.trans h1)
      exact h2 k hk
  have lp2 : (∀ p ∈ s.parts, nextM s.parts.length p) → ∀ d k, s.parts.length - k = d → k ≤ s.parts.length → (∀ i (h : i < s.parts.length), i < k → partG s s.parts[i]) → S cx 43 (H43_2 (s.parts.map (ePt false false)) s.values (k : Int)) = some ([tb (decide (goodS s))], []) := by
    intro hN d
    induction d with
    | zero =>
      intro k hd hk hp
      obtain rfl : k = s.parts.length := by omega
      exact tail fun p hp' => by
        obtain ⟨i, hi, rfl⟩ := List.mem_iff_getElem.1 hp'
        exact hp i hi hi
    | succ d ih =>
      intro k hd hk hp
      have hkl : k < s.parts.length := by omega
      have hm := List.getElem_mem hkl
      refine eH43_2 (bif_pos (dT (by rw [len_p]; omega)) (ck_pos (dT2 (by rw [len_p]; omega)) ?_))
      rw [pt_at hkl, V6_S, C81_S (t81 s s.parts[k] false a2 hs (hs.2 _ hm) (hN _ hm))]
      by_cases c : partG s s.parts[k]
      · refine bif_neg (by rw [dT c]; rfl) (back_of ?_)
        rw [inc64 hkl (by omega)]
        refine ih (k + 1) (by omega) (by omega) fun i h hi => ?_
        by_cases c2 : i = k
        · subst c2; exact c
        · exact hp i h (by omega)
      · exact bif_pos (by rw [dF c]; rfl) (bad fun h => c (h.2.2.1 _ hm))
  have lp1 : ∀ (k : Nat) (hk : k < s.parts.length), ∀ d j, s.parts[k].next.length - j = d → j ≤ s.parts[k].next.length → (∀ i (h : i < s.parts[k].next.length), i < j → 1 ≤ s.parts[k].next[i] ∧ s.parts[k].next[i] < (s.parts.length : Int)) →
      (nextM s.parts.length s.parts[k] → S cx 43 (H43_0 (s.parts.map (ePt false false)) s.values ((k + 1 : Nat) : Int)) = some ([tb (decide (goodS s))], [])) → S cx 43 (H43_1 (s.parts.map (ePt false false)) s.values (k : Int) (s.parts[k].next.map i64) (j : Int)) = some ([tb (decide (goodS s))], []) := by
    intro k hk d
    have hsz := (hs.2 _ (List.getElem_mem hk)).2.2.1
    induction d with
    | zero =>
      intro j hd hj hn hr
      obtain rfl : j = s.parts[k].next.length := by omega
      refine eH43_1 (bif_neg (dF (by rw [len_i]; omega)) (back_of ?_))
      rw [inc64 hk (by omega)]
      exact hr fun v hv => by
        obtain ⟨i, hi, rfl⟩ := List.mem_iff_getElem.1 hv
        exact hn i hi hi
    | succ d ih =>
      intro j hd hj hn hr
      have hjl : j < s.parts[k].next.length := by omega
      refine eH43_1 (bif_pos (dT (by rw [len_i]; omega)) (ck_pos (dT2 (by rw [len_i]; omega)) ?_))
      rw [i64_at hjl, S_int]
      have notG : ¬ (1 ≤ s.parts[k].next[j] ∧ s.parts[k].next[j] < (s.parts.length : Int)) → ¬ goodS s := fun h hg => h ((hg.2.2.1 _ (List.getElem_mem hk)).2.1 _ (List.getElem_mem hjl))
      by_cases c0 : s.parts[k].next[j] ≤ 0
      · exact bif_pos (dT c0) (bad (notG fun h => by omega))
      · refine bif_neg (dF c0) ?_
        by_cases c1 : s.parts[k].next[j] ≥ (s.parts.length : Int)
        · exact bif_pos (dT (by rw [len_p]; exact c1)) (bad (notG fun h => by omega))
        · refine bif_neg (dF (by rw [len_p]; exact c1)) (back_of ?_)
          rw [inc64 hjl (by omega)]
          refine ih (j + 1) (by omega) (by omega) (fun i h hi => ?_) hr
          by_cases c2 : i = j
          · subst c2; omega
          · exact hn i h (by omega)
  have lp0 : ∀ d k, s.parts.length - k = d → k ≤ s.parts.length → (∀ i (h : i < s.parts.length), i < k → nextM s.parts.length s.parts[i]) → S cx 43 (H43_0 (s.parts.map (ePt false false)) s.values (k : Int)) = some ([tb (decide (goodS s))], []) := by
    intro d
    induction d with
    | zero =>
      intro k hd hk hp
      obtain rfl : k = s.parts.length := by omega
      exact eH43_0 (bif_neg (dF (by rw [len_p]; omega)) (lp2 (fun p hp' => by
        obtain ⟨i, hi, rfl⟩ := List.mem_iff_getElem.1 hp'
        exact hp i hi hi) _ 0 rfl (Nat.zero_le _) fun i _ h => absurd h (Nat.not_lt_zero _)))
    | succ d ih =>
      intro k hd hk hp
      have hkl : k < s.parts.length := by omega
      refine eH43_0 (bif_pos (dT (by rw [len_p]; omega)) (ck_pos (dT2 (by rw [len_p]; omega)) ?_))
      rw [pt_at hkl, V6_S]
      refine lp1 k hkl _ 0 rfl (Nat.zero_le _) (fun i _ h => absurd h (Nat.not_lt_zero _)) fun hn => ih (k + 1) (by omega) (by omega) fun i h hi => ?_
      by_cases c2 : i = k
      · subst c2; exact hn
      · exact hp i h (by omega)
  exact lp0 _ 0 rfl (Nat.zero_le _) fun i _ h => absurd h (Nat.not_lt_zero _)
end Go.Tree.Q

/- Rows of one value. -/
namespace Go.Tree.Q
open Go.Proofs
set_option linter.unusedVariables false
set_option linter.unusedSimpArgs false
theorem u64_id {x : Int} (h0 : 0 ≤ x) (h1 : x < 18446744073709551616) : IntKind.u64.wrap x = x := by
  have : IntKind.u64.wrap x = x % 18446744073709551616 := by simp [IntKind.wrap, IntKind.bits, IntKind.signed]
  rw [this]; omega
theorem and32 {y : Int} (h0 : 0 ≤ y) (h1 : y < 4294967296) : (((BitVec.ofInt 64 y &&& BitVec.ofInt 64 4294967295).toNat : Nat) : Int) = y := by
  obtain ⟨k, rfl⟩ := Int.eq_ofNat_of_zero_le h0
  rw [BitVec.toNat_and, BitVec.toNat_ofInt, BitVec.toNat_ofInt]
  have e1 : ((k : Int) % ((2 ^ 64 : Nat) : Int)).toNat = k := by omega
  have e2 : ((4294967295 : Int) % ((2 ^ 64 : Nat) : Int)).toNat = 2 ^ 32 - 1 := by decide
  rw [e1, e2, Nat.and_two_pow_sub_one_eq_mod]
  omega
theorem fd32 {y : Int} (h0 : 0 ≤ y) (h1 : y < 4294967296) : y.fdiv (2 ^ (32)) = 0 := by
  rw [Int.fdiv_eq_ediv_of_nonneg y (by decide)]
  omega
theorem t184 (y : Int) (h0 : 0 ≤ y) (h1 : y < 4294967296) : tw cx 184 [.fl (.int .u64 1), .fl (.int .u64 y)] = some ([.fl (.int .u64 0), .fl (.int .u64 y)], []) := by
  refine e184 ?_
  rw [N184, S_ret]
  have a1 : (((BitVec.ofInt 64 1 &&& BitVec.ofInt 64 4294967295).toNat : Nat) : Int) = 1 := and32 (by decide) (by decide)
  have f1 : (1 : Int).fdiv (2 ^ (32)) = 0 := by decide
  have u0 : IntKind.u64.wrap 0 = 0 := by decide
  have u1 : IntKind.u64.wrap 1 = 1 := by decide
  have uy : IntKind.u64.wrap y = y := u64_id h0 (by omega)
  simp only [a1, f1, fd32 h0 h1, and32 h0 h1, u0, u1, uy, Int.zero_mul, Int.mul_zero, Int.zero_add, Int.add_zero, Int.one_mul, and32 (show (0 : Int) ≤ 0 by decide) (show (0 : Int) < 4294967296 by decide), fd32 (show (0 : Int) ≤ 0 by decide) (show (0 : Int) < 4294967296 by decide)]
theorem t155 (y : Int) (h0 : 0 ≤ y) (h1 : y < 4294967296) : tw cx 155 [.fl (.int .u64 1), .fl (.int .u64 y)] = some ([.fl (.int .u64 0), .fl (.int .u64 y)], []) := by
  refine e155 ?_
  rw [N155, C184_S (t184 y h0 h1), S_ret]
theorem cpyS_spec (m n : Nat) (xs ys : List TV) (h : m + n ≤ xs.length) : cpyS (some (m, n)) xs ys = xs.take m ++ (ys.take (min ys.length n) ++ xs.drop (m + min ys.length n)) :=
  letI : Pol := ⟨fun _ _ _ => true, fun _ => true⟩
  cpyS_eq (some (m, n)) xs ys h
theorem cpyT_spec (xs ys : List TV) : cpyT xs ys = ys.take (min ys.length xs.length) ++ xs.drop (min ys.length xs.length) :=
  letI : Pol := ⟨fun _ _ _ => true, fun _ => true⟩
  cpyT_eq xs ys
theorem t114 (v : Int) (n : Nat) (hn : n ≤ big) : tw cx 114 [rI true [v], i64 n] = some ([rI false (List.replicate n v)], []) := by
  have hn : n ≤ 1073741824 := hn
  have key : ∀ d m : Nat, n - m = d → m ≤ n → 1 ≤ m → S cx 114 (H114_2 (List.replicate m (i64 v) ++ List.replicate (n - m) (i64 0)) m) = some ([rI false (List.replicate n v)], []) := by
    intro d
    induction d using Nat.strongRecOn with
    | ind d ih =>
      intro m hd hm h1
      have el : (List.replicate m (i64 v) ++ List.replicate (n - m) (i64 0)).length = n := by simp; omega
      by_cases c : m = n
      · subst c
        refine eH114_2 (bif_neg (dF (by omega)) ?_)
        rw [S_ret, Nat.sub_self]
        simp
      · refine eH114_2 (bif_pos (dT (by omega)) (ck_pos ?_ (ck_pos (dT2 (by omega)) (back_of ?_))))
        · rw [el, dT (show (0 : Int) ≤ m by omega), dT (show (m : Int) ≤ (n : Int) by omega), dT (Int.le_refl _)]; rfl
        · rw [el, List.drop_zero, show (0 + (m : Int).toNat) = m by omega, show ((n : Int) - m).toNat = n - m by omega, show ((m : Int) - 0).toNat = m by omega]
          have et : (List.replicate m (i64 v) ++ List.replicate (n - m) (i64 0)).take m = List.replicate m (i64 v) := by
            rw [List.take_left' (by simp)]
          rw [et, cpyS_spec _ _ _ _ (by rw [el]; omega), et]
          simp only [List.length_replicate]
          have e2 : List.replicate m (i64 v) ++ ((List.replicate m (i64 v)).take (min m (n - m)) ++ (List.replicate m (i64 v) ++ List.replicate (n - m) (i64 0)).drop (m + min m (n - m))) = List.replicate (m + min m (n - m)) (i64 v) ++ List.replicate (n - (m + min m (n - m))) (i64 0) := by
            rw [List.take_replicate, ← List.append_assoc, List.replicate_append_replicate, List.drop_append, List.length_replicate, List.drop_eq_nil_of_le (by simp), List.nil_append, List.drop_replicate]
            congr 2 <;> omega
          rw [e2, w64_id (by omega) (by omega)]
          have := ih (n - (m + min m (n - m))) (by omega) (m + min m (n - m)) rfl (by omega) (by omega)
          rw [show ((m + min m (n - m) : Nat) : Int) = (m : Int) + ((min m (n - m) : Nat) : Int) by omega] at this
          exact this
  refine e114 (bif_neg (dF (by omega)) (eG114_0 ?_))
  have e1 : IntKind.u64.wrap (((([v].map i64).length : Nat) : Int)) = 1 := u64_id (by simp) (by simp)
  have e2 : IntKind.u64.wrap (n : Int) = n := u64_id (by omega) (by omega)
  unfold NG114_0
  rw [e1, e2, C155_S (t155 _ (by omega) (by omega))]
  refine bif_neg rfl (bif_neg (dF (by omega)) (eG114_1 (ck_pos ?_ ?_)))
  · rw [w64_id (by omega) (by omega)]; exact mk_ok (by omega) hn
  · rw [w64_id (by omega) (by omega), show ((n : Int)).toNat = n by omega]
    by_cases c : n = 0
    · subst c
      exact eH114_2 (bif_neg rfl rfl)
    · have := key (n - 1) 1 rfl (by omega) (by omega)
      have e3 : cpyT (List.replicate n (i64 0)) ([v].map i64) = List.replicate 1 (i64 v) ++ List.replicate (n - 1) (i64 0) := by
        rw [cpyT_spec]
        simp only [List.map_cons, List.map_nil, List.length_cons, List.length_nil, List.length_replicate, List.drop_replicate]
        rw [show min (0 + 1) n = 1 by omega]
        rfl
      rw [e3]
      simp only [List.map_cons, List.map_nil, List.length_cons, List.length_nil, List.length_replicate]
      rw [show min (0 + 1) n = 1 by omega]
      exact this
end Go.Tree.Q

/- A good ssa, as the program has it: parts. -/
namespace Go.Tree.Q
open Go.Proofs Go.Tree.Cg
set_option linter.unusedVariables false
set_option linter.unusedSimpArgs false
/-- A view. -/
abbrev eV (q : Bool) (ps : List Pt) (m : Int) (next dom : List TV) (st : St2) : TV := .pt q () (.st [.st [rP true false false ps, i64 m], sl false ⟨1, true⟩ next, sl false ⟨1, true⟩ dom, rI false st.1, rI false st.2])
theorem t166 (x : F) : tw cx 166 [eF x] = some ([tb (decide (setsP x))], []) := by
  refine e166 ?_
  rw [N166, C159_S (t159 _), S_ret]
  exact leaf (by simp only [decide_eq_true_eq]; omega)
theorem t168 (x : F) (h : 1 ≤ x.op ∧ x.op ≤ 6) : tw cx 168 [eF x] = some ([rI false (usesV x)], []) := by
  refine e168 ?_
  rw [N168, C159_S (t159 _)]
  have lim0 : lim = 140737488355328 := rfl
  by_cases c1 : x.op = 1
  · refine bif_neg (dF (by omega)) (eG168_0 (bif_neg (dF (by omega)) (eG168_1 ?_)))
    simp [usesV, c1, NG168_1]
    rfl
  · refine bif_pos (dT (by omega)) (ck_pos (decide_eq_true (by simp; omega)) (eG168_0 ?_))
    by_cases c3 : x.op = 3 ∨ x.op = 5
    · refine bif_pos (dT c3) (ck_pos (decide_eq_true (by simp; omega)) (eG168_1 ?_))
      rw [usesV, if_neg c1, if_pos c3]
      rfl
    · refine bif_neg (dF c3) (eG168_1 ?_)
      rw [usesV, if_neg c1, if_neg c3]
      rfl
theorem t78 (p : Pt) (m n : Int) (hm : 12 ≤ m ∧ m ≤ 250) (hn : 0 ≤ n ∧ n ≤ 1073741824) (h : p.next.length ≤ 1048576) : tw cx 78 [i64 p.go, i64 p.test, rI true p.next, i64 m, i64 n] = some ([tb (decide ((∀ k ∈ p.next, 0 ≤ k ∧ k < n) ∧ goM m p))], []) := by
  obtain ⟨params, code, go, test, next, args⟩ := p
  refine e78 ?_
  have h2 : next.length ≤ big := by show next.length ≤ 1073741824; have : next.length ≤ 1048576 := h; omega
  have hw : w64 (m - 1) = m - 1 := by rw [w64_id (by omega) (by omega)]
  simp only [N78, N78_s0, N78_s1, C125_S (t125 _), C57_S (t57 _ _ _), C126_S (t126 next n hn h2), S_bif, S_ret, decide_eq_true_eq, beq_iff_eq, bne_iff_ne, ne_eq, Bool.not_eq_true', decide_eq_false_iff_not, hw, any_not, List.length_map]
  have f1 : ((next.length : Nat) : Int) = 1 ↔ next.length = 1 := by omega
  have f2 : ((next.length : Nat) : Int) = 2 ↔ next.length = 2 := by omega
  have f0 : ((next.length : Nat) : Int) = 0 ↔ next.length = 0 := by omega
  have f3 : (2 ≤ ((next.length : Nat) : Int) ∧ ((next.length : Nat) : Int) ≤ 6) ↔ (2 ≤ next.length ∧ next.length ≤ 6) := by omega
  have f4 : (0 ≤ test ∧ test ≤ m - 1) ↔ (0 ≤ test ∧ test < m) := by omega
  repeat' split
  all_goals exact leaf (by simp only [goM, decide_eq_true_eq, beq_iff_eq, Bool.false_eq_true, false_iff, true_iff, eq_self, f1, f2, f0, f3]; grind)
section
variable {ps : List Pt} {m : Int} {next dom : List TV}
theorem t165 (hm : 12 ≤ m ∧ m ≤ 250) (st : St2) (l1 : st.1.length = m.toNat) (l2 : st.2.length = m.toNat) (v part at' : Int) : tw cx 165 [eV false ps m next dom st, i64 v, i64 part, i64 at'] =
    some ([tb (def1 m part st (v, at')).isSome], [eV false ps m next dom ((def1 m part st (v, at')).getD st)]) := by
  refine e165 ?_
  have hw : w64 (m - 1) = m - 1 := by rw [w64_id (by omega) (by omega)]
  rw [N165, hw, C57_S (t57 _ _ _)]
  have e1 : (st.1.map i64).length = m.toNat := by rw [len_i, l1]
  have e2 : (st.2.map i64).length = m.toNat := by rw [len_i, l2]
  unfold def1
  by_cases c : 12 ≤ v ∧ v ≤ m - 1
  · refine bif_neg (by rw [dT c]; rfl) (ck_pos (dT2 (by omega)) ?_)
    have hv := i64_at (xs := st.1) (j := v.toNat) (by omega)
    rw [show ((v.toNat : Nat) : Int).toNat = v.toNat by omega] at hv
    have hg : st.1.getD v.toNat 0 = st.1[v.toNat]'(by omega) := by rw [List.getD_eq_getElem?_getD, List.getElem?_eq_getElem (by omega)]; rfl
    rw [hv, S_int]
    by_cases cd : st.1[v.toNat]'(by omega) ≥ 0
    · rw [if_neg (by simp only; rw [hg]; omega)]
      exact bif_pos (dT cd) rfl
    · rw [if_pos ⟨c.1, by simp only; omega, by simp only; rw [hg]; omega⟩]
      refine bif_neg (dF cd) (ck_pos (dT2 (by omega)) (ck_pos (dT2 (by omega)) ?_))
      rw [Nat.zero_add, S_ret, ← List.map_set, ← List.map_set]
      rfl
  · rw [if_neg (fun h => c ⟨h.1, by have := h.2.1; simp only at this; omega⟩)]
    exact bif_pos (by rw [dF c]; rfl) rfl
theorem t164 (s1 : ps.length ≤ 1048576) (p : Pt) (q : Bool) (st : St2) (hp : smallP p) (hn : ∀ k ∈ p.next, 0 ≤ k ∧ k < (ps.length : Int)) : tw cx 164 [eV true ps m next dom st, .pt true () (ePt true q p)] = some ([tb (decide (argM ps p))], []) := by
  obtain ⟨params, code, go, test, nx, args⟩ := p
  obtain ⟨p1, p2, p3, p4, p5⟩ := hp
  simp only at p1 p2 p3 p4 p5 hn
  have args1 : args.length = nx.length → ∀ d j, nx.length - j = d → j ≤ nx.length →
      ∃ b : Bool, S cx 164 (H164_0 (ps.map (ePt false false)) m next dom (st.1.map i64) (st.2.map i64) (params.map i64) (code.map eF) go test (nx.map i64) (args.map (rI q)) (j : Int)) = some ([tb b], []) ∧ (b = true ↔ ∀ i, j ≤ i → i < nx.length → (args.getD i []).length = (ps.getD (nx.getD i 0).toNat default).params.length) := by
    intro hal d
    induction d with
    | zero =>
      intro j hd hj
      exact ⟨true, eH164_0 (bif_neg (dF (by rw [len_i]; omega)) rfl), by simp only [true_iff]; exact fun i h1 h2 => by omega⟩
    | succ d ih =>
      intro j hd hj
      have hjl : j < nx.length := by omega
      have n12 : 0 ≤ nx[j] ∧ nx[j] < (ps.length : Int) := hn _ (List.getElem_mem hjl)
      have hk : nx[j].toNat < ps.length := by omega
      have e1 := pt_at (q := false) (q' := false) hk
      rw [show ((nx[j].toNat : Nat) : Int) = nx[j] by omega] at e1
      have e2 : (args.getD j []).length = (args[j]'(by omega)).length := by rw [List.getD_eq_getElem?_getD, List.getElem?_eq_getElem (by omega)]; rfl
      have e3 : (ps.getD (nx.getD j 0).toNat default) = ps[nx[j].toNat] := by
        have : nx.getD j 0 = nx[j] := by rw [List.getD_eq_getElem?_getD, List.getElem?_eq_getElem hjl]; rfl
        rw [this, List.getD_eq_getElem?_getD, List.getElem?_eq_getElem hk]; rfl
      obtain ⟨b, hb, hb2⟩ := ih (j + 1) (by omega) (by omega)
      by_cases c : (args[j]'(by omega)).length = ps[nx[j].toNat].params.length
      · refine ⟨b, eH164_0 (bif_pos (dT (by rw [len_i]; omega)) (ck_pos (dT2 (by rw [len_i]; omega)) ?_)), hb2.trans ⟨fun h i h1 h2 => ?_, fun h i h1 h2 => h i (by omega) h2⟩⟩
        · rw [i64_at hjl, S_int]
          refine ck_pos (dT2 (by rw [len_r]; omega)) ?_
          rw [row_at (by omega), S_slR]
          refine ck_pos (dT2 (by rw [len_p]; omega)) ?_
          rw [e1, V6_S, len_i, len_i]
          refine bif_neg (by simp [c]) (back_of ?_)
          rw [inc64 hjl (by omega)]
          exact hb
        · by_cases c2 : i = j
          · subst c2; rw [e2, e3]; exact c
          · exact h i (by omega) h2
      · refine ⟨false, eH164_0 (bif_pos (dT (by rw [len_i]; omega)) (ck_pos (dT2 (by rw [len_i]; omega)) ?_)), by simp only [Bool.false_eq_true, false_iff]; exact fun h => c (by rw [← e2, ← e3]; exact h j (Nat.le_refl _) hjl)⟩
        rw [i64_at hjl, S_int]
        refine ck_pos (dT2 (by rw [len_r]; omega)) ?_
        rw [row_at (by omega), S_slR]
        refine ck_pos (dT2 (by rw [len_p]; omega)) ?_
        rw [e1, V6_S, len_i, len_i]
        exact bif_pos (by simp; omega) rfl
  show tw cx 164 [eV true ps m next dom st, .pt true () (.st [rI true params, rF true code, i64 go, i64 test, rI true nx, rII true q args])] = _
  refine e164 ?_
  by_cases c3 : go = 3
  · refine bif_pos (by simp [c3]) ?_
    by_cases ca : args.length = 1
    · refine bif_pos (by simp [ca]) (ck_pos (dT (by rw [len_r]; omega)) ?_)
      have := row_at (q := q) (show 0 < args.length by omega)
      rw [show (0 + ((0 : Nat) : Int).toNat) = 0 from rfl] at this
      rw [this, S_slR, len_i, S_ret]
      refine leaf ?_
      unfold argM
      rw [if_pos c3, List.getD_eq_getElem?_getD, List.getElem?_eq_getElem (show 0 < args.length by omega), beq_iff_eq]
      simp only [ca, true_and, Option.getD_some]
      omega
    · exact bif_neg (by rw [len_r, beq_eq_false_iff_ne]; omega) (leaf (by unfold argM; rw [if_pos c3]; simp [ca]))
  · refine bif_neg (by simp [c3]) ?_
    by_cases ca : args.length = nx.length
    · obtain ⟨b, hb, hb2⟩ := args1 ca _ 0 rfl (Nat.zero_le _)
      refine bif_neg (by simp [ca]) (hb.trans (leaf (hb2.trans ?_)))
      unfold argM
      rw [if_neg c3]
      exact ⟨fun h => ⟨ca, fun i hi => h i (Nat.zero_le _) hi⟩, fun h i _ hi => h.2 i hi⟩
    · exact bif_pos (by rw [bne_iff_ne, len_r, len_i]; omega) (leaf (by unfold argM; rw [if_neg c3]; simp [ca]))
end
end Go.Tree.Q

/- A good ssa, as the program has it: where values come to be. -/
namespace Go.Tree.Q
open Go.Proofs Go.Tree.Cg
set_option linter.unusedVariables false
set_option linter.unusedSimpArgs false
section
variable {ps : List Pt} {m : Int} {next dom : List TV}
theorem nextM_iff {n : Int} (p : Pt) : ((∀ k ∈ p.next, 0 ≤ k ∧ k < n) ∧ 0 ∉ p.next) ↔ nextM n p := by
  unfold nextM
  constructor
  · rintro ⟨h1, h2⟩ k hk
    have := h1 k hk
    have : k ≠ 0 := fun h => h2 (h ▸ hk)
    omega
  · intro h
    exact ⟨fun k hk => by have := h k hk; omega, fun h0 => by have := h 0 h0; omega⟩
/-- The values of a part's steps. -/
theorem code137 (hm : 12 ≤ m ∧ m ≤ 250) (k : Nat) (hk : k < ps.length) (h60 : ps[k].code.length ≤ 60) (hc : ∀ x ∈ ps[k].code, flatM m x) : ∀ d j (st : St2), ps[k].code.length - j = d → j ≤ ps[k].code.length → st.1.length = m.toNat → st.2.length = m.toNat →
    (∀ st', defsV m k (codeEv (ps[k].code.drop j) j) st = some st' → S cx 137 (H137_1 (k : Int) (ps.map (ePt false false)) (ps[k].code.map eF) (j : Int) (ps.map (ePt false false)) m next dom (st.1.map i64) (st.2.map i64)) = some ([tb (decide (0 < k ∨ ps[k].params = []))], [eV false ps m next dom st'])) ∧
    (defsV m k (codeEv (ps[k].code.drop j) j) st = none → ∃ st', S cx 137 (H137_1 (k : Int) (ps.map (ePt false false)) (ps[k].code.map eF) (j : Int) (ps.map (ePt false false)) m next dom (st.1.map i64) (st.2.map i64)) = some ([tb false], [eV false ps m next dom st'])) := by
  intro d
  induction d with
  | zero =>
    intro j st hd hj l1 l2
    obtain rfl : j = ps[k].code.length := by omega
    rw [List.drop_length]
    refine ⟨fun st' h => ?_, fun h => by cases h⟩
    obtain rfl := Option.some.inj h
    refine eH137_1 (bif_neg (dF (by rw [len_f]; omega)) ?_)
    by_cases c : 0 < k
    · refine bif_pos (dT (by omega)) ?_
      rw [dT (p := 0 < k ∨ ps[k].params = []) (.inl c)]
      rfl
    · obtain rfl : k = 0 := by omega
      refine bif_neg (dF (by omega)) ?_
      rw [pt_at hk, V6_S, S_ret]
      have e : ((((ps[0].params.map i64).length : Nat) : Int) == 0) = decide (0 < 0 ∨ ps[0].params = []) := by
        rw [Bool.eq_iff_iff, beq_iff_eq, decide_eq_true_eq, len_i, ← List.length_eq_zero_iff]
        omega
      rw [e]
  | succ d ih =>
    intro j st hd hj l1 l2
    have hjl : j < ps[k].code.length := by omega
    have hx := hc _ (List.getElem_mem hjl)
    have hdr : ps[k].code.drop j = ps[k].code[j] :: ps[k].code.drop (j + 1) := List.drop_eq_getElem_cons hjl
    rw [hdr, codeEv]
    by_cases cs : setsP ps[k].code[j]
    · rw [if_pos cs, defsV]
      have h165 := t165 (ps := ps) (next := next) (dom := dom) hm st l1 l2 ps[k].code[j].dst (k : Int) (j : Int)
      have start : ∀ r, S cx 137 (C165 (ps.map (ePt false false)) m next dom (st.1.map i64) (st.2.map i64) ps[k].code[j].dst (k : Int) (j : Int) fun v_31 partss_84 values_41 nexts_2d doms_27 defs_98 ats_38 =>
          .bif ((!v_31))
          (.ret [tb false] [.pt false () (.st [.st [sl true ⟨6, true⟩ partss_84, i64 values_41], sl false ⟨1, true⟩ nexts_2d, sl false ⟨1, true⟩ doms_27, sl false ⟨1, false⟩ defs_98, sl false ⟨1, false⟩ ats_38])])
          (B137_1 (k : Int) (ps.map (ePt false false)) (ps[k].code.map eF) (w64 ((j : Int) + 1)) partss_84 values_41 nexts_2d doms_27 defs_98 ats_38)) = some r → S cx 137 (H137_1 (k : Int) (ps.map (ePt false false)) (ps[k].code.map eF) (j : Int) (ps.map (ePt false false)) m next dom (st.1.map i64) (st.2.map i64)) = some r := fun r h => by
        refine eH137_1 (bif_pos (dT (by rw [len_f]; omega)) (ck_pos (dT2 (by rw [len_f]; omega)) ?_))
        rw [cf_at hjl, V6_1_S, C166_S (t166 _)]
        exact bif_pos (dT cs) h
      cases h1 : def1 m k st (ps[k].code[j].dst, (j : Int)) with
      | none =>
        refine ⟨fun st' h => (by cases h), fun _ => ⟨st, start _ ?_⟩⟩
        rw [h1] at h165
        rw [C165_S h165]
        exact bif_pos rfl rfl
      | some s1 =>
        obtain ⟨_, k1, k2, _⟩ := def1_ok h1 l1 l2
        obtain ⟨i1, i2⟩ := ih (j + 1) s1 (by omega) (by omega) k1 k2
        rw [h1] at h165
        have go : ∀ r, S cx 137 (H137_1 (k : Int) (ps.map (ePt false false)) (ps[k].code.map eF) ((j + 1 : Nat) : Int) (ps.map (ePt false false)) m next dom (s1.1.map i64) (s1.2.map i64)) = some r → S cx 137 (H137_1 (k : Int) (ps.map (ePt false false)) (ps[k].code.map eF) (j : Int) (ps.map (ePt false false)) m next dom (st.1.map i64) (st.2.map i64)) = some r := fun r h => by
          refine start r ?_
          rw [C165_S h165]
          refine bif_neg rfl (back_of ?_)
          rw [inc64 hjl (by omega)]
          exact h
        exact ⟨fun st' h => go _ (i1 st' h), fun h => (i2 h).imp fun st' h => go _ h⟩
    · rw [if_neg cs]
      obtain ⟨i1, i2⟩ := ih (j + 1) st (by omega) (by omega) l1 l2
      have go : ∀ r, S cx 137 (H137_1 (k : Int) (ps.map (ePt false false)) (ps[k].code.map eF) ((j + 1 : Nat) : Int) (ps.map (ePt false false)) m next dom (st.1.map i64) (st.2.map i64)) = some r → S cx 137 (H137_1 (k : Int) (ps.map (ePt false false)) (ps[k].code.map eF) (j : Int) (ps.map (ePt false false)) m next dom (st.1.map i64) (st.2.map i64)) = some r := fun r h => by
        refine eH137_1 (bif_pos (dT (by rw [len_f]; omega)) (ck_pos (dT2 (by rw [len_f]; omega)) ?_))
        rw [cf_at hjl, V6_1_S, C166_S (t166 _)]
        refine bif_neg (dF cs) (back_of ?_)
        rw [inc64 hjl (by omega)]
        exact h
      exact ⟨fun st' h => go _ (i1 st' h), fun h => (i2 h).imp fun st' h => go _ h⟩
/-- The params of a part. -/
theorem params137 (hm : 12 ≤ m ∧ m ≤ 250) (k : Nat) (hk : k < ps.length) (hs : smallP ps[k]) (h60 : ps[k].code.length ≤ 60) (hc : ∀ x ∈ ps[k].code, flatM m x) : ∀ (rest pre : List Int) (st : St2), pre ++ rest = ps[k].params → st.1.length = m.toNat → st.2.length = m.toNat →
    (∀ st', defsV m k (rest.map (fun v => (v, -1)) ++ codeEv ps[k].code 0) st = some st' → S cx 137 (H137_0 (k : Int) (ps.map (ePt false false)) (ps[k].params.map i64) (pre.length : Int) (ps.map (ePt false false)) m next dom (st.1.map i64) (st.2.map i64)) = some ([tb (decide (0 < k ∨ ps[k].params = []))], [eV false ps m next dom st'])) ∧
    (defsV m k (rest.map (fun v => (v, -1)) ++ codeEv ps[k].code 0) st = none → ∃ st', S cx 137 (H137_0 (k : Int) (ps.map (ePt false false)) (ps[k].params.map i64) (pre.length : Int) (ps.map (ePt false false)) m next dom (st.1.map i64) (st.2.map i64)) = some ([tb false], [eV false ps m next dom st'])) := by
  intro rest
  have hp1 := hs.1
  induction rest with
  | nil =>
    intro pre st he l1 l2
    rw [List.append_nil] at he
    subst he
    obtain ⟨i1, i2⟩ := code137 (next := next) (dom := dom) hm k hk h60 hc _ 0 st rfl (Nat.zero_le _) l1 l2
    rw [List.drop_zero] at i1 i2
    have go : ∀ r, S cx 137 (H137_1 (k : Int) (ps.map (ePt false false)) (ps[k].code.map eF) 0 (ps.map (ePt false false)) m next dom (st.1.map i64) (st.2.map i64)) = some r → S cx 137 (H137_0 (k : Int) (ps.map (ePt false false)) (ps[k].params.map i64) (ps[k].params.length : Int) (ps.map (ePt false false)) m next dom (st.1.map i64) (st.2.map i64)) = some r := fun r h => by
      refine eH137_0 (bif_neg (dF (by rw [len_i]; omega)) ?_)
      rw [pt_at hk, V6_S]
      exact h
    exact ⟨fun st' h => go _ (i1 st' h), fun h => (i2 h).imp fun st' h => go _ h⟩
  | cons v rest ih =>
    intro pre st he l1 l2
    have hlen : pre.length < ps[k].params.length := by rw [← he]; simp
    have hat : (ps[k].params.map i64).getD (0 + ((pre.length : Nat) : Int).toNat) (.dead ()) = i64 v := by
      rw [i64_at hlen]
      congr 1
      simp [← he]
    have start : ∀ r, S cx 137 (C165 (ps.map (ePt false false)) m next dom (st.1.map i64) (st.2.map i64) v (k : Int) (-1) fun v_8e partss_0a values_b9 nexts_b8 doms_08 defs_06 ats_4d =>
    .bif ((!v_8e))
    (.ret [tb false] [.pt false () (.st [.st [sl true ⟨6, true⟩ partss_0a, i64 values_b9], sl false ⟨1, true⟩ nexts_b8, sl false ⟨1, true⟩ doms_08, sl false ⟨1, false⟩ defs_06, sl false ⟨1, false⟩ ats_4d])])
    (B137_0 (k : Int) (ps.map (ePt false false)) (ps[k].params.map i64) (w64 ((pre.length : Int) + 1)) partss_0a values_b9 nexts_b8 doms_08 defs_06 ats_4d)) = some r → S cx 137 (H137_0 (k : Int) (ps.map (ePt false false)) (ps[k].params.map i64) (pre.length : Int) (ps.map (ePt false false)) m next dom (st.1.map i64) (st.2.map i64)) = some r := fun r h => by
      refine eH137_0 (bif_pos (dT (by rw [len_i]; omega)) (ck_pos (dT2 (by rw [len_i]; omega)) ?_))
      rw [hat, S_int]
      exact h
    have h165 := t165 (ps := ps) (next := next) (dom := dom) hm st l1 l2 v (k : Int) (-1)
    rw [List.map_cons, List.cons_append, defsV]
    cases h1 : def1 m k st (v, -1) with
    | none =>
      refine ⟨fun st' h => (by cases h), fun _ => ⟨st, start _ ?_⟩⟩
      rw [h1] at h165
      rw [C165_S h165]
      exact bif_pos rfl rfl
    | some s1 =>
      obtain ⟨_, k1, k2, _⟩ := def1_ok h1 l1 l2
      obtain ⟨i1, i2⟩ := ih (pre ++ [v]) s1 (by rw [← he]; simp) k1 k2
      rw [h1] at h165
      have go : ∀ r, S cx 137 (H137_0 (k : Int) (ps.map (ePt false false)) (ps[k].params.map i64) ((pre ++ [v]).length : Int) (ps.map (ePt false false)) m next dom (s1.1.map i64) (s1.2.map i64)) = some r → S cx 137 (H137_0 (k : Int) (ps.map (ePt false false)) (ps[k].params.map i64) (pre.length : Int) (ps.map (ePt false false)) m next dom (st.1.map i64) (st.2.map i64)) = some r := fun r h => by
        refine start r ?_
        rw [C165_S h165]
        refine bif_neg rfl (back_of ?_)
        rw [inc64 hlen (by omega)]
        rw [List.length_append, List.length_singleton] at h
        exact h
      exact ⟨fun st' h => go _ (i1 st' h), fun h => (i2 h).imp fun st' h => go _ h⟩
theorem t137 (hm : 12 ≤ m ∧ m ≤ 250) (hs : smallA ⟨ps, m⟩) (k : Nat) (hk : k < ps.length) (st : St2) (l1 : st.1.length = m.toNat) (l2 : st.2.length = m.toNat) :
    ∃ (b : Bool) (st' : St2), tw cx 137 [eV false ps m next dom st, i64 (k : Int)] = some ([tb b], [eV false ps m next dom st']) ∧ (b = true → partG ⟨ps, m⟩ ps[k] ∧ defsV m k (evP ps[k]) st = some st' ∧ (0 < k ∨ ps[k].params = [])) ∧ (b = false → ¬ (partG ⟨ps, m⟩ ps[k] ∧ (∃ st', defsV m k (evP ps[k]) st = some st') ∧ (0 < k ∨ ps[k].params = []))) := by
  obtain ⟨s1, s2⟩ := hs
  simp only at s1 s2
  have hsk := s2 _ (List.getElem_mem hk)
  obtain ⟨p1, p2, p3, p4, p5⟩ := id hsk
  have hps : ((ps.map (ePt false false)).length : Int) = ps.length := by rw [len_p]
  have start : ∀ {r}, S cx 137 (C77 (ps[k].code.map eF) m fun v_f0 =>
  .bif ((!v_f0))
  (.ret [tb false] [eV false ps m next dom st])
  (C78 ps[k].go ps[k].test (ps[k].next.map i64) m (((ps.map (ePt false false)).length : Nat) : Int) fun v_1a =>
    .bif ((!v_1a))
    (.ret [tb false] [eV false ps m next dom st])
    (C119 (ps[k].next.map i64) 0 fun v_2d =>
      .bif (v_2d)
      (.ret [tb false] [eV false ps m next dom st])
      (C164 (ps.map (ePt false false)) m next dom (st.1.map i64) (st.2.map i64) (ps[k].params.map i64) (ps[k].code.map eF) ps[k].go ps[k].test (ps[k].next.map i64) (ps[k].args.map (rI false)) fun v_68 =>
        .bif ((!v_68))
        (.ret [tb false] [eV false ps m next dom st])
        (H137_0 (k : Int) (ps.map (ePt false false)) (ps[k].params.map i64) 0 (ps.map (ePt false false)) m next dom (st.1.map i64) (st.2.map i64)))))) = some r → tw cx 137 [eV false ps m next dom st, i64 (k : Int)] = some r := fun {r} h => by
    refine e137 (ck_pos (dT2 (by rw [len_p]; omega)) ?_)
    simp only [pt_at hk]
    exact h
  by_cases c1 : ps[k].code.length ≤ 60 ∧ ∀ x ∈ ps[k].code, flatM m x
  case neg =>
    refine ⟨false, st, start ?_, fun h => (by cases h), fun _ h => c1 h.1.1⟩
    rw [C77_S (t77 ps[k].code m (by omega) (by show _ ≤ 1073741824; omega)), dF c1]
    exact bif_pos rfl rfl
  by_cases c2 : (∀ v ∈ ps[k].next, 0 ≤ v ∧ v < (ps.length : Int)) ∧ goM m ps[k]
  case neg =>
    refine ⟨false, st, start ?_, fun h => (by cases h), fun _ h => c2 ⟨((nextM_iff ps[k]).2 h.1.2.1).1, h.1.2.2.1⟩⟩
    rw [C77_S (t77 ps[k].code m (by omega) (by show _ ≤ 1073741824; omega)), dT c1]
    refine bif_neg rfl ?_
    rw [hps, C78_S (t78 ps[k] m _ hm (by omega) p3), dF c2]
    exact bif_pos rfl rfl
  by_cases c3 : 0 ∈ ps[k].next
  · refine ⟨false, st, start ?_, fun h => (by cases h), fun _ h => ((nextM_iff ps[k]).2 h.1.2.1).2 c3⟩
    rw [C77_S (t77 ps[k].code m (by omega) (by show _ ≤ 1073741824; omega)), dT c1]
    refine bif_neg rfl ?_
    rw [hps, C78_S (t78 ps[k] m _ hm (by omega) p3), dT c2]
    refine bif_neg rfl ?_
    rw [C119_S (t119 ps[k].next 0 (by show _ ≤ 1073741824; omega)), dT c3]
    exact bif_pos rfl rfl
  have hnx : nextM ps.length ps[k] := (nextM_iff ps[k]).1 ⟨c2.1, c3⟩
  by_cases c4 : argM ps ps[k]
  case neg =>
    refine ⟨false, st, start ?_, fun h => (by cases h), fun _ h => c4 h.1.2.2.2⟩
    rw [C77_S (t77 ps[k].code m (by omega) (by show _ ≤ 1073741824; omega)), dT c1]
    refine bif_neg rfl ?_
    rw [hps, C78_S (t78 ps[k] m _ hm (by omega) p3), dT c2]
    refine bif_neg rfl ?_
    rw [C119_S (t119 ps[k].next 0 (by show _ ≤ 1073741824; omega)), dF c3]
    refine bif_neg rfl ?_
    rw [C164_S (t164 s1 ps[k] false st hsk c2.1), dF c4]
    exact bif_pos rfl rfl
  have hG : partG ⟨ps, m⟩ ps[k] := ⟨c1, hnx, c2.2, c4⟩
  have go : ∀ {r}, S cx 137 (H137_0 (k : Int) (ps.map (ePt false false)) (ps[k].params.map i64) 0 (ps.map (ePt false false)) m next dom (st.1.map i64) (st.2.map i64)) = some r → tw cx 137 [eV false ps m next dom st, i64 (k : Int)] = some r := fun {r} h => by
    refine start ?_
    rw [C77_S (t77 ps[k].code m (by omega) (by show _ ≤ 1073741824; omega)), dT c1]
    refine bif_neg rfl ?_
    rw [hps, C78_S (t78 ps[k] m _ hm (by omega) p3), dT c2]
    refine bif_neg rfl ?_
    rw [C119_S (t119 ps[k].next 0 (by show _ ≤ 1073741824; omega)), dF c3]
    refine bif_neg rfl ?_
    rw [C164_S (t164 s1 ps[k] false st hsk c2.1), dT c4]
    exact bif_neg rfl h
  obtain ⟨i1, i2⟩ := params137 (next := next) (dom := dom) hm k hk hsk c1.1 c1.2 ps[k].params [] st rfl l1 l2
  cases h1 : defsV m k (evP ps[k]) st with
  | none =>
    obtain ⟨st', h⟩ := i2 h1
    exact ⟨false, st', go h, fun h => (by cases h), fun _ h => by obtain ⟨_, ⟨x, hx⟩, _⟩ := h; cases hx⟩
  | some st' =>
    refine ⟨decide (0 < k ∨ ps[k].params = []), st', go (i1 st' h1), fun h => ⟨hG, rfl, of_decide_eq_true h⟩, fun h h2 => (of_decide_eq_false h) h2.2.2⟩
end
end Go.Tree.Q

/- A good ssa, as the program has it: its view. -/
namespace Go.Tree.Q
open Go.Proofs Go.Tree.Cg
set_option linter.unusedVariables false
set_option linter.unusedSimpArgs false
theorem all94 {s_0 : List TV} {s_1 : Int} {b0_0 : List TV} {b1_0 : List TV} {res : Res} (c0 : tw cx 136 [.st [sl true ⟨6, true⟩ s_0, i64 s_1]] = some ([sl false ⟨1, true⟩ b0_0], [])) (c1 : tw cx 114 [sl true ⟨1, false⟩ ([i64 (-1)]), i64 s_1] = some ([sl false ⟨1, false⟩ b1_0], []))
    (h0 : (decide ((0 : Int) ≤ s_1) && decide (s_1 ≤ s_1) && decide (s_1 * 8 < (lim : Int)) && decide (s_1 < 9223372036854775807) && true && true) = true)
    (x0 : S cx 94 (G94_69 s_0 s_1 b0_0 b1_0) = some res) : S cx 94 (G94_0 s_0 s_1) = some res := by
  have r0 : S cx 94 (R94_74 s_0 s_1 b0_0 b1_0) = some res := eR94_74 (ck_pos h0 x0)
  have r1 : S cx 94 (R94_77 s_0 s_1 b0_0 b1_0) = some res := eR94_77 (ck_pos h0 x0)
  have r2 : S cx 94 (R94_72 s_0 s_1 b0_0) = some res := eR94_72 ((C114_S c1).trans x0)
  have r3 : S cx 94 (R94_75 s_0 s_1 b0_0) = some res := eR94_75 (S_amb2 ((C114_S c1).trans r1) (ck_pos h0 r2))
  have r4 : S cx 94 (R94_62 s_0 s_1 b0_0) = some res := eR94_62 (S_amb2 ((C114_S c1).trans r0) r3)
  have r5 : S cx 94 (R94_67 s_0 s_1 b0_0) = some res := eR94_67 ((C114_S c1).trans x0)
  have r6 : S cx 94 (R94_63 s_0 s_1 b0_0) = some res := eR94_63 (S_amb2 r3 (ck_pos h0 r5))
  have r7 : S cx 94 (R94_40 s_0 s_1 b0_0) = some res := eR94_40 (S_amb2 r4 r6)
  have r8 : S cx 94 (R94_60 s_0 s_1 b0_0) = some res := eR94_60 ((C114_S c1).trans x0)
  have r9 : S cx 94 (R94_64 s_0 s_1 b0_0) = some res := eR94_64 (S_amb2 r3 (ck_pos h0 r8))
  have r10 : S cx 94 (R94_41 s_0 s_1 b0_0) = some res := eR94_41 (S_amb2 r4 r9)
  have r11 : S cx 94 (R94_49 s_0 s_1 b0_0) = some res := eR94_49 ((C114_S c1).trans x0)
  have r12 : S cx 94 (R94_42 s_0 s_1 b0_0) = some res := eR94_42 (S_amb3 r6 r9 (ck_pos h0 r11))
  have r13 : S cx 94 (R94_18 s_0 s_1 b0_0) = some res := eR94_18 (S_amb3 r7 r10 r12)
  have r14 : S cx 94 (R94_68 s_0 s_1) = some res := eR94_68 ((C136_S c0).trans ((C114_S c1).trans x0))
  have r15 : S cx 94 (R94_65 s_0 s_1) = some res := eR94_65 (S_amb2 ((C136_S c0).trans r3) (ck_pos h0 r14))
  have r16 : S cx 94 (R94_43 s_0 s_1) = some res := eR94_43 (S_amb2 ((C136_S c0).trans r4) r15)
  have r17 : S cx 94 (R94_50 s_0 s_1) = some res := eR94_50 (S_amb2 ((C136_S c0).trans r5) r14)
  have r18 : S cx 94 (R94_44 s_0 s_1) = some res := eR94_44 (S_amb3 ((C136_S c0).trans r6) r15 (ck_pos h0 r17))
  have r19 : S cx 94 (R94_19 s_0 s_1) = some res := eR94_19 (S_amb3 ((C136_S c0).trans r7) r16 r18)
  have r20 : S cx 94 (R94_51 s_0 s_1) = some res := eR94_51 (S_amb2 ((C136_S c0).trans r8) r14)
  have r21 : S cx 94 (R94_45 s_0 s_1) = some res := eR94_45 (S_amb3 ((C136_S c0).trans r9) r15 (ck_pos h0 r20))
  have r22 : S cx 94 (R94_20 s_0 s_1) = some res := eR94_20 (S_amb3 ((C136_S c0).trans r10) r16 r21)
  have r23 : S cx 94 (R94_36 s_0 s_1) = some res := eR94_36 (S_amb3 ((C136_S c0).trans r11) r17 r20)
  have r24 : S cx 94 (R94_21 s_0 s_1) = some res := eR94_21 (S_amb4 ((C136_S c0).trans r12) r18 r21 (ck_pos h0 r23))
  have r25 : S cx 94 (R94_6 s_0 s_1) = some res := eR94_6 (S_amb4 ((C136_S c0).trans r13) r19 r22 r24)
  have r26 : S cx 94 (R94_66 s_0 s_1) = some res := eR94_66 ((C136_S c0).trans ((C114_S c1).trans x0))
  have r27 : S cx 94 (R94_46 s_0 s_1) = some res := eR94_46 (S_amb2 r15 (ck_pos h0 r26))
  have r28 : S cx 94 (R94_22 s_0 s_1) = some res := eR94_22 (S_amb2 r16 r27)
  have r29 : S cx 94 (R94_47 s_0 s_1) = some res := eR94_47 (S_amb2 ((C136_S c0).trans r5) r14)
  have r30 : S cx 94 (R94_23 s_0 s_1) = some res := eR94_23 (S_amb3 r18 r27 (ck_pos h0 r29))
  have r31 : S cx 94 (R94_7 s_0 s_1) = some res := eR94_7 (S_amb3 r19 r28 r30)
  have r32 : S cx 94 (R94_48 s_0 s_1) = some res := eR94_48 (S_amb2 ((C136_S c0).trans r8) r14)
  have r33 : S cx 94 (R94_24 s_0 s_1) = some res := eR94_24 (S_amb3 r21 r27 (ck_pos h0 r32))
  have r34 : S cx 94 (R94_8 s_0 s_1) = some res := eR94_8 (S_amb3 r22 r28 r33)
  have r35 : S cx 94 (R94_25 s_0 s_1) = some res := eR94_25 (S_amb3 ((C136_S c0).trans r11) r17 r20)
  have r36 : S cx 94 (R94_9 s_0 s_1) = some res := eR94_9 (S_amb4 r24 r30 r33 (ck_pos h0 r35))
  have r37 : S cx 94 (R94_1 s_0 s_1) = some res := eR94_1 (S_amb4 r25 r31 r34 r36)
  have r38 : S cx 94 (R94_73 s_0 s_1 b0_0 b1_0) = some res := eR94_73 x0
  have r39 : S cx 94 (R94_70 s_0 s_1 b0_0 b1_0) = some res := eR94_70 (S_amb2 r1 (ck_pos h0 r38))
  have r40 : S cx 94 (R94_78 s_0 s_1 b0_0 b1_0) = some res := eR94_78 (S_amb2 r1 (ck_pos h0 r38))
  have r41 : S cx 94 (R94_61 s_0 s_1 b0_0) = some res := eR94_61 (S_amb2 r2 ((C114_S c1).trans r38))
  have r42 : S cx 94 (R94_71 s_0 s_1 b0_0) = some res := eR94_71 (S_amb3 r3 ((C114_S c1).trans r40) (ck_pos h0 r41))
  have r43 : S cx 94 (R94_52 s_0 s_1 b0_0) = some res := eR94_52 (S_amb3 r4 ((C114_S c1).trans r39) r42)
  have r44 : S cx 94 (R94_57 s_0 s_1 b0_0) = some res := eR94_57 (S_amb2 r2 ((C114_S c1).trans r38))
  have r45 : S cx 94 (R94_53 s_0 s_1 b0_0) = some res := eR94_53 (S_amb3 r6 r42 (ck_pos h0 r44))
  have r46 : S cx 94 (R94_26 s_0 s_1 b0_0) = some res := eR94_26 (S_amb3 r7 r43 r45)
  have r47 : S cx 94 (R94_59 s_0 s_1 b0_0) = some res := eR94_59 (S_amb2 r8 r41)
  have r48 : S cx 94 (R94_54 s_0 s_1 b0_0) = some res := eR94_54 (S_amb3 r9 r42 (ck_pos h0 r47))
  have r49 : S cx 94 (R94_27 s_0 s_1 b0_0) = some res := eR94_27 (S_amb3 r10 r43 r48)
  have r50 : S cx 94 (R94_37 s_0 s_1 b0_0) = some res := eR94_37 (S_amb2 r8 r41)
  have r51 : S cx 94 (R94_28 s_0 s_1 b0_0) = some res := eR94_28 (S_amb4 r12 r45 r48 (ck_pos h0 r50))
  have r52 : S cx 94 (R94_10 s_0 s_1 b0_0) = some res := eR94_10 (S_amb4 r13 r46 r49 r51)
  have r53 : S cx 94 (R94_58 s_0 s_1) = some res := eR94_58 (S_amb2 r14 ((C136_S c0).trans r41))
  have r54 : S cx 94 (R94_55 s_0 s_1) = some res := eR94_55 (S_amb3 r15 ((C136_S c0).trans r42) (ck_pos h0 r53))
  have r55 : S cx 94 (R94_29 s_0 s_1) = some res := eR94_29 (S_amb3 r16 ((C136_S c0).trans r43) r54)
  have r56 : S cx 94 (R94_38 s_0 s_1) = some res := eR94_38 (S_amb3 r17 ((C136_S c0).trans r44) r53)
  have r57 : S cx 94 (R94_30 s_0 s_1) = some res := eR94_30 (S_amb4 r18 ((C136_S c0).trans r45) r54 (ck_pos h0 r56))
  have r58 : S cx 94 (R94_11 s_0 s_1) = some res := eR94_11 (S_amb4 r19 ((C136_S c0).trans r46) r55 r57)
  have r59 : S cx 94 (R94_39 s_0 s_1) = some res := eR94_39 (S_amb3 r20 ((C136_S c0).trans r47) r53)
  have r60 : S cx 94 (R94_31 s_0 s_1) = some res := eR94_31 (S_amb4 r21 ((C136_S c0).trans r48) r54 (ck_pos h0 r59))
  have r61 : S cx 94 (R94_12 s_0 s_1) = some res := eR94_12 (S_amb4 r22 ((C136_S c0).trans r49) r55 r60)
  have r62 : S cx 94 (R94_32 s_0 s_1) = some res := eR94_32 (S_amb4 r23 ((C136_S c0).trans r50) r56 r59)
  have r63 : S cx 94 (R94_13 s_0 s_1) = some res := eR94_13 (S_amb5 r24 ((C136_S c0).trans r51) r57 r60 (ck_pos h0 r62))
  have r64 : S cx 94 (R94_2 s_0 s_1) = some res := eR94_2 (S_amb5 r25 ((C136_S c0).trans r52) r58 r61 r63)
  have r65 : S cx 94 (R94_56 s_0 s_1) = some res := eR94_56 (S_amb2 r14 ((C136_S c0).trans r41))
  have r66 : S cx 94 (R94_33 s_0 s_1) = some res := eR94_33 (S_amb3 r27 r54 (ck_pos h0 r65))
  have r67 : S cx 94 (R94_14 s_0 s_1) = some res := eR94_14 (S_amb3 r28 r55 r66)
  have r68 : S cx 94 (R94_34 s_0 s_1) = some res := eR94_34 (S_amb3 r17 ((C136_S c0).trans r44) r53)
  have r69 : S cx 94 (R94_15 s_0 s_1) = some res := eR94_15 (S_amb4 r30 r57 r66 (ck_pos h0 r68))
  have r70 : S cx 94 (R94_3 s_0 s_1) = some res := eR94_3 (S_amb4 r31 r58 r67 r69)
  have r71 : S cx 94 (R94_35 s_0 s_1) = some res := eR94_35 (S_amb3 r20 ((C136_S c0).trans r47) r53)
  have r72 : S cx 94 (R94_16 s_0 s_1) = some res := eR94_16 (S_amb4 r33 r60 r66 (ck_pos h0 r71))
  have r73 : S cx 94 (R94_4 s_0 s_1) = some res := eR94_4 (S_amb4 r34 r61 r67 r72)
  have r74 : S cx 94 (R94_17 s_0 s_1) = some res := eR94_17 (S_amb4 r23 ((C136_S c0).trans r50) r56 r59)
  have r75 : S cx 94 (R94_5 s_0 s_1) = some res := eR94_5 (S_amb5 r36 r63 r69 r72 (ck_pos h0 r74))
  have r76 : S cx 94 (G94_0 s_0 s_1) = some res := eG94_0 (S_amb5 r37 r64 r70 r73 r75)
  exact r76
/-- What parts lead to, told as rows. -/
abbrev nT (s : Sa) : List TV := s.parts.map fun p => rI true p.next
theorem t136 {s : Sa} (h12 : s.parts.length ≤ 12) : tw cx 136 [eSa true false false s] = some ([sl false ⟨1, true⟩ (nT s)], []) := by
  have e1 := len_p (ps := s.parts) (q := false) (q' := false)
  obtain ⟨r, h1, rfl⟩ := st_loop (n := s.parts.length) (H := fun out j => S cx 136 (H136_0 out (s.parts.map (ePt false false)) j)) (fun j out => out.length = s.parts.length ∧ ∀ i (hi : i < s.parts.length), i < j → out[i]? = some (rI true s.parts[i].next)) (Q := fun r => r = ([sl false ⟨1, true⟩ (nT s)], []))
    (fun j out hj hI => by
      refine ⟨out.set (0 + ((j : Nat) : Int).toNat) (rI true s.parts[j].next), ⟨by rw [List.length_set]; exact hI.1, fun i hi hij => ?_⟩, fun r h => eH136_0 (bif_pos (dT (by rw [e1]; omega)) (ck_pos (dT2 (by rw [e1]; omega)) ?_))⟩
      · rw [zN, List.getElem?_set]
        by_cases c : j = i
        · subst c
          rw [if_pos rfl, if_pos (by rw [hI.1]; exact hj)]
        · rw [if_neg c]
          exact hI.2 i hi (by omega)
      · rw [pt_at hj, V6_S]
        refine ck_pos (dT2 (by rw [hI.1]; omega)) (back_of ?_)
        rw [inc64 hj (by omega)]
        exact h)
    (fun out hI => ⟨_, eH136_0 (bif_neg (dF (by rw [e1]; omega)) rfl), by
      have : out = nT s := by
        refine List.ext_getElem? fun i => ?_
        by_cases c : i < s.parts.length
        · rw [hI.2 i c c, List.getElem?_map, List.getElem?_eq_getElem c]
          rfl
        · rw [List.getElem?_eq_none (by rw [hI.1]; omega), List.getElem?_eq_none (by rw [List.length_map]; omega)]
      rw [this]⟩)
    (List.replicate s.parts.length (sl false ⟨1, false⟩ [])) ⟨by simp, fun i _ h => absurd h (Nat.not_lt_zero _)⟩
  refine e136 (ck_pos (by rw [e1]; exact mk24 h12) ?_)
  rw [e1, Int.toNat_natCast]
  exact h1
theorem nT_rows {s : Sa} (hs : nextsP s) : Rows (nT s) (nextN s) := ⟨by rw [List.length_map, nextN_len], fun j hj => by
  have hj' : j < s.parts.length := by rw [← nextN_len]; exact hj
  refine ⟨true, ?_⟩
  rw [List.getElem?_map, List.getElem?_eq_getElem hj', nextN_at s hj, nI_nextS hs hj']
  rfl⟩
/-- Dominators, told as rows. -/
abbrev bT (DB : List (List Bool)) : List TV := DB.map fun r => rT false r
theorem t169 (s : Sa) (hv : 12 ≤ s.values ∧ s.values ≤ 250) (st : St2) (hd : Df s st.1 st.2) (next : List TV) (DB : List (List Bool)) (hDl : DB.length = s.parts.length) (hDB : ∀ (b : Nat) (hb : b < DB.length), DB[b].length = s.parts.length ∧ ∀ k, DB[b][k]? = some true ↔ Dm (nextN s) b k) (v : Int) (k : Nat) (hk : k < s.parts.length) (at' : Int) :
    ∃ b : Bool, tw cx 169 [eV true s.parts s.values next (bT DB) st, i64 v, i64 (k : Int), i64 at'] = some ([tb b], []) ∧ (b = true ↔ thereP s.values (nextN s) st.1 st.2 k at' v) := by
  have hw : w64 (s.values - 1) = s.values - 1 := by rw [w64_id (by omega) (by omega)]
  have e1 : (st.1.map i64).length = s.values.toNat := by rw [len_i, hd.dl]
  have e2 : (st.2.map i64).length = s.values.toNat := by rw [len_i, hd.al]
  have start : ∀ r, S cx 169 (N169 (s.parts.map (ePt false false)) s.values next (bT DB) (st.1.map i64) (st.2.map i64) v k at') = some r → tw cx 169 [eV true s.parts s.values next (bT DB) st, i64 v, i64 (k : Int), i64 at'] = some r := fun r h => e169 h
  unfold N169 at start
  rw [hw, C57_S (t57 _ _ _)] at start
  by_cases c0 : 0 ≤ v ∧ v ≤ s.values - 1
  case neg => exact ⟨false, start _ (bif_pos (by rw [dF c0]; rfl) rfl), by simp only [Bool.false_eq_true, false_iff]; exact fun h => c0 ⟨h.1, by have := h.2.1; omega⟩⟩
  have g1 : st.1.getD v.toNat 0 = st.1[v.toNat]'(by rw [hd.dl]; omega) := by rw [List.getD_eq_getElem?_getD, List.getElem?_eq_getElem (by rw [hd.dl]; omega)]; rfl
  have g2 : st.2.getD v.toNat 0 = st.2[v.toNat]'(by rw [hd.al]; omega) := by rw [List.getD_eq_getElem?_getD, List.getElem?_eq_getElem (by rw [hd.al]; omega)]; rfl
  have r1 := i64_at (xs := st.1) (j := v.toNat) (by rw [hd.dl]; omega)
  have r2 := i64_at (xs := st.2) (j := v.toNat) (by rw [hd.al]; omega)
  rw [show ((v.toNat : Nat) : Int).toNat = v.toNat by omega, ← g1] at r1
  rw [show ((v.toNat : Nat) : Int).toNat = v.toNat by omega, ← g2] at r2
  by_cases c1 : v < 12
  · exact ⟨true, start _ (bif_neg (by rw [dT c0]; rfl) (bif_pos (dT c1) rfl)), by simp only [true_iff]; exact ⟨c0.1, by omega, .inl c1⟩⟩
  rw [r1, r2] at start
  by_cases c2 : st.1.getD v.toNat 0 = (k : Int)
  · refine ⟨decide (st.2.getD v.toNat 0 < at'), start _ (bif_neg (by rw [dT c0]; rfl) (bif_neg (dF c1) (ck_pos (dT2 (by omega)) ?_))), ?_⟩
    · rw [S_int]
      refine bif_pos (by rw [beq_iff_eq]; exact c2) (ck_pos (dT2 (by omega)) ?_)
      rw [S_int, S_ret]
    · rw [decide_eq_true_eq]
      exact ⟨fun h => ⟨c0.1, by omega, .inr (.inl ⟨c2, h⟩)⟩, fun h => h.2.2.elim (fun h => absurd h c1) fun h => h.elim (fun h => h.2) fun h => absurd c2 h.1⟩
  by_cases c3 : st.1.getD v.toNat 0 ≥ 0
  case neg =>
    refine ⟨false, start _ (bif_neg (by rw [dT c0]; rfl) (bif_neg (dF c1) (ck_pos (dT2 (by omega)) ?_))), by simp only [Bool.false_eq_true, false_iff]; exact fun h => h.2.2.elim c1 fun h => h.elim (fun h => c2 h.1) fun h => c3 h.2.1⟩
    rw [S_int]
    refine bif_neg (by rw [beq_eq_false_iff_ne]; exact c2) (ck_pos (dT2 (by omega)) ?_)
    rw [S_int]
    exact bif_neg (dF c3) rfl
  -- another part
  have hdk : ∃ d : Nat, d < s.parts.length ∧ st.1.getD v.toNat 0 = (d : Int) := by
    rcases hd.vs v.toNat (by omega) with h | ⟨d, hd1, h, _⟩
    · omega
    · exact ⟨d, hd1, h⟩
  obtain ⟨d, hdl, hde⟩ := hdk
  have hkD : k < DB.length := by omega
  obtain ⟨hr1, hr2⟩ := hDB k hkD
  have hb := b_at (bs := DB[k]) (j := d) (by omega)
  refine ⟨DB[k][d]'(by omega), start _ (bif_neg (by rw [dT c0]; rfl) (bif_neg (dF c1) (ck_pos (dT2 (by omega)) ?_))), ?_⟩
  · rw [S_int]
    refine bif_neg (by rw [beq_eq_false_iff_ne]; exact c2) (ck_pos (dT2 (by omega)) ?_)
    rw [S_int]
    refine bif_pos (dT c3) (ck_pos (dT2 (by rw [len_bb]; omega)) ?_)
    rw [bb_at hkD, S_slR]
    refine ck_pos (dT2 (by omega)) ?_
    rw [S_int, hde]
    refine ck_pos (dT2 (by rw [len_b]; omega)) ?_
    rw [hb, S_bool, S_ret]
  · have : DB[k][d]? = some true ↔ Dm (nextN s) k d := hr2 d
    rw [List.getElem?_eq_getElem (by omega), Option.some.injEq] at this
    rw [this]
    constructor
    · exact fun h => ⟨c0.1, by omega, .inr (.inr ⟨c2, c3, by rw [hde]; exact h⟩)⟩
    · intro h
      rcases h.2.2 with h | h | h
      · exact absurd h c1
      · exact absurd h.1 c2
      · have := h.2.2
        rw [hde] at this
        exact this
theorem t185 (n : Int) (h : 0 ≤ n ∧ n ≤ 1073741824) : tw cx 185 [.fl (.slice none 0 0), i64 n] = some ([rI false []], []) := by
  refine tw_given (g := g185) rfl ?_
  simp only [g185]
  rw [if_pos h]
  rfl
theorem flat_take {l : List (List Int)} (j : Nat) (h : j < l.length) : (l.take (j + 1)).flatten = (l.take j).flatten ++ l[j] := by
  rw [List.take_add_one, List.getElem?_eq_getElem h, Option.toList_some, List.flatten_append]; simp
theorem flat_le {l : List (List Int)} (j : Nat) : (l.take j).flatten.length ≤ l.flatten.length := by
  have e : l.flatten = (l.take j).flatten ++ (l.drop j).flatten := by rw [← List.flatten_append, List.take_append_drop]
  rw [e, List.length_append]; omega
theorem t170 (l : List (List Int)) (q : Bool) (h1 : l.length ≤ 1048576) (h2 : l.flatten.length ≤ 1073741824) : tw cx 170 [sl true ⟨1, true⟩ (l.map (rI q))] = some ([rI false l.flatten], []) := by
  have lim0 : lim = 140737488355328 := rfl
  have len_r : (l.map (rI q)).length = l.length := List.length_map _
  have key2 : ∀ d j : Nat, l.length - j = d → j ≤ l.length → S cx 170 (H170_1 ((l.take j).flatten.map i64) (l.map (rI q)) j) = some ([rI false l.flatten], []) := by
    intro d
    induction d with
    | zero =>
      intro j hd hj
      obtain rfl : j = l.length := by omega
      rw [List.take_length]
      exact eH170_1 (bif_neg (dF (by rw [len_r]; omega)) rfl)
    | succ d ih =>
      intro j hd hj
      have hjl : j < l.length := by omega
      have f1 := flat_le (l := l) (j + 1)
      have f2 := flat_take (l := l) j hjl
      refine eH170_1 (bif_pos (dT (by rw [len_r]; omega)) (ck_pos (dT2 (by rw [len_r]; omega)) ?_))
      rw [row_at hjl, S_slR]
      refine ck_pos (dT (by rw [List.length_map, List.length_map, ← List.length_append, ← f2]; omega)) (back_of ?_)
      rw [inc64 hjl (by omega), ← List.map_append, ← f2]
      exact ih (j + 1) (by omega) (by omega)
  have key1 : ∀ d j : Nat, l.length - j = d → j ≤ l.length → S cx 170 (H170_0 (l.map (rI q)) ((l.take j).flatten.length : Nat) j) = some ([rI false l.flatten], []) := by
    intro d
    induction d with
    | zero =>
      intro j hd hj
      obtain rfl : j = l.length := by omega
      rw [List.take_length]
      refine eH170_0 (bif_neg (dF (by rw [len_r]; omega)) ?_)
      rw [C185_S (t185 _ (by omega))]
      exact key2 _ 0 rfl (Nat.zero_le _)
    | succ d ih =>
      intro j hd hj
      have hjl : j < l.length := by omega
      have f1 := flat_le (l := l) (j + 1)
      have f2 := flat_take (l := l) j hjl
      refine eH170_0 (bif_pos (dT (by rw [len_r]; omega)) (ck_pos (dT2 (by rw [len_r]; omega)) ?_))
      have e1 : w64 (((l.take j).flatten.length : Nat) + ((l[j].map i64).length : Nat)) = (((l.take (j + 1)).flatten.length : Nat) : Int) := by
        have f3 : (l.take (j + 1)).flatten.length = (l.take j).flatten.length + l[j].length := by rw [f2, List.length_append]
        rw [List.length_map, f3, w64_id (by omega) (by omega)]; omega
      rw [row_at hjl, S_slR, e1]
      refine bif_neg (dF (by omega)) (back_of ?_)
      rw [inc64 hjl (by omega)]
      exact ih (j + 1) (by omega) (by omega)
  exact e170 (key1 _ 0 rfl (Nat.zero_le _))
theorem t140 (s : Sa) (hs : smallA s) (hv : 12 ≤ s.values ∧ s.values ≤ 250) (hG : ∀ p ∈ s.parts, partG s p) (st : St2) (hd : Df s st.1 st.2) (next : List TV) (DB : List (List Bool)) (hDl : DB.length = s.parts.length) (hDB : ∀ (b : Nat) (hb : b < DB.length), DB[b].length = s.parts.length ∧ ∀ k, DB[b][k]? = some true ↔ Dm (nextN s) b k) (k : Nat) (hk : k < s.parts.length) :
    ∃ b : Bool, tw cx 140 [eV true s.parts s.values next (bT DB) st, i64 (k : Int)] = some ([tb b], []) ∧ (b = true ↔ usesP s (nextN s) st.1 st.2 k s.parts[k]) := by
  have hm := List.getElem_mem hk
  have hg := hG _ hm
  obtain ⟨p1, p2, p3, p4, p5⟩ := hs.2 _ hm
  have hal := argM_len hg
  have hfl := flat_len p5
  have h169 := t169 s hv st hd next DB hDl hDB
  have ther : ∀ (v : Int) (at' : Int), ∃ b : Bool, tw cx 169 [eV true s.parts s.values next (bT DB) st, i64 v, i64 (k : Int), i64 at'] = some ([tb b], []) ∧ (b = true ↔ thereP s.values (nextN s) st.1 st.2 k at' v) := fun v at' => h169 v k hk at'
  have lp2 : ∀ d j, s.parts[k].args.flatten.length - j = d → j ≤ s.parts[k].args.flatten.length → ∃ b : Bool, S cx 140 (H140_2 (s.parts.map (ePt false false)) s.values next (bT DB) (st.1.map i64) (st.2.map i64) (k : Int) (s.parts[k].args.flatten.map i64) (j : Int)) = some ([tb b], []) ∧ (b = true ↔ ∀ v ∈ s.parts[k].args.flatten.drop j, thereP s.values (nextN s) st.1 st.2 k s.parts[k].code.length v) := by
    intro d
    induction d with
    | zero =>
      intro j hd2 hj
      obtain rfl : j = s.parts[k].args.flatten.length := by omega
      exact ⟨true, eH140_2 (bif_neg (dF (by rw [len_i]; omega)) rfl), by rw [List.drop_length]; simp⟩
    | succ d ih =>
      intro j hd2 hj
      have hjl : j < s.parts[k].args.flatten.length := by omega
      obtain ⟨b, h1, h2⟩ := ih (j + 1) (by omega) (by omega)
      obtain ⟨b1, q1, q2⟩ := ther s.parts[k].args.flatten[j] s.parts[k].code.length
      refine ⟨b1 && b, eH140_2 (bif_pos (dT (by rw [len_i]; omega)) (ck_pos (dT2 (by rw [len_i]; omega)) ?_)), ?_⟩
      · rw [i64_at hjl, S_int, pt_at hk, V6_S, len_f, C169_S q1]
        cases b1 with
        | false => exact bif_pos rfl rfl
        | true =>
          refine bif_neg rfl (back_of ?_)
          rw [inc64 (n := 10000000) (by omega) (by omega), Bool.true_and]
          exact h1
      · rw [Bool.and_eq_true, q2, h2, List.drop_eq_getElem_cons hjl, List.forall_mem_cons]
  obtain ⟨bz, z1, z2⟩ := lp2 _ 0 rfl (Nat.zero_le _)
  rw [List.drop_zero] at z2
  have h170 := t170 s.parts[k].args false (by omega) (by omega)
  have hend : ∃ b : Bool, S cx 140 (H140_0 (s.parts.map (ePt false false)) s.values next (bT DB) (st.1.map i64) (st.2.map i64) (k : Int) (s.parts[k].code.map eF) (s.parts[k].code.length : Int)) = some ([tb b], []) ∧ (b = true ↔ ∀ v ∈ endsV s.parts[k], thereP s.values (nextN s) st.1 st.2 k s.parts[k].code.length v) := by
    by_cases c : testP s.parts[k]
    · obtain ⟨b1, q1, q2⟩ := ther s.parts[k].test s.parts[k].code.length
      refine ⟨b1 && bz, eH140_0 (bif_neg (dF (by rw [len_f]; omega)) ?_), ?_⟩
      · simp only [pt_at hk]
        rw [V6_S, C125_S (t125 _)]
        refine bif_pos (dT c) ?_
        rw [V6_S, V6_S, len_f, C169_S q1]
        cases b1 with
        | false => exact bif_pos rfl rfl
        | true =>
          refine bif_neg rfl ?_
          rw [V6_S, C170_S h170, Bool.true_and]
          exact z1
      · rw [Bool.and_eq_true, q2, z2, endsV, if_pos c, List.forall_mem_append]
        simp
    · refine ⟨bz, eH140_0 (bif_neg (dF (by rw [len_f]; omega)) ?_), ?_⟩
      · simp only [pt_at hk]
        rw [V6_S, C125_S (t125 _)]
        refine bif_neg (dF c) ?_
        rw [V6_S, C170_S h170]
        exact z1
      · rw [z2, endsV, if_neg c, List.nil_append]
  have lp1 : ∀ (i : Nat) (hi : i < s.parts[k].code.length), ∀ d j, (usesV s.parts[k].code[i]).length - j = d → j ≤ (usesV s.parts[k].code[i]).length → ∀ b' : Bool, S cx 140 (H140_0 (s.parts.map (ePt false false)) s.values next (bT DB) (st.1.map i64) (st.2.map i64) (k : Int) (s.parts[k].code.map eF) ((i + 1 : Nat) : Int)) = some ([tb b'], []) →
      ∃ b : Bool, S cx 140 (H140_1 (s.parts.map (ePt false false)) s.values next (bT DB) (st.1.map i64) (st.2.map i64) (k : Int) (i : Int) (s.parts[k].code.map eF) (i : Int) ((usesV s.parts[k].code[i]).map i64) (j : Int)) = some ([tb b], []) ∧ (b = true ↔ (∀ v ∈ (usesV s.parts[k].code[i]).drop j, thereP s.values (nextN s) st.1 st.2 k i v) ∧ b' = true) := by
    intro i hi d
    have hu := usesV_len s.parts[k].code[i]
    induction d with
    | zero =>
      intro j hd2 hj b' hb'
      obtain rfl : j = (usesV s.parts[k].code[i]).length := by omega
      refine ⟨b', eH140_1 (bif_neg (dF (by rw [len_i]; omega)) (back_of ?_)), by simp⟩
      rw [inc64 hi (by omega)]
      exact hb'
    | succ d ih =>
      intro j hd2 hj b' hb'
      have hjl : j < (usesV s.parts[k].code[i]).length := by omega
      obtain ⟨b, h1, h2⟩ := ih (j + 1) (by omega) (by omega) b' hb'
      obtain ⟨b1, q1, q2⟩ := ther (usesV s.parts[k].code[i])[j] i
      refine ⟨b1 && b, eH140_1 (bif_pos (dT (by rw [len_i]; omega)) (ck_pos (dT2 (by rw [len_i]; omega)) ?_)), ?_⟩
      · rw [i64_at hjl, S_int, C169_S q1]
        cases b1 with
        | false => exact bif_pos rfl rfl
        | true =>
          refine bif_neg rfl (back_of ?_)
          rw [inc64 hjl (by omega), Bool.true_and]
          exact h1
      · rw [Bool.and_eq_true, q2, h2, List.drop_eq_getElem_cons hjl, List.forall_mem_cons, and_assoc]
  have lp0 : ∀ d j, s.parts[k].code.length - j = d → j ≤ s.parts[k].code.length → ∃ b : Bool, S cx 140 (H140_0 (s.parts.map (ePt false false)) s.values next (bT DB) (st.1.map i64) (st.2.map i64) (k : Int) (s.parts[k].code.map eF) (j : Int)) = some ([tb b], []) ∧ (b = true ↔ (∀ i, j ≤ i → ∀ (h : i < s.parts[k].code.length), ∀ v ∈ usesV s.parts[k].code[i], thereP s.values (nextN s) st.1 st.2 k i v) ∧ ∀ v ∈ endsV s.parts[k], thereP s.values (nextN s) st.1 st.2 k s.parts[k].code.length v) := by
    intro d
    induction d with
    | zero =>
      intro j hd2 hj
      obtain rfl : j = s.parts[k].code.length := by omega
      obtain ⟨b, h1, h2⟩ := hend
      exact ⟨b, h1, h2.trans ⟨fun h => ⟨fun i h3 h4 => by omega, h⟩, fun h => h.2⟩⟩
    | succ d ih =>
      intro j hd2 hj
      have hjl : j < s.parts[k].code.length := by omega
      have hf := hg.1.2 _ (List.getElem_mem hjl)
      obtain ⟨b', h1, h2⟩ := ih (j + 1) (by omega) (by omega)
      obtain ⟨b, q1, q2⟩ := lp1 j hjl _ 0 rfl (Nat.zero_le _) b' h1
      refine ⟨b, eH140_0 (bif_pos (dT (by rw [len_f]; omega)) (ck_pos (dT2 (by rw [len_f]; omega)) ?_)), ?_⟩
      · rw [cf_at hjl, V6_1_S, C168_S (t168 s.parts[k].code[j] (by obtain ⟨_, _, h⟩ := hf; omega))]
        exact q1
      · rw [q2, h2, List.drop_zero]
        constructor
        · rintro ⟨h3, h4, h5⟩
          refine ⟨fun i h6 h7 => ?_, h5⟩
          by_cases c : i = j
          · subst c; exact h3
          · exact h4 i (by omega) h7
        · rintro ⟨h3, h4⟩
          exact ⟨h3 j (Nat.le_refl _) hjl, fun i h6 h7 => h3 i (by omega) h7, h4⟩
  obtain ⟨b, h1, h2⟩ := lp0 _ 0 rfl (Nat.zero_le _)
  refine ⟨b, e140 (ck_pos (dT2 (by rw [len_p]; omega)) ?_), h2.trans ⟨fun h => ⟨fun i hi => h.1 i (Nat.zero_le _) hi, h.2⟩, fun h => ⟨fun i _ hi => h.1 i hi, h.2⟩⟩⟩
  rw [pt_at hk, V6_S]
  exact h1
theorem t94 (s : Sa) (hs : smallA s) : (goodS s → ∃ next DB st, tw cx 94 [eSa true false false s] = some ([eV false s.parts s.values next (bT DB) st], [])) ∧ (¬ goodS s → tw cx 94 [eSa true false false s] = some ([tnil], [])) := by
  have start : ∀ r, S cx 94 (N94 (s.parts.map (ePt false false)) s.values) = some r → tw cx 94 [eSa true false false s] = some r := fun r h => e94 h
  unfold N94 at start
  rw [len_p, C57_S (t57 _ _ _)] at start
  by_cases a1 : 1 ≤ (s.parts.length : Int) ∧ (s.parts.length : Int) ≤ 11
  case neg =>
    have ng : ¬ goodS s := fun h => a1 (by have := h.1; omega)
    exact ⟨fun h => absurd h ng, fun _ => start _ (bif_pos (by rw [dF a1]; rfl) rfl)⟩
  by_cases a2 : 12 ≤ s.values ∧ s.values ≤ 250
  case neg =>
    have ng : ¬ goodS s := fun h => a2 h.2.1
    refine ⟨fun h => absurd h ng, fun _ => start _ (bif_neg (by rw [dT a1]; rfl) ?_)⟩
    rw [C57_S (t57 _ _ _)]
    exact bif_pos (by rw [dF a2]; rfl) rfl
  have h0 : 0 < s.parts.length := by omega
  have e0 : s.parts.getD 0 default = s.parts[0] := by rw [List.getD_eq_getElem?_getD, List.getElem?_eq_getElem h0]; rfl
  have start2 : ∀ r, S cx 94 (G94_0 (s.parts.map (ePt false false)) s.values) = some r → tw cx 94 [eSa true false false s] = some r := fun r h => by
    refine start r (bif_neg (by rw [dT a1]; rfl) ?_)
    rw [C57_S (t57 _ _ _)]
    exact bif_neg (by rw [dT a2]; rfl) h
  have h136 := t136 (s := s) (by omega)
  have h114 := t114 (-1) s.values.toNat (by show _ ≤ 1073741824; omega)
  rw [show ((s.values.toNat : Nat) : Int) = s.values by omega] at h114
  have start3 : ∀ r, S cx 94 (H94_76 (s.parts.map (ePt false false)) s.values (s.parts.map (ePt false false)) s.values (nT s) [] ((init2 s.values).1.map i64) ((init2 s.values).2.map i64) 0) = some r → tw cx 94 [eSa true false false s] = some r := fun r h => by
    refine start2 r (all94 h136 h114 (by rw [show s.values = ((s.values.toNat : Nat) : Int) by omega]; exact mk_ok (by omega) (by omega)) (eG94_69 ?_))
    rw [NG94_69, show List.replicate s.values.toNat (i64 0) = (init2 s.values).2.map i64 by rw [List.map_replicate]]
    exact h
  -- the parts
  have lp : ∀ d k (st : St2), s.parts.length - k = d → k ≤ s.parts.length → st.1.length = s.values.toNat → st.2.length = s.values.toNat →
      (∀ st', allV s.values (s.parts.drop k) k st = some st' → (∀ i, k ≤ i → ∀ h : i < s.parts.length, partG s s.parts[i] ∧ (0 < i ∨ s.parts[i].params = [])) → ∀ r, S cx 94 (H94_76 (s.parts.map (ePt false false)) s.values (s.parts.map (ePt false false)) s.values (nT s) [] (st'.1.map i64) (st'.2.map i64) (s.parts.length : Int)) = some r → S cx 94 (H94_76 (s.parts.map (ePt false false)) s.values (s.parts.map (ePt false false)) s.values (nT s) [] (st.1.map i64) (st.2.map i64) (k : Int)) = some r) ∧
      (¬ ((∃ st', allV s.values (s.parts.drop k) k st = some st') ∧ ∀ i, k ≤ i → ∀ h : i < s.parts.length, partG s s.parts[i] ∧ (0 < i ∨ s.parts[i].params = [])) → S cx 94 (H94_76 (s.parts.map (ePt false false)) s.values (s.parts.map (ePt false false)) s.values (nT s) [] (st.1.map i64) (st.2.map i64) (k : Int)) = some ([tnil], [])) := by
    intro d
    induction d with
    | zero =>
      intro k st hd hk l1 l2
      obtain rfl : k = s.parts.length := by omega
      rw [List.drop_length]
      refine ⟨fun st' h _ r hr => ?_, fun h => absurd ⟨⟨st, rfl⟩, fun i h1 h2 => by omega⟩ h⟩
      obtain rfl := Option.some.inj h
      exact hr
    | succ d ih =>
      intro k st hd hk l1 l2
      have hkl : k < s.parts.length := by omega
      obtain ⟨b, s1, q1, q2, q3⟩ := t137 (ps := s.parts) (m := s.values) (next := nT s) (dom := []) a2 hs k hkl st l1 l2
      have go : ∀ r, S cx 94 (.bif (!b) (Z94_0) (B94_76 (s.parts.map (ePt false false)) s.values (s.parts.map (ePt false false)) s.values (nT s) [] (s1.1.map i64) (s1.2.map i64) (w64 ((k : Int) + 1)))) = some r → S cx 94 (H94_76 (s.parts.map (ePt false false)) s.values (s.parts.map (ePt false false)) s.values (nT s) [] (st.1.map i64) (st.2.map i64) (k : Int)) = some r := fun r h => by
        refine eH94_76 (bif_pos (dT (by rw [len_p]; omega)) ?_)
        rw [C137_S q1]
        exact h
      rw [show s.parts.drop k = s.parts[k] :: s.parts.drop (k + 1) from List.drop_eq_getElem_cons hkl, allV]
      cases b with
      | false =>
        have hn := q3 rfl
        refine ⟨fun st' h hg => ?_, fun _ => go _ (bif_pos rfl rfl)⟩
        exfalso
        obtain ⟨g1, g2⟩ := hg k (Nat.le_refl _) hkl
        cases hv : defsV s.values k (evP s.parts[k]) st with
        | none => rw [hv] at h; cases h
        | some s2 => exact hn ⟨g1, ⟨s2, hv⟩, g2⟩
      | true =>
        obtain ⟨g1, g2, g3⟩ := q2 rfl
        obtain ⟨k1, k2, _⟩ := defsV_ok (by omega) _ _ _ g2 l1 l2
        obtain ⟨i1, i2⟩ := ih (k + 1) s1 (by omega) (by omega) k1 k2
        have go2 : ∀ r, S cx 94 (H94_76 (s.parts.map (ePt false false)) s.values (s.parts.map (ePt false false)) s.values (nT s) [] (s1.1.map i64) (s1.2.map i64) ((k + 1 : Nat) : Int)) = some r → S cx 94 (H94_76 (s.parts.map (ePt false false)) s.values (s.parts.map (ePt false false)) s.values (nT s) [] (st.1.map i64) (st.2.map i64) (k : Int)) = some r := fun r h => go r (bif_neg rfl (back_of (by rw [inc64 hkl (by omega)]; exact h)))
        rw [g2]
        refine ⟨fun st' h hg r hr => go2 r (i1 st' h (fun i h1 h2 => hg i (by omega) h2) r hr), fun h => go2 _ (i2 fun ⟨h1, h2⟩ => h ⟨h1, fun i h3 h4 => ?_⟩)⟩
        by_cases c : i = k
        · subst c; exact ⟨g1, g3⟩
        · exact h2 i (by omega) h4
  obtain ⟨i1, i2⟩ := lp _ 0 (init2 s.values) rfl (Nat.zero_le _) (by simp) (by simp)
  rw [List.drop_zero] at i1 i2
  by_cases ca : (∃ st', allV s.values s.parts 0 (init2 s.values) = some st') ∧ ∀ i, 0 ≤ i → ∀ h : i < s.parts.length, partG s s.parts[i] ∧ (0 < i ∨ s.parts[i].params = [])
  case neg =>
    have ng : ¬ goodS s := fun h => ca ⟨h.2.2.2.2.2.imp fun st h => h.1, fun i _ hi => ⟨h.2.2.1 _ (List.getElem_mem hi), by
      by_cases c : 0 < i
      · exact .inl c
      · obtain rfl : i = 0 := by omega
        exact .inr (by rw [← e0]; exact h.2.2.2.1)⟩⟩
    exact ⟨fun h => absurd h ng, fun _ => start3 _ (i2 ca)⟩
  obtain ⟨⟨st, hst⟩, hg⟩ := ca
  have hG : ∀ p ∈ s.parts, partG s p := fun p hp => by
    obtain ⟨i, hi, rfl⟩ := List.mem_iff_getElem.1 hp
    exact (hg i (Nat.zero_le _) hi).1
  have hp0 : s.parts[0].params = [] := (hg 0 (Nat.le_refl _) h0).2.resolve_left (Nat.lt_irrefl _)
  have hnx : nextsP s := ⟨by omega, fun p hp => ⟨(hG p hp).2.1, next_len (hG p hp)⟩⟩
  have hgr := gr_s hnx
  have hrows := nT_rows hnx
  obtain ⟨DB, d1, d2, d3⟩ := t138 hgr h0 hrows
  obtain ⟨bs, b1, b2, b3⟩ := t69 hgr hrows [] (by simp) 0 h0
  have b1 : tw cx 69 [sl true ⟨1, true⟩ (nT s), i64 0, sl true ⟨1, false⟩ []] = some ([rT false bs], []) := b1
  have hd := df_of hst
  have start4 : ∀ r, S cx 94 (.bif (decide (false ∈ bs)) (Z94_0) (H94_79 (s.parts.map (ePt false false)) s.values (nT s) (bT DB) (st.1.map i64) (st.2.map i64) (((s.parts.map (ePt false false)).length : Nat) : Int) 0)) = some r → tw cx 94 [eSa true false false s] = some r := fun r h => by
    refine start3 r (i1 st hst hg r (eH94_76 (bif_neg (dF (by rw [len_p]; omega)) ?_)))
    rw [C138_S d1]
    refine ck_pos (deep_bb _) ?_
    rw [C69_S b1, C139_S (t139 bs false (by show _ ≤ 1073741824; omega))]
    exact h
  have hreach : false ∉ bs ↔ ∀ k, k < s.parts.length → Star (Ed (nextN s) []) 0 k := by
    constructor
    · intro h k hk
      have hkb : k < bs.length := by omega
      have : bs[k] = true := by
        cases hv : bs[k] with
        | true => rfl
        | false => exact absurd (hv ▸ List.getElem_mem hkb) h
      exact ((b3 k).1 (by rw [List.getElem?_eq_getElem hkb, this])).2
    · intro h hf
      obtain ⟨k, hk, he⟩ := List.mem_iff_getElem.1 hf
      have := (b3 k).2 ⟨by simp, h k (by omega)⟩
      rw [List.getElem?_eq_getElem hk, he] at this
      cases this
  by_cases cr : false ∈ bs
  · have ng : ¬ goodS s := fun h => (hreach.2 h.2.2.2.2.1) cr
    exact ⟨fun h => absurd h ng, fun _ => start4 _ (bif_pos (dT cr) rfl)⟩
  have lu : ∀ d k, s.parts.length - k = d → k ≤ s.parts.length →
      ((∀ i, k ≤ i → ∀ h : i < s.parts.length, usesP s (nextN s) st.1 st.2 i s.parts[i]) → S cx 94 (H94_79 (s.parts.map (ePt false false)) s.values (nT s) (bT DB) (st.1.map i64) (st.2.map i64) (s.parts.length : Int) (k : Int)) = some ([eV false s.parts s.values (nT s) (bT DB) st], [])) ∧
      ((¬ ∀ i, k ≤ i → ∀ h : i < s.parts.length, usesP s (nextN s) st.1 st.2 i s.parts[i]) → S cx 94 (H94_79 (s.parts.map (ePt false false)) s.values (nT s) (bT DB) (st.1.map i64) (st.2.map i64) (s.parts.length : Int) (k : Int)) = some ([tnil], [])) := by
    intro d
    induction d with
    | zero =>
      intro k hdk hk
      obtain rfl : k = s.parts.length := by omega
      exact ⟨fun _ => eH94_79 (bif_neg (dF (by omega)) rfl), fun h => absurd (fun i h1 h2 => by omega) h⟩
    | succ d ih =>
      intro k hdk hk
      have hkl : k < s.parts.length := by omega
      obtain ⟨j1, j2⟩ := ih (k + 1) (by omega) (by omega)
      obtain ⟨b, q1, q2⟩ := t140 s hs a2 hG st hd (nT s) DB d2 d3 k hkl
      have go : ∀ r, S cx 94 (.bif (!b) (Z94_0) (B94_79 (s.parts.map (ePt false false)) s.values (nT s) (bT DB) (st.1.map i64) (st.2.map i64) (s.parts.length : Int) (w64 ((k : Int) + 1)))) = some r → S cx 94 (H94_79 (s.parts.map (ePt false false)) s.values (nT s) (bT DB) (st.1.map i64) (st.2.map i64) (s.parts.length : Int) (k : Int)) = some r := fun r h => by
        refine eH94_79 (bif_pos (dT (by omega)) ?_)
        rw [C140_S q1]
        exact h
      cases b with
      | false =>
        have hn : ¬ usesP s (nextN s) st.1 st.2 k s.parts[k] := fun h => by have := q2.2 h; cases this
        exact ⟨fun h => absurd (h k (Nat.le_refl _) hkl) hn, fun _ => go _ (bif_pos rfl rfl)⟩
      | true =>
        have hy := q2.1 rfl
        have go2 : ∀ r, S cx 94 (H94_79 (s.parts.map (ePt false false)) s.values (nT s) (bT DB) (st.1.map i64) (st.2.map i64) (s.parts.length : Int) ((k + 1 : Nat) : Int)) = some r → S cx 94 (H94_79 (s.parts.map (ePt false false)) s.values (nT s) (bT DB) (st.1.map i64) (st.2.map i64) (s.parts.length : Int) (k : Int)) = some r := fun r h => go r (bif_neg rfl (back_of (by rw [inc64 hkl (by omega)]; exact h)))
        refine ⟨fun h => go2 _ (j1 fun i h1 h2 => h i (by omega) h2), fun h => go2 _ (j2 fun h' => h fun i h1 h2 => ?_)⟩
        by_cases c : i = k
        · subst c; exact hy
        · exact h' i (by omega) h2
  obtain ⟨u1, u2⟩ := lu _ 0 rfl (Nat.zero_le _)
  have gd : goodS s ↔ ∀ i, 0 ≤ i → ∀ h : i < s.parts.length, usesP s (nextN s) st.1 st.2 i s.parts[i] := by
    constructor
    · intro h i _ hi
      obtain ⟨st', h1, h2⟩ := h.2.2.2.2.2
      obtain rfl := Option.some.inj (hst.symm.trans h1)
      exact h2 i hi
    · intro h
      exact ⟨by omega, a2, hG, by rw [e0]; exact hp0, hreach.1 cr, st, hst, fun k hk => h k (Nat.zero_le _) hk⟩
  refine ⟨fun h => ⟨nT s, DB, st, start4 _ (bif_neg (dF cr) ?_)⟩, fun h => start4 _ (bif_neg (dF cr) ?_)⟩
  · rw [len_p]; exact u1 (gd.1 h)
  · rw [len_p]; exact u2 fun h' => h (gd.2 h')
end Go.Tree.Q
