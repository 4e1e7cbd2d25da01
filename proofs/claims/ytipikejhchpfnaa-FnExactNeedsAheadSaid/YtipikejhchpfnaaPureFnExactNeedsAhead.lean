import Derived.Test.YtipikejhchpfnaaFlS
import Derived.Test.YtipikejhchpfnaaFlM
namespace Go.Proofs.Ytipikejhchpfnaa.Pure
set_option linter.unusedVariables false
set_option linter.unusedSimpArgs false
open Go.RowKit Go.Proofs.Ytipikejhchpfnaa.NA Go.Proofs.YtipikejhchpfnaaW.PrintWords Go.Proofs.YtipikejhchpfnaaW.PrintLast Go.Proofs.Ytipikejhchpfnaa.Fl

def useV (s b : List Bool) (v : Int) : List Bool := if s[v.toNat]? = some true then b else b.set v.toNat true
def setV (s : List Bool) (x : S77) : List Bool := if setsV x = true then s.set x.f2.toNat true else s
def needV (keep : List Int) : List S77 → List Bool → List Bool → List Bool
  | [], s, b => keep.foldl (useV s) b
  | x :: xs, s, b => needV keep xs (setV s x) ((usesV x).foldl (useV s) b)
theorem useV_len (s b : List Bool) (v : Int) : (useV s b v).length = b.length := by
  simp only [useV]; split <;> simp
theorem fold_len (s : List Bool) : ∀ (us : List Int) (b : List Bool), (us.foldl (useV s) b).length = b.length
  | [], _ => rfl
  | v :: us, b => by rw [List.foldl_cons, fold_len s us, useV_len]
theorem setV_len (s : List Bool) (x : S77) : (setV s x).length = s.length := by
  simp only [setV]; split <;> simp
theorem low_names {x : S77} (h : lowV x = true) : (∀ v ∈ usesV x, 0 ≤ v ∧ v < 8) ∧ (setsV x = true → 0 ≤ x.f2 ∧ x.f2 < 8) := by
  obtain ⟨a, b, c, d, e, f⟩ := x
  have w8 : wrap64 (8 - 1) = 7 := by rw [wrap_id (by omega) (by omega)]; rfl
  simp only [lowV, flatV, fldV, nameOK, w8] at h
  simp only [usesV, setsV]
  by_cases h1 : a = 1
  · subst h1; simp at h ⊢; omega
  · by_cases h2 : a = 2
    · subst h2; simp at h ⊢; omega
    · by_cases h4 : a = 4
      · subst h4; simp at h ⊢; omega
      · by_cases h3 : a = 3
        · subst h3; simp at h ⊢; omega
        · by_cases h5 : a = 5
          · subst h5; simp at h ⊢; omega
          · by_cases h6 : a = 6
            · subst h6; simp at h ⊢; omega
            · simp [h1, h2, h3, h4, h5, h6] at h
theorem keep_names : ∀ {l : List Int} {p : Int}, keepFrom l p = true → ∀ v ∈ l, 0 ≤ v ∧ v < 8
  | [], _, _, _, h => by simp at h
  | x :: xs, p, h, v, hv => by
    simp only [keepFrom, Bool.and_eq_true, decide_eq_true_eq] at h
    rcases List.mem_cons.mp hv with rfl | hv
    · omega
    · exact keep_names h.2.2 v hv
/-- One name's use, in the spec's words. -/
theorem suse1 {α : Type} {s b : List Bool} (hs : s.length = 8) (hb : b.length = 8) {v : Int} (h0 : 0 ≤ v) (h8 : v < 8) {F : Nat → List Int → Option α} {r : α} (h : Ev (fun k => F k (listFrom 0 (useV s b v))) r) :
    Ev (fun k => (spec_l1Has.f k (listFrom 0 s) v).bind fun t => if t = true then F k (listFrom 0 b) else (spec_l1Put.f k (listFrom 0 b) v).bind fun t2 => F k t2) r := by
  obtain ⟨n, rfl⟩ : ∃ n : Nat, v = n := ⟨v.toNat, by omega⟩
  have hl := listFrom_len s 0
  have hl2 := listFrom_len b 0
  refine Ev.bind (has_ev _ _ (by omega)) ?_
  have hm := mem_list s 0 n
  rw [Nat.zero_add] at hm
  simp only [useV, Int.toNat_natCast] at h
  by_cases c : s[n]? = some true
  · rw [if_pos c] at h
    exact ev_pos (by simpa using hm.mpr c) h
  · rw [if_neg c] at h
    refine ev_neg (by simpa using fun q => c (hm.mp q)) (Ev.bind (put_ev _ _ (by omega)) ?_)
    have hp := put_list b 0 n (by omega)
    rw [Nat.zero_add] at hp
    rw [hp]
    exact h
/-- One name's use, in the program's words. -/
theorem iuse1 {α : Type} {s b : List Bool} (hs : s.length = 8) (hb : b.length = 8) {v : Int} (h0 : 0 ≤ v) (h8 : v < 8) {F : Nat → List Bool → Option α} {r : α} (h : Ev (fun k => F k (useV s b v)) r) :
    Ev (fun k => if 0 ≤ v then (if v < (b.length : Int) then (if rdOf false b v = true then F k (b.set v.toNat true) else (if v < (s.length : Int) then F k (b.set v.toNat (!(rdOf false s v))) else none)) else none) else none) r := by
  obtain ⟨n, rfl⟩ : ∃ n : Nat, v = n := ⟨v.toNat, by omega⟩
  refine ev_pos (by omega) (ev_pos (by omega) ?_)
  obtain ⟨x, hx, _, _⟩ := drop_step (show n < s.length by omega)
  obtain ⟨y, hy, _, _⟩ := drop_step (show n < b.length by omega)
  simp only [rdB hx, rdB hy, useV, Int.toNat_natCast, hx] at h ⊢
  have hself : b.set n y = b := by
    apply List.ext_getElem?
    intro j
    rw [List.getElem?_set]
    split
    · rename_i e; subst e; split
      · rw [hy]
      · rename_i q; omega
    · rfl
  cases y with
  | true =>
    refine ev_pos rfl ?_
    cases x with
    | true => simp only [if_true] at h; rw [hself]; exact h
    | false => simpa using h
  | false =>
    refine ev_neg (by simp) (ev_pos (by omega) ?_)
    cases x with
    | true => simp only [if_true] at h; simp only [Bool.not_true]; rw [hself]; exact h
    | false => simpa using h
theorem s_l2 (s : List Bool) (hs : s.length = 8) (keep : List Int) (hk : keep.length ≤ 9223372036854775807) (hn : ∀ v ∈ keep, 0 ≤ v ∧ v < 8) (d : Nat) : ∀ (i : Nat) (b : List Bool), b.length = 8 → keep.length - i = d → i ≤ keep.length →
    Ev (fun k => spec_NeedsAhead.l2 k (listFrom 0 s) (listFrom 0 b) keep (keep.length : Int) i) (listFrom 0 ((keep.drop i).foldl (useV s) b), true) := by
  induction d with
  | zero =>
    intro i b hb hd hi
    refine ev_succ (ev_neg (by omega) ?_)
    rw [show i = keep.length by omega, List.drop_length]
    exact Ev.now _
  | succ d ih =>
    intro i b hb hd hi
    obtain ⟨x, hx, hdrop, hm⟩ := drop_step (show i < keep.length by omega)
    refine ev_succ (ev_pos (by omega) (ev_pos (by omega) (ev_pos (by omega) ?_)))
    simp only [rdI hx]
    rw [hdrop, List.foldl_cons, inc (by omega) (by omega)]
    exact suse1 hs hb (hn x hm).1 (hn x hm).2 (F := fun k t => spec_NeedsAhead.l2 k (listFrom 0 s) t keep (keep.length : Int) ((i : Int) + 1)) (ih (i + 1) _ (by rw [useV_len]; exact hb) (by omega) (by omega))
theorem i_l2 (s : List Bool) (hs : s.length = 8) (keep : List Int) (hk : keep.length ≤ 9223372036854775807) (hn : ∀ v ∈ keep, 0 ≤ v ∧ v < 8) (d : Nat) : ∀ (i : Nat) (b : List Bool), b.length = 8 → keep.length - i = d → i ≤ keep.length →
    Ev (fun k => impl_NeedsAhead.l2 k b s keep (keep.length : Int) i) (listFrom 0 ((keep.drop i).foldl (useV s) b), true) := by
  induction d with
  | zero =>
    intro i b hb hd hi
    refine ev_succ (ev_neg (by omega) ?_)
    rw [show i = keep.length by omega, List.drop_length]
    exact Ev.bind (listOf_ev _ (by omega)) (Ev.now _)
  | succ d ih =>
    intro i b hb hd hi
    obtain ⟨x, hx, hdrop, hm⟩ := drop_step (show i < keep.length by omega)
    refine ev_succ (ev_pos (by omega) (ev_pos (by omega) (ev_pos (by omega) ?_)))
    simp only [rdI hx]
    rw [hdrop, List.foldl_cons, inc (by omega) (by omega)]
    exact iuse1 hs hb (hn x hm).1 (hn x hm).2 (F := fun k t => impl_NeedsAhead.l2 k t s keep (keep.length : Int) ((i : Int) + 1)) (ih (i + 1) _ (by rw [useV_len]; exact hb) (by omega) (by omega))
theorem s_l1 (s : List Bool) (hs : s.length = 8) (keep : List Int) (t : List S77) (n p : Int) (us : List Int) (hu : us.length ≤ 2) (hn : ∀ v ∈ us, 0 ≤ v ∧ v < 8) (x : S77) (hx2 : setsV x = true → 0 ≤ x.f2 ∧ x.f2 < 8) (r : List Int × Bool) (d : Nat) : ∀ (i : Nat) (b : List Bool), b.length = 8 → us.length - i = d → i ≤ us.length →
    Ev (fun k => spec_NeedsAhead.l0 k keep (listFrom 0 (setV s x)) (listFrom 0 ((us.drop i).foldl (useV s) b)) t n (wrap64 (p + 1))) r →
    Ev (fun k => spec_NeedsAhead.l1 k keep (listFrom 0 s) (listFrom 0 b) t n p us (us.length : Int) i x.f0 x.f1 x.f2 x.f3 x.f4 x.f5) r := by
  induction d with
  | zero =>
    intro i b hb hd hi h
    refine ev_succ (ev_neg (by omega) ?_)
    rw [show i = us.length by omega, List.drop_length, List.foldl_nil] at h
    refine ev_bindc (ssets_ x) ?_
    simp only [setV] at h
    by_cases c : setsV x = true
    · rw [if_pos c] at h
      refine ev_pos c ?_
      have hl := listFrom_len s 0
      refine Ev.bind (put_ev _ _ (by omega)) ?_
      obtain ⟨m, hm⟩ : ∃ m : Nat, x.f2 = m := ⟨x.f2.toNat, by have := hx2 c; omega⟩
      have h8 := (hx2 c).2
      rw [hm] at h h8 ⊢
      have hp := put_list s 0 m (by omega)
      rw [Nat.zero_add] at hp
      rw [hp]
      simpa using h
    · rw [if_neg c] at h
      exact ev_neg c h
  | succ d ih =>
    intro i b hb hd hi h
    obtain ⟨y, hy, hdrop, hm⟩ := drop_step (show i < us.length by omega)
    refine ev_succ (ev_pos (by omega) (ev_pos (by omega) (ev_pos (by omega) ?_)))
    simp only [rdI hy]
    rw [hdrop, List.foldl_cons] at h
    rw [inc (by omega) (by omega)]
    exact suse1 hs hb (hn y hm).1 (hn y hm).2 (F := fun k q => spec_NeedsAhead.l1 k keep (listFrom 0 s) q t n p us (us.length : Int) ((i : Int) + 1) x.f0 x.f1 x.f2 x.f3 x.f4 x.f5) (ih (i + 1) _ (by rw [useV_len]; exact hb) (by omega) (by omega) h)
theorem i_l1 (s : List Bool) (hs : s.length = 8) (keep : List Int) (t : List S77) (n p : Int) (us : List Int) (hu : us.length ≤ 2) (hn : ∀ v ∈ us, 0 ≤ v ∧ v < 8) (x : S77) (hx2 : setsV x = true → 0 ≤ x.f2 ∧ x.f2 < 8) (r : List Int × Bool) (d : Nat) : ∀ (i : Nat) (b : List Bool), b.length = 8 → us.length - i = d → i ≤ us.length →
    Ev (fun k => impl_NeedsAhead.l0 k keep ((us.drop i).foldl (useV s) b) (setV s x) t n (wrap64 (p + 1))) r →
    Ev (fun k => impl_NeedsAhead.l1 k keep b s t n p us (us.length : Int) i x.f0 x.f1 x.f2 x.f3 x.f4 x.f5) r := by
  induction d with
  | zero =>
    intro i b hb hd hi h
    refine ev_succ (ev_neg (by omega) ?_)
    rw [show i = us.length by omega, List.drop_length, List.foldl_nil] at h
    refine Ev.bind (hasDst_ev x) ?_
    simp only [setV] at h
    by_cases c : setsV x = true
    · rw [if_pos c] at h
      have := hx2 c
      exact ev_pos c (ev_pos (by omega) (ev_pos (by omega) h))
    · rw [if_neg c] at h
      exact ev_neg c h
  | succ d ih =>
    intro i b hb hd hi h
    obtain ⟨y, hy, hdrop, hm⟩ := drop_step (show i < us.length by omega)
    refine ev_succ (ev_pos (by omega) (ev_pos (by omega) (ev_pos (by omega) ?_)))
    simp only [rdI hy]
    rw [hdrop, List.foldl_cons] at h
    rw [inc (by omega) (by omega)]
    exact iuse1 hs hb (hn y hm).1 (hn y hm).2 (F := fun k q => impl_NeedsAhead.l1 k keep q s t n p us (us.length : Int) ((i : Int) + 1) x.f0 x.f1 x.f2 x.f3 x.f4 x.f5) (ih (i + 1) _ (by rw [useV_len]; exact hb) (by omega) (by omega) h)
theorem s_l0 (keep : List Int) (hk : keep.length ≤ 9223372036854775807) (hn : ∀ v ∈ keep, 0 ≤ v ∧ v < 8) (t : List S77) (ht : t.length ≤ 1000) (hg : ∀ x ∈ t, lowV x = true) (d : Nat) : ∀ (i : Nat) (s b : List Bool), s.length = 8 → b.length = 8 → t.length - i = d → i ≤ t.length →
    Ev (fun k => spec_NeedsAhead.l0 k keep (listFrom 0 s) (listFrom 0 b) t (t.length : Int) i) (listFrom 0 (needV keep (t.drop i) s b), true) := by
  induction d with
  | zero =>
    intro i s b hs hb hd hi
    refine ev_succ (ev_neg (by omega) ?_)
    rw [show i = t.length by omega, List.drop_length]
    have := s_l2 s hs keep hk hn keep.length 0 b hb (by omega) (by omega)
    rw [List.drop_zero] at this
    exact this
  | succ d ih =>
    intro i s b hs hb hd hi
    obtain ⟨x, hx, hdrop, hm⟩ := drop_step (show i < t.length by omega)
    refine ev_succ (ev_pos (by omega) (ev_pos (by omega) (ev_pos (by omega) ?_)))
    simp only [rdT hx]
    refine ev_bindc (suses_ x) ?_
    have g := low_names (hg x hm)
    refine s_l1 s hs keep t _ i (usesV x) (uses_len x) g.1 x g.2 _ (usesV x).length 0 b hb (by omega) (by omega) ?_
    rw [List.drop_zero, inc (by omega) (by omega), hdrop, needV]
    exact ih (i + 1) _ _ (by rw [setV_len]; exact hs) (by rw [fold_len]; exact hb) (by omega) (by omega)
theorem i_l0 (keep : List Int) (hk : keep.length ≤ 9223372036854775807) (hn : ∀ v ∈ keep, 0 ≤ v ∧ v < 8) (t : List S77) (ht : t.length ≤ 1000) (hg : ∀ x ∈ t, lowV x = true) (d : Nat) : ∀ (i : Nat) (s b : List Bool), s.length = 8 → b.length = 8 → t.length - i = d → i ≤ t.length →
    Ev (fun k => impl_NeedsAhead.l0 k keep b s t (t.length : Int) i) (listFrom 0 (needV keep (t.drop i) s b), true) := by
  induction d with
  | zero =>
    intro i s b hs hb hd hi
    refine ev_succ (ev_neg (by omega) ?_)
    rw [show i = t.length by omega, List.drop_length]
    have := i_l2 s hs keep hk hn keep.length 0 b hb (by omega) (by omega)
    rw [List.drop_zero] at this
    exact this
  | succ d ih =>
    intro i s b hs hb hd hi
    obtain ⟨x, hx, hdrop, hm⟩ := drop_step (show i < t.length by omega)
    refine ev_succ (ev_pos (by omega) (ev_pos (by omega) (ev_pos (by omega) ?_)))
    simp only [rdT hx]
    refine Ev.bind (uses_ev x (goodOp_of_low (hg x hm))) ?_
    have g := low_names (hg x hm)
    refine i_l1 s hs keep t _ i (usesV x) (uses_len x) g.1 x g.2 _ (usesV x).length 0 b hb (by omega) (by omega) ?_
    rw [List.drop_zero, inc (by omega) (by omega), hdrop, needV]
    exact ih (i + 1) _ _ (by rw [setV_len]; exact hs) (by rw [fold_len]; exact hb) (by omega) (by omega)
def naV (l : List S77) (keep : List Int) : List Int × Bool :=
  if stackV l keep = true then (listFrom 0 (needV keep l (List.replicate 8 false) (List.replicate 8 false)), true) else ([], false)
theorem stack_facts {l : List S77} {keep : List Int} (h : stackV l keep = true) : l.length ≤ 60 ∧ (∀ x ∈ l, lowV x = true) ∧ ∀ v ∈ keep, 0 ≤ v ∧ v < 8 := by
  simp only [stackV, codeV, keepV, Bool.and_eq_true, List.all_eq_true, decide_eq_true_eq] at h
  exact ⟨by omega, h.1.1, keep_names h.2⟩
theorem sna_ev (l : List S77) (keep : List Int) (hl : l.length ≤ 9223372036854775807) (hk : keep.length ≤ 9223372036854775807) : Ev (fun k => spec_NeedsAhead.f k l keep) (naV l keep) := by
  have hj : ∀ b : Bool, (stackV l keep = !b) → Ev (fun k => spec_NeedsAhead.j0 k l keep b) (naV l keep) := fun b hb => by
    refine ev_succ ?_
    simp only [naV, hb, spec_NeedsAhead.j0]
    cases b with
    | true => exact ev_pos rfl (ev_const' fun _ => rfl)
    | false =>
      have f := stack_facts hb
      refine ev_neg (by simp) ?_
      have := s_l0 keep hk f.2.2 l (by omega) f.2.1 l.length 0 (List.replicate 8 false) (List.replicate 8 false) rfl rfl (by omega) (by omega)
      rw [List.drop_zero] at this
      exact this
  refine Ev.bind (low_ev l hl) ?_
  by_cases c : codeV l = true
  · refine ev_pos c (Ev.bind (keep_ev keep hk) ?_)
    exact hj _ (by simp [stackV, c])
  · exact ev_neg c (hj true (by simp [stackV, c]))
theorem ina_ev (l : List S77) (keep : List Int) (hl : l.length ≤ 9223372036854775807) (hk : keep.length ≤ 9223372036854775807) : Ev (fun k => impl_NeedsAhead.f k l keep) (naV l keep) := by
  refine Ev.bind (stackOK_ev l keep hk) ?_
  simp only [naV]
  by_cases c : stackV l keep = true
  · have f := stack_facts c
    refine ev_pos c (ev_pos (by omega) ?_)
    rw [if_pos c]
    have := i_l0 keep hk f.2.2 l (by omega) f.2.1 l.length 0 (List.replicate 8 false) (List.replicate 8 false) rfl rfl (by omega) (by omega)
    rw [List.drop_zero] at this
    exact this
  · refine ev_neg c ?_
    rw [if_neg c]
    exact Ev.now _
theorem need_len (keep : List Int) : ∀ (l : List S77) (s b : List Bool), (needV keep l s b).length = b.length
  | [], s, b => fold_len s keep b
  | x :: xs, s, b => by rw [needV, need_len keep xs, fold_len]
theorem naV_len (l : List S77) (keep : List Int) : (naV l keep).1.length ≤ 8 := by
  simp only [naV]
  split
  · have := listFrom_len (needV keep l (List.replicate 8 false) (List.replicate 8 false)) 0
    rw [need_len] at this
    simpa using this
  · simp
theorem FnExactNeedsAhead : laws_FnExactNeedsAhead.Pure := by
  intro l0 l1 _ h0 _ h2
  suffices Ev (fun k => laws_FnExactNeedsAhead.f k l0 l1) true by
    obtain ⟨K, hK⟩ := this
    exact ⟨K, hK K (Nat.le_refl K)⟩
  simp only [laws_FnExactNeedsAhead.f]
  by_cases c : (l1.length : Int) > 1048576
  · exact ev_pos c (Ev.now _)
  · refine ev_neg c ?_
    obtain ⟨r, hr, hle⟩ := szFlat_ l0 h0.1
    refine ev_bindc hr ?_
    by_cases c1 : r < 0
    · exact ev_pos c1 (Ev.now _)
    · refine ev_neg c1 ?_
      have hf' := hle (by omega)
      obtain ⟨f, hf, ef⟩ := toFlat_ev l0 hf'
      obtain ⟨n, hn, en⟩ := toInt_ev l1 (by omega)
      have ei := ina_ev f n (by omega) (by omega)
      have es := sna_ev f n (by omega) (by omega)
      have hl8 := naV_len f n
      obtain ⟨⟨y1, y2⟩, hy⟩ : ∃ y, y = naV f n := ⟨_, rfl⟩
      rw [← hy] at ei es hl8
      simp only at hl8
      refine Ev.bind ef (Ev.bind en (Ev.bind es (Ev.bind ef (Ev.bind en (Ev.bind ei ?_)))))
      refine Ev.bind (eqInt_ev y1 (by omega)) (ev_pos rfl ?_)
      refine ev_succ ?_
      simp only [laws_FnExactNeedsAhead.j0]
      refine ev_neg (by simp) ?_
      refine Ev.bind ef (Ev.bind (eqFlat_ev f (by omega)) (ev_pos rfl (Ev.bind en (Ev.bind (eqInt_ev n (by omega)) (ev_pos rfl ?_)))))
      obtain ⟨r1, hr1, e1⟩ := markFlat_ev f 1 (by omega) (by omega) (by omega)
      refine Ev.bind e1 (Ev.bind (markInt_ev n _ (by omega) (by omega) (by omega)) ?_)
      refine ev_neg (by simp only; omega) (Ev.bind (eqInt_ev y1 (by omega)) (ev_pos rfl ?_))
      refine ev_succ ?_
      simp only [laws_FnExactNeedsAhead.j1]
      refine ev_neg (by simp) ?_
      refine Ev.bind (markInt_ev y1 1 (by omega) (by omega) (by omega)) ?_
      refine Ev.bind (heldInt_ev y1.length 1 (by omega) (by omega) (by omega)) ?_
      refine ev_neg (by omega) (ev_pos rfl ?_)
      refine Ev.bind ef (Ev.bind en (Ev.bind ei (Ev.bind (eqInt_ev y1 (by omega)) (ev_pos rfl ?_))))
      refine ev_succ ?_
      simp only [laws_FnExactNeedsAhead.j2]
      refine ev_neg (by simp) ?_
      exact Ev.bind (heldInt_ev y1.length 1 (by omega) (by omega) (by omega)) (ev_neg (by omega) (ev_pos rfl (Ev.now _)))
end Go.Proofs.Ytipikejhchpfnaa.Pure
