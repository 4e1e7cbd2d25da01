/- The machine: what these points come to: runs, and that the law answers true. Conditions: none. -/
import Derived.Test.YtipikejhchpfnaaMmX
import Derived.Test.YtipikejhchpfnaaMp1
import Derived.Test.YtipikejhchpfnaaMg
import Derived.Test.YtipikejhchpfnaaMt3
/- Valid code: what stands at each place (no program in sight). -/
namespace Go.Tree.M
open Go.Proofs
set_option linter.unusedVariables false
set_option linter.unusedSimpArgs false
abbrev shInit (l : List W) : Sh := ⟨List.replicate l.length (-1), List.replicate l.length (-1), List.replicate l.length [], []⟩
/-- What stands ahead of a step. -/
def stAt (l : List W) : Nat → Sh × Vs
  | 0 => (shInit l, ⟨0, false, []⟩)
  | i + 1 => match l[i]? with
    | none => stAt l i
    | some x => ((shStep l i x (stAt l i).1).getD (stAt l i).1, (vStep x (stAt l i).2).2)
/-- Valid code, as it was walked. -/
structure Val (l : List W) (S : Sh) (H : List Int) : Prop where
  n60 : l.length ≤ 60
  good : ∀ x ∈ l, stepP x
  sh : ∀ i x, l[i]? = some x → shStep l i x (stAt l i).1 = some (stAt l (i + 1)).1
  v : ∀ i x, l[i]? = some x → (vStep x (stAt l i).2).1 = 0 ∧ (stAt l (i + 1)).2 = (vStep x (stAt l i).2).2
  eS : S = (stAt l l.length).1
  nil : S.op = []
  atH : ∀ i, i ≤ l.length → H[i]? = some (stAt l i).2.h
  lenH : H.length = l.length + 1
  h0 : (stAt l l.length).2.h = 0
theorem drop_cons {l xs : List W} {x : W} {i : Nat} (h : x :: xs = l.drop i) : l[i]? = some x ∧ xs = l.drop (i + 1) := by
  constructor
  · have h1 := congrArg (·[0]?) h
    simpa using h1.symm
  · have h1 := congrArg List.tail h
    simpa using h1
theorem drop_nil {l : List W} {i : Nat} (hi : i ≤ l.length) (h : [] = l.drop i) : i = l.length := by
  have h1 := congrArg List.length h
  rw [List.length_drop, List.length_nil] at h1
  omega
theorem shGo_at {l : List W} {S : Sh} : ∀ {xs : List W} {i : Nat}, xs = l.drop i → i ≤ l.length → shGo l xs i (stAt l i).1 = some S → (∀ j x, i ≤ j → l[j]? = some x → shStep l j x (stAt l j).1 = some (stAt l (j + 1)).1) ∧ S = (stAt l l.length).1 ∧ S.op = []
  | [], i, hx, hi, hg => by
    obtain rfl := drop_nil hi hx
    rw [shGo] at hg
    split at hg
    · rename_i c
      cases hg
      exact ⟨fun j x hj h => by have := lt_of_at h; omega, rfl, List.length_eq_zero_iff.1 c⟩
    · cases hg
  | x :: xs, i, hx, hi, hg => by
    obtain ⟨h0, hxs⟩ := drop_cons hx
    rw [shGo] at hg
    cases hst : shStep l i x (stAt l i).1 with
    | none => rw [hst] at hg; cases hg
    | some s1 =>
      rw [hst] at hg
      have h1 : (stAt l (i + 1)).1 = s1 := by rw [stAt, h0]; simp only; rw [hst]; rfl
      have hg : shGo l xs (i + 1) s1 = some S := hg
      rw [← h1] at hg
      obtain ⟨q1, q2⟩ := shGo_at hxs (lt_of_at h0) hg
      refine ⟨fun j y hj hy => ?_, q2⟩
      rcases Nat.lt_or_ge i j with c | c
      · exact q1 j y c hy
      · obtain rfl : i = j := by omega
        rw [h0] at hy; cases hy
        rw [hst, h1]
theorem vGo_at {l : List W} {H : List Int} {D : List Bool} : ∀ {xs : List W} {i : Nat} {hs : List Int} {ds : List Bool}, xs = l.drop i → i ≤ l.length → hs.length = i → (∀ j, j < i → hs[j]? = some (stAt l j).2.h) → vGo xs (stAt l i).2 hs ds = some (H, D) →
    (∀ j x, i ≤ j → l[j]? = some x → (vStep x (stAt l j).2).1 = 0) ∧ (∀ j, j ≤ l.length → H[j]? = some (stAt l j).2.h) ∧ H.length = l.length + 1 ∧ (stAt l l.length).2.h = 0
  | [], i, hs, ds, hx, hi, hl, hh, hg => by
    obtain rfl := drop_nil hi hx
    rw [vGo] at hg
    split at hg
    · rename_i c
      cases hg
      refine ⟨fun j x hj h => by have := lt_of_at h; omega, fun j hj => ?_, by simp [hl], c⟩
      rcases Nat.lt_or_ge j l.length with c2 | c2
      · rw [List.getElem?_append_left (by omega)]; exact hh j c2
      · obtain rfl : j = l.length := by omega
        rw [List.getElem?_append_right (by omega), hl, Nat.sub_self]; rfl
    · cases hg
  | x :: xs, i, hs, ds, hx, hi, hl, hh, hg => by
    obtain ⟨h0, hxs⟩ := drop_cons hx
    rw [vGo] at hg
    split at hg
    · rename_i c
      have h1 : (stAt l (i + 1)).2 = (vStep x (stAt l i).2).2 := by rw [stAt, h0]
      rw [← h1] at hg
      obtain ⟨q1, q2⟩ := vGo_at hxs (lt_of_at h0) (by simp [hl]) (fun j hj => by
        rcases Nat.lt_or_ge j i with c2 | c2
        · rw [List.getElem?_append_left (by omega)]; exact hh j c2
        · obtain rfl : j = i := by omega
          rw [List.getElem?_append_right (by omega), hl, Nat.sub_self]; rfl) hg
      refine ⟨fun j y hj hy => ?_, q2⟩
      rcases Nat.lt_or_ge i j with c2 | c2
      · exact q1 j y c2 hy
      · obtain rfl : i = j := by omega
        rw [h0] at hy; cases hy; exact c
    · cases hg
theorem val_of {l : List W} {S : Sh} {H : List Int} {D : List Bool} (h : validV l = some (S, H, D)) : Val l S H := by
  unfold validV at h
  cases hs : shapeV l with
  | none => rw [hs] at h; cases h
  | some s =>
    rw [hs] at h
    obtain ⟨r, hv, hr⟩ := Option.map_eq_some_iff.1 h
    cases hr
    have hsh := shapeV_inv hs
    have hgo : shGo l l 0 (shInit l) = some S := by
      unfold shapeV at hs
      rw [if_pos hsh.2.2] at hs
      exact hs
    obtain ⟨a1, a2, a3⟩ := shGo_at (l := l) (i := 0) (by simp) (Nat.zero_le _) hgo
    obtain ⟨b1, b2, b3, b4⟩ := vGo_at (l := l) (i := 0) (by simp) (Nat.zero_le _) rfl (fun j hj => by omega) hv
    exact ⟨hsh.2.2.1, hsh.2.2.2, fun i x hx => a1 i x (Nat.zero_le _) hx, fun i x hx => ⟨b1 i x (Nat.zero_le _) hx, by rw [stAt, hx]⟩, a2, a3, b2, b3, b4⟩
section
variable {l : List W} {S : Sh} {H : List Int}
theorem Val.inv (h : Val l S H) : ∀ i, i ≤ l.length → ShI l i (stAt l i).1 ∧ VI (stAt l i).2 ∧ (stAt l i).2.st.length = (stAt l i).1.op.length
  | 0, _ => ⟨sh0 l, vi0, rfl⟩
  | i + 1, hi => by
    obtain ⟨a, b, c⟩ := h.inv i (by omega)
    obtain ⟨x, hx⟩ := at_some (show i < l.length by omega)
    obtain ⟨v1, v2⟩ := h.v i x hx
    refine ⟨a.step hx (h.sh i x hx), by rw [v2]; exact b.step v1, ?_⟩
    rw [v2]
    exact (step_len (h.sh i x hx) c).2 v1
/-- One step of what was walked. -/
theorem shStep_cases {i : Nat} {x : W} {s s' : Sh} (hs : shStep l i x s = some s') :
    inP x s.op.length ∧ s'.opens = s.opens.set i s.op ∧
    ((opnP x.op ∧ s'.op = s.op ++ [i] ∧ s'.ends = s.ends ∧ s'.other = s.other) ∨
      (x.op = 18 ∧ (∃ ys k, s.op = ys ++ [k] ∧ opAt l k = 17 ∧ g s.other k < 0 ∧ s'.other = s.other.set k i) ∧ s'.op = s.op ∧ s'.ends = s.ends) ∨
      (x.op = 19 ∧ (∃ ys k, s.op = ys ++ [k] ∧ s'.op = ys ∧ s'.ends = endSet s i k) ∧ s'.other = s.other) ∨
      ((¬ opnP x.op ∧ x.op ≠ 18 ∧ x.op ≠ 19) ∧ s'.op = s.op ∧ s'.ends = s.ends ∧ s'.other = s.other)) := by
  unfold shStep at hs
  split at hs
  · cases hs
  rename_i hg
  have hg := (Decidable.not_not.1 hg).2
  split at hs
  · rename_i co
    split at hs
    · cases hs
    · cases hs; exact ⟨hg, rfl, .inl ⟨co, rfl, rfl, rfl⟩⟩
  rename_i co
  split at hs
  · rename_i c
    rcases last_cases s.op with e | ⟨ys, k, e⟩
    · rw [e] at hs; cases hs
    · rw [e, List.getLast?_concat] at hs
      simp only at hs
      split at hs
      · cases hs
      · rename_i hk
        cases hs
        refine ⟨hg, by rw [e], .inr (.inl ⟨c, ⟨ys, k, e, ?_, by by_cases c2 : g s.other k ≥ 0; exact absurd (.inr c2) hk; omega, rfl⟩, e.symm, rfl⟩)⟩
        by_cases c2 : opAt l k = 17
        · exact c2
        · exact absurd (.inl c2) hk
  rename_i c
  split at hs
  · rename_i c2
    rcases last_cases s.op with e | ⟨ys, k, e⟩
    · rw [e] at hs; cases hs
    · rw [e, List.getLast?_concat] at hs
      simp only at hs
      cases hs
      exact ⟨hg, by rw [e], .inr (.inr (.inl ⟨c2, ⟨ys, k, e, by simp, rfl⟩, rfl⟩))⟩
  · rename_i c2
    cases hs
    exact ⟨hg, rfl, .inr (.inr (.inr ⟨⟨co, c, c2⟩, rfl, rfl, rfl⟩))⟩
/-- One step of validation. -/
theorem vStep_cases {x : W} {v : Vs} (hc : (vStep x v).1 = 0) :
    (v.d = false → offV x.op ≤ v.h - baseV v.st) ∧ ∃ k, (offV x.op ≤ v.h - baseV v.st → k = v.h - offV x.op + onV x.op) ∧
    ((opnP x.op ∧ (vStep x v).2 = ⟨k, v.d, v.st ++ [(k, v.d)]⟩) ∨
      (x.op = 18 ∧ k = baseV v.st ∧ (vStep x v).2 = ⟨k, deadV v.st, v.st⟩) ∨
      (x.op = 19 ∧ k = baseV v.st ∧ (vStep x v).2 = ⟨k, deadV v.st, v.st.dropLast⟩) ∨
      ((x.op = 20 ∨ x.op = 22 ∨ x.op = 14) ∧ (vStep x v).2 = ⟨baseV v.st, true, v.st⟩) ∨
      ((¬ opnP x.op ∧ x.op ≠ 18 ∧ x.op ≠ 19 ∧ x.op ≠ 20 ∧ x.op ≠ 22 ∧ x.op ≠ 14) ∧ (vStep x v).2 = ⟨k, v.d, v.st⟩)) := by
  have tail : ∀ k, (vTail x k v).1 = 0 → ((opnP x.op ∧ (vTail x k v).2 = ⟨k, v.d, v.st ++ [(k, v.d)]⟩) ∨
      (x.op = 18 ∧ k = baseV v.st ∧ (vTail x k v).2 = ⟨k, deadV v.st, v.st⟩) ∨
      (x.op = 19 ∧ k = baseV v.st ∧ (vTail x k v).2 = ⟨k, deadV v.st, v.st.dropLast⟩) ∨
      ((x.op = 20 ∨ x.op = 22 ∨ x.op = 14) ∧ (vTail x k v).2 = ⟨baseV v.st, true, v.st⟩) ∨
      ((¬ opnP x.op ∧ x.op ≠ 18 ∧ x.op ≠ 19 ∧ x.op ≠ 20 ∧ x.op ≠ 22 ∧ x.op ≠ 14) ∧ (vTail x k v).2 = ⟨k, v.d, v.st⟩)) := fun k hk => by
    unfold vTail at hk ⊢
    split
    · rename_i c; rw [if_pos c] at hk; cases hk
    rename_i c4
    rw [if_neg c4] at hk
    split
    · rename_i co; exact .inl ⟨co, rfl⟩
    rename_i co
    rw [if_neg co] at hk
    split
    · rename_i ce; rw [if_pos ce] at hk; cases hk
    rename_i ce
    split
    · rename_i c; exact .inr (.inl ⟨c, by by_cases c5 : k = baseV v.st; exact c5; exact absurd ⟨.inl c, c5⟩ ce, rfl⟩)
    rename_i c18
    split
    · rename_i c; exact .inr (.inr (.inl ⟨c, by by_cases c5 : k = baseV v.st; exact c5; exact absurd ⟨.inr c, c5⟩ ce, rfl⟩))
    rename_i c19
    split
    · rename_i c; exact .inr (.inr (.inr (.inl ⟨c, rfl⟩)))
    · rename_i c; exact .inr (.inr (.inr (.inr ⟨⟨co, c18, c19, by omega, by omega, by omega⟩, rfl⟩)))
  unfold vStep at hc ⊢
  split
  · rename_i c
    rw [if_pos c] at hc
    exact ⟨fun _ => c, _, fun _ => rfl, tail _ hc⟩
  split
  · rename_i c1 c; rw [if_neg c1, if_pos c] at hc; cases hc
  · rename_i c1 c
    rw [if_neg c1, if_neg c] at hc
    exact ⟨fun h => absurd h c, _, fun h => absurd h c1, tail _ hc⟩
end
end Go.Tree.M

/- Valid code: where its jumps lead (no program in sight). -/
namespace Go.Tree.M
open Go.Proofs
set_option linter.unusedVariables false
set_option linter.unusedSimpArgs false
abbrev shA (l : List W) (i : Nat) : Sh := (stAt l i).1
abbrev vA (l : List W) (i : Nat) : Vs := (stAt l i).2
theorem base_last {st : List (Int × Bool)} {n : Nat} {e : Int × Bool} (hl : st.length = n + 1) (h : st[n]? = some e) : baseV st = e.1 ∧ deadV st = e.2 := by
  unfold baseV deadV
  rw [List.getLast?_eq_getElem?, hl, Nat.add_sub_cancel, h]
  exact ⟨rfl, rfl⟩
structure DI (v : Vs) : Prop where
  pw : v.st.Pairwise fun a b => b.2 = false → a.2 = false
  al : v.d = false → ∀ e ∈ v.st, e.2 = false
theorem DI.last {v : Vs} (h : DI v) (hd : deadV v.st = false) : ∀ e ∈ v.st, e.2 = false := fun e he => by
  have h1 := h.pw
  rcases last_cases v.st with e0 | ⟨ys, y, e0⟩
  · rw [e0] at he; cases he
  · rw [e0] at he h1 hd
    rw [deadV_app] at hd
    rcases List.mem_append.1 he with hm | hm
    · exact (List.pairwise_append.1 h1).2.2 e hm y (by simp) hd
    · rw [List.mem_singleton.1 hm]; exact hd
theorem DI.step {v : Vs} {x : W} (h : DI v) (hc : (vStep x v).1 = 0) : DI (vStep x v).2 := by
  obtain ⟨_, k, _, hh⟩ := vStep_cases hc
  rcases hh with ⟨_, e⟩ | ⟨_, _, e⟩ | ⟨_, _, e⟩ | ⟨_, e⟩ | ⟨_, e⟩ <;> rw [e]
  · refine ⟨?_, fun hd e he => ?_⟩
    · show (v.st ++ [(k, v.d)]).Pairwise _
      rw [List.pairwise_append]
      refine ⟨h.pw, by simp, fun a ha b hb hb2 => ?_⟩
      rw [List.mem_singleton.1 hb] at hb2
      exact h.al hb2 a ha
    · rcases List.mem_append.1 he with he | he
      · exact h.al hd e he
      · rw [List.mem_singleton.1 he]; exact hd
  · exact ⟨h.pw, fun hd => h.last hd⟩
  · exact ⟨h.pw.sublist (List.dropLast_sublist _), fun hd e he => h.last hd e (List.dropLast_subset _ he)⟩
  · exact ⟨h.pw, fun hd => by cases hd⟩
  · exact ⟨h.pw, h.al⟩
section
variable {l : List W} {S : Sh} {H : List Int}
theorem Val.di (h : Val l S H) : ∀ i, i ≤ l.length → DI (vA l i)
  | 0, _ => ⟨List.Pairwise.nil, fun _ e he => by cases he⟩
  | i + 1, hi => by
    obtain ⟨x, hx⟩ := at_some (show i < l.length by omega)
    obtain ⟨v1, v2⟩ := h.v i x hx
    show DI (stAt l (i + 1)).2
    rw [v2]
    exact (h.di i (by omega)).step v1
theorem Val.keep (h : Val l S H) {i k : Nat} (hi : i < l.length) (hk : opnP (opAt l k)) :
    (g (shA l (i + 1)).ends k = g (shA l i).ends k ∨ (g (shA l i).ends k = -1 ∧ g (shA l (i + 1)).ends k = i)) ∧
    (g (shA l (i + 1)).other k = g (shA l i).other k ∨ (g (shA l i).other k = -1 ∧ g (shA l (i + 1)).other k = i)) := by
  obtain ⟨x, hx⟩ := at_some hi
  obtain ⟨a, _, _⟩ := h.inv i (by omega)
  obtain ⟨_, _, hc⟩ := shStep_cases (h.sh i x hx)
  rcases hc with ⟨_, _, e1, e2⟩ | ⟨c, ⟨ys, k', e0, e1, e2, e3⟩, _, e4⟩ | ⟨c, ⟨ys, k', e0, e1, e2⟩, e3⟩ | ⟨_, _, e1, e2⟩
  · exact ⟨.inl (by rw [e1]), .inl (by rw [e2])⟩
  · refine ⟨.inl (by rw [e4]), ?_⟩
    show g (stAt l (i + 1)).1.other k = _ ∨ _ ∧ g (stAt l (i + 1)).1.other k = _
    rw [e3, g_set]
    split
    · rename_i c2; obtain ⟨rfl, _⟩ := c2
      have := (a.mo k').2
      exact .inr ⟨by show g (stAt l i).1.other k' = -1; omega, rfl⟩
    · exact .inl rfl
  · refine ⟨?_, .inl (by rw [e3])⟩
    have hm := a.mem (k := k') (by rw [e0]; simp)
    show g (stAt l (i + 1)).1.ends k = _ ∨ _ ∧ g (stAt l (i + 1)).1.ends k = _
    rw [e2, g_endSet a hi hm.1]
    split
    · rename_i c2; subst c2; exact .inr ⟨hm.2.2, rfl⟩
    split
    · rename_i c2; subst c2; rw [opAt_of hx, c] at hk; simp [opnP] at hk
    split
    · rename_i c2
      have := (a.ot k' c2.1).2.2.2.1
      rw [← c2.2, show (k : Int).toNat = k by omega] at this
      rw [this] at hk; simp [opnP] at hk
    · exact .inl rfl
  · exact ⟨.inl (by rw [e1]), .inl (by rw [e2])⟩
theorem Val.later (h : Val l S H) {i k : Nat} (hk : opnP (opAt l k)) : ∀ d, i + d ≤ l.length →
    (g (shA l (i + d)).ends k = g (shA l i).ends k ∨ (g (shA l i).ends k = -1 ∧ i ≤ g (shA l (i + d)).ends k)) ∧
    (g (shA l (i + d)).other k = g (shA l i).other k ∨ (g (shA l i).other k = -1 ∧ i ≤ g (shA l (i + d)).other k))
  | 0, _ => ⟨.inl rfl, .inl rfl⟩
  | d + 1, hd => by
    obtain ⟨a, b⟩ := h.later (i := i) hk d (by omega)
    obtain ⟨a2, b2⟩ := h.keep (i := i + d) (k := k) (by omega) hk
    rw [← Nat.add_assoc]
    constructor
    · rcases a2 with e | ⟨e1, e2⟩
      · rw [e]; exact a
      · rcases a with e3 | ⟨e3, e4⟩
        · exact .inr ⟨by rw [← e3]; exact e1, by rw [e2]; omega⟩
        · exact .inr ⟨e3, by rw [e2]; omega⟩
    · rcases b2 with e | ⟨e1, e2⟩
      · rw [e]; exact b
      · rcases b with e3 | ⟨e3, e4⟩
        · exact .inr ⟨by rw [← e3]; exact e1, by rw [e2]; omega⟩
        · exact .inr ⟨e3, by rw [e2]; omega⟩
theorem Val.fin (h : Val l S H) {i k : Nat} (hi : i ≤ l.length) (hk : opnP (opAt l k)) :
    (g S.ends k = g (shA l i).ends k ∨ (g (shA l i).ends k = -1 ∧ i ≤ g S.ends k)) ∧
    (g S.other k = g (shA l i).other k ∨ (g (shA l i).other k = -1 ∧ i ≤ g S.other k)) := by
  have := h.later (i := i) hk (l.length - i) (by omega)
  rw [show i + (l.length - i) = l.length by omega] at this
  rw [h.eS]
  exact this
theorem Val.ShS (h : Val l S H) : ShI l l.length S := by
  rw [h.eS]; exact (h.inv _ (Nat.le_refl _)).1
theorem opn_lt {l : List W} {k : Nat} (hk : opnP (opAt l k)) : k < l.length := by
  rcases Nat.lt_or_ge k l.length with c | c
  · exact c
  · rw [opAt, List.getD_eq_getElem?_getD, List.getElem?_eq_none c] at hk
    exact absurd hk (by decide)
theorem Val.closed (h : Val l S H) {k : Nat} (hk : opnP (opAt l k)) : 0 ≤ g S.ends k := by
  have h1 := h.ShS.op
  rw [h.nil] at h1
  have h2 := (h.ShS.mo k).1
  by_cases c : g S.ends k = -1
  · have : k ∈ (List.range l.length).filter fun k => decide (opnP (opAt l k) ∧ g S.ends k = -1) := by
      rw [List.mem_filter, List.mem_range]
      exact ⟨opn_lt hk, decide_eq_true ⟨hk, c⟩⟩
    rw [← h1] at this; cases this
  · omega
/-- What is open at a place. -/
theorem Val.op (h : Val l S H) {i : Nat} (hi : i ≤ l.length) : (shA l i).op = (List.range i).filter fun k => decide (opnP (opAt l k) ∧ (i : Int) ≤ g S.ends k) := by
  rw [(h.inv i hi).1.op]
  refine List.filter_congr fun k hk => decide_eq_decide.2 ⟨fun ⟨a, b⟩ => ⟨a, ?_⟩, fun ⟨a, b⟩ => ⟨a, ?_⟩⟩
  · have h1 := h.closed a
    rcases (h.fin hi a).1 with e | ⟨_, e⟩
    · have b : g (shA l i).ends k = -1 := b
      omega
    · exact e
  · rcases (h.fin hi a).1 with e | ⟨e, _⟩
    · have h1 := (h.inv i hi).1.c1 k a
      have h2 := h.closed a
      have h3 := h1 (by show 0 ≤ g (shA l i).ends k; omega)
      have h4 : g (shA l i).ends k < i := h3.2.1
      omega
    · exact e
theorem Val.opens (h : Val l S H) {i : Nat} (hi : i < l.length) : S.opens[i]? = some (shA l i).op := by
  have : ∀ d, i + 1 + d ≤ l.length → (shA l (i + 1 + d)).opens[i]? = some (shA l i).op := fun d => by
    induction d with
    | zero =>
      intro _
      obtain ⟨x, hx⟩ := at_some hi
      show (stAt l (i + 1)).1.opens[i]? = _
      rw [(shStep_cases (h.sh i x hx)).2.1, List.getElem?_set_self (by rw [(h.inv i (by omega)).1.p]; exact hi)]
    | succ d ih =>
      intro hd
      obtain ⟨x, hx⟩ := at_some (show i + 1 + d < l.length by omega)
      show (stAt l (i + 1 + d + 1)).1.opens[i]? = _
      rw [(shStep_cases (h.sh _ x hx)).2.1, List.getElem?_set_ne (by omega)]
      exact ih (by omega)
  have h1 := this (l.length - (i + 1)) (by omega)
  rw [show i + 1 + (l.length - (i + 1)) = l.length by omega] at h1
  rw [h.eS]
  exact h1
/-- What the walk keeps of what is open. -/
theorem Val.ent (h : Val l S H) : ∀ i : Nat, i ≤ l.length → ∀ j k : Nat, (shA l i).op[j]? = some k → (vA l i).st[j]? = some ((vA l (k + 1)).h, (vA l (k + 1)).d)
  | 0, _, j, k, hj => by cases hj
  | i + 1, hi, j, k, hj => by
    have ih := h.ent i (by omega)
    obtain ⟨x, hx⟩ := at_some (show i < l.length by omega)
    obtain ⟨v1, v2⟩ := h.v i x hx
    obtain ⟨_, _, hlen⟩ := h.inv i (by omega)
    obtain ⟨_, _, hc⟩ := shStep_cases (h.sh i x hx)
    obtain ⟨_, m, _, hv⟩ := vStep_cases v1
    rw [← v2] at hv
    show (stAt l (i + 1)).2.st[j]? = _
    have hj : (stAt l (i + 1)).1.op[j]? = some k := hj
    rcases hc with ⟨c, e, _⟩ | ⟨c, _, e, _⟩ | ⟨c, ⟨ys, k', e0, e, _⟩, _⟩ | ⟨c, e, _⟩
    · rcases hv with ⟨_, ev⟩ | ⟨c2, _⟩ | ⟨c2, _⟩ | ⟨c2, _⟩ | ⟨c2, _⟩
      · rw [e] at hj
        rcases Nat.lt_or_ge j (stAt l i).1.op.length with cj | cj
        · rw [List.getElem?_append_left cj] at hj
          rw [ev]
          show ((stAt l i).2.st ++ _)[j]? = _
          rw [List.getElem?_append_left (by omega)]
          exact ih j k hj
        · rw [List.getElem?_append_right cj] at hj
          have hj0 : j - (stAt l i).1.op.length = 0 := by
            have := lt_of_at hj; simp at this; omega
          rw [hj0] at hj; cases hj
          have e1 : vA l (i + 1) = _ := ev
          rw [ev]
          show ((stAt l i).2.st ++ _)[j]? = _
          rw [List.getElem?_append_right (by omega), hlen, hj0, e1]
          rfl
      · simp only [opnP] at c; omega
      · simp only [opnP] at c; omega
      · simp only [opnP] at c; omega
      · exact absurd c c2.1
    · rw [e] at hj
      rcases hv with ⟨c2, _⟩ | ⟨_, _, ev⟩ | ⟨c2, _⟩ | ⟨c2, _⟩ | ⟨c2, _⟩
      · simp only [opnP] at c2; omega
      · rw [ev]; exact ih j k hj
      · omega
      · omega
      · omega
    · rw [e] at hj
      rcases hv with ⟨c2, _⟩ | ⟨c2, _⟩ | ⟨_, _, ev⟩ | ⟨c2, _⟩ | ⟨c2, _⟩
      · simp only [opnP] at c2; omega
      · omega
      · rw [ev]
        have hlt := lt_of_at hj
        have h1 := ih j k (by show (stAt l i).1.op[j]? = _; rw [e0, List.getElem?_append_left hlt]; exact hj)
        show ((stAt l i).2.st.dropLast)[j]? = _
        rw [List.getElem?_dropLast, if_pos (by rw [hlen, e0]; simp; omega)]
        exact h1
      · omega
      · omega
    · rw [e] at hj
      rcases hv with ⟨c2, _⟩ | ⟨c2, _⟩ | ⟨c2, _⟩ | ⟨c2, ev⟩ | ⟨c2, ev⟩
      · exact absurd c2 c.1
      · omega
      · omega
      · rw [ev]; exact ih j k hj
      · rw [ev]; exact ih j k hj
/-- An end of what is open. -/
theorem Val.endAt (h : Val l S H) {k : Nat} (hk : opnP (opAt l k)) : ∃ e : Nat, g S.ends k = e ∧ k < e ∧ e < l.length ∧ (vA l (e + 1)).h = (vA l (k + 1)).h ∧ (vA l (e + 1)).d = (vA l (k + 1)).d := by
  have hS := h.ShS
  have hc := h.closed hk
  obtain ⟨c1, c2, c3, c4⟩ := hS.c1 k hk hc
  obtain ⟨e, he⟩ : ∃ e : Nat, g S.ends k = e := ⟨(g S.ends k).toNat, by omega⟩
  rw [he] at c1 c2 c3 c4
  rw [show (e : Int).toNat = e by omega] at c3 c4
  have hel : e < l.length := by omega
  refine ⟨e, he, by omega, hel, ?_⟩
  obtain ⟨x, hx⟩ := at_some hel
  obtain ⟨a, _, hlen⟩ := h.inv e (by omega)
  obtain ⟨v1, v2⟩ := h.v e x hx
  obtain ⟨_, m, _, hv⟩ := vStep_cases v1
  rw [← v2] at hv
  have hxo : x.op = 19 := by rw [← opAt_of hx]; exact c3
  obtain ⟨_, _, hsc⟩ := shStep_cases (h.sh e x hx)
  rcases hsc with ⟨c, _⟩ | ⟨c, _⟩ | ⟨_, ⟨ys, k', e0, _, e2⟩, _⟩ | ⟨c, _⟩
  · simp only [opnP] at c; omega
  · omega
  · have hm := a.mem (k := k') (by rw [e0]; simp)
    have h1 : g (shA l (e + 1)).ends k' = e := by
      show g (stAt l (e + 1)).1.ends k' = e
      rw [e2, g_endSet a hel hm.1, if_pos rfl]
    have h2 : g S.ends k' = e := by
      rcases (h.fin (i := e + 1) (by omega) hm.2.1).1 with q | ⟨q, _⟩
      · rw [q, h1]
      · omega
    have h3 := (hS.c1 k' hm.2.1 (by omega)).2.2.2
    rw [h2, show (e : Int).toNat = e by omega, c4] at h3
    have hkk : k = k' := by omega
    subst hkk
    have h4 := h.ent e (by omega) ys.length k (by show (stAt l e).1.op[ys.length]? = _; rw [e0]; simp)
    obtain ⟨b1, b2⟩ := base_last (by rw [hlen, e0]; simp) h4
    rcases hv with ⟨c, _⟩ | ⟨c, _⟩ | ⟨_, q1, q2⟩ | ⟨c, _⟩ | ⟨c, _⟩
    · simp only [opnP] at c; omega
    · omega
    · constructor
      · show (stAt l (e + 1)).2.h = _
        rw [q2]; show m = _; rw [q1]; exact b1
      · show (stAt l (e + 1)).2.d = _
        rw [q2]; exact b2
    · omega
    · omega
  · omega
/-- An else. -/
theorem Val.elseAt (h : Val l S H) {o : Nat} (ho : o < l.length) (h18 : opAt l o = 18) : ∃ k : Nat, k < o ∧ opAt l k = 17 ∧ g S.other k = o ∧ g S.ends o = g S.ends k ∧ baseV (vA l o).st = (vA l (k + 1)).h ∧ (vA l o).h = (vA l o).h ∧
    (vA l (o + 1)).h = (vA l (k + 1)).h ∧ (vA l (o + 1)).d = (vA l (k + 1)).d ∧ ((vA l o).d = false → (vA l (k + 1)).d = false ∧ (vA l o).h = (vA l (k + 1)).h) := by
  have hS := h.ShS
  obtain ⟨j, j1, j2, j3, j4⟩ := hS.c3 o (by omega) h18
  obtain ⟨x, hx⟩ := at_some ho
  obtain ⟨a, _, hlen⟩ := h.inv o (by omega)
  obtain ⟨v1, v2⟩ := h.v o x hx
  obtain ⟨vd, m, vm, hv⟩ := vStep_cases v1
  rw [← v2] at hv
  have hxo : x.op = 18 := by rw [← opAt_of hx]; exact h18
  obtain ⟨_, _, hsc⟩ := shStep_cases (h.sh o x hx)
  rcases hsc with ⟨c, _⟩ | ⟨_, ⟨ys, k, e0, e1, e2, e3⟩, _, _⟩ | ⟨c, _⟩ | ⟨c, _⟩
  · simp only [opnP] at c; omega
  · have hm := a.mem (k := k) (by rw [e0]; simp)
    have h1 : g (shA l (o + 1)).other k = o := by
      show g (stAt l (o + 1)).1.other k = o
      rw [e3, g_set, if_pos ⟨rfl, by rw [a.o]; omega⟩]
    have h2 : g S.other k = o := by
      rcases (h.fin (i := o + 1) (by omega) hm.2.1).2 with q | ⟨q, _⟩
      · rw [q, h1]
      · omega
    have hjk : j = k := hS.oi j k (by omega) (by omega)
    subst hjk
    have h4 := h.ent o (by omega) ys.length j (by show (stAt l o).1.op[ys.length]? = _; rw [e0]; simp)
    obtain ⟨b1, b2⟩ := base_last (by rw [hlen, e0]; simp) h4
    have hq : m = baseV (stAt l o).2.st ∧ (stAt l (o + 1)).2 = ⟨m, deadV (stAt l o).2.st, (stAt l o).2.st⟩ := by
      rcases hv with ⟨c, _⟩ | ⟨_, q1, q2⟩ | ⟨c, _⟩ | ⟨c, _⟩ | ⟨c, _⟩
      · simp only [opnP] at c; omega
      · exact ⟨q1, q2⟩
      · omega
      · omega
      · omega
    refine ⟨j, j1, j2, j3, j4, b1, rfl, ?_, ?_, fun hd => ⟨?_, ?_⟩⟩
    · show (stAt l (o + 1)).2.h = _
      rw [hq.2]; show m = _; rw [hq.1]; exact b1
    · show (stAt l (o + 1)).2.d = _
      rw [hq.2]; exact b2
    · have := (h.di o (by omega)).al hd _ (List.mem_of_getElem? h4)
      exact this
    · have h5 := vm (vd hd)
      have hoff : offV x.op = 0 := by rw [hxo]; rfl
      have hon : onV x.op = 0 := by rw [hxo]; rfl
      rw [hoff, hon] at h5
      have h6 := hq.1
      rw [h5, b1] at h6
      have h6 : (stAt l o).2.h - 0 + 0 = (vA l (j + 1)).h := h6
      show (stAt l o).2.h = _
      omega
  · omega
  · omega
/-- The other way, from where it starts. -/
theorem Val.othAt (h : Val l S H) {k : Nat} (ho : 0 ≤ g S.other k) : ∃ o : Nat, g S.other k = o ∧ k < o ∧ o < l.length ∧ opAt l o = 18 ∧ g S.ends o = g S.ends k ∧ g S.other k < g S.ends k ∧ (vA l (o + 1)).h = (vA l (k + 1)).h ∧ (vA l (o + 1)).d = (vA l (k + 1)).d := by
  have hS := h.ShS
  obtain ⟨o1, o2, o3, o4, o5⟩ := hS.ot k ho
  obtain ⟨o, he⟩ : ∃ o : Nat, g S.other k = o := ⟨(g S.other k).toNat, by omega⟩
  rw [he] at o2 o3 o4
  rw [show (o : Int).toNat = o by omega] at o4
  obtain ⟨k', q1, q2, q3, q4, _, _, q6, q7, _⟩ := h.elseAt (o := o) (by omega) o4
  have : k = k' := hS.oi k k' ho (by omega)
  subst this
  have hc := h.closed (k := k) (by rw [o1]; simp [opnP])
  exact ⟨o, he, by omega, by omega, o4, q4, by omega, q6, q7⟩
end
end Go.Tree.M

/- Jumps: where both machines find they lead. -/
namespace Go.Tree.M
open Go.Proofs
set_option linter.unusedVariables false
set_option linter.unusedSimpArgs false
/-- Where a jump out of so many leads. -/
def tgtN (l : List W) (s : Sh) (o : List Nat) (d : Nat) : Nat := if d = o.length then l.length else if opAt l (o.getD (o.length - 1 - d) 0) = 16 then o.getD (o.length - 1 - d) 0 + 1 else (g s.ends (o.getD (o.length - 1 - d) 0)).toNat + 1
theorem tgtN_snoc {l : List W} {s : Sh} {o : List Nat} {m d : Nat} (h : d + 1 ≤ o.length + 1) : tgtN l s (o ++ [m]) (d + 1) = tgtN l s o d := by
  unfold tgtN
  have e : (o ++ [m]).length = o.length + 1 := by simp
  rw [e]
  by_cases c : d = o.length
  · rw [if_pos c, if_pos (by omega)]
  · rw [if_neg c, if_neg (by omega)]
    have e2 : (o ++ [m]).getD (o.length + 1 - 1 - (d + 1)) 0 = o.getD (o.length - 1 - d) 0 := by
      rw [List.getD_eq_getElem?_getD, List.getD_eq_getElem?_getD, List.getElem?_append_left (by omega), show o.length + 1 - 1 - (d + 1) = o.length - 1 - d by omega]
    rw [e2]
theorem tgtN_zero {l : List W} {s : Sh} {o : List Nat} {m : Nat} : tgtN l s (o ++ [m]) 0 = if opAt l m = 16 then m + 1 else (g s.ends m).toNat + 1 := by
  unfold tgtN
  have e : (o ++ [m]).length = o.length + 1 := by simp
  rw [e, if_neg (by omega)]
  have e2 : (o ++ [m]).getD (o.length + 1 - 1 - 0) 0 = m := by
    rw [List.getD_eq_getElem?_getD, List.getElem?_append_right (by omega)]
    simp
  rw [e2]
section
variable {l : List W} {s : Sh} {H : List Int}
abbrev oF (l : List W) (s : Sh) (i m : Nat) : List Nat := (List.range m).filter fun k => decide (opnP (opAt l k) ∧ (i : Int) ≤ g s.ends k)
theorem oF_succ {i m : Nat} : oF l s i (m + 1) = oF l s i m ++ (if opnP (opAt l m) ∧ (i : Int) ≤ g s.ends m then [m] else []) := by
  rw [oF, range_filter_succ (p := fun k => decide (opnP (opAt l k) ∧ (i : Int) ≤ g s.ends k)) (fun k _ => rfl)]
  congr 1
  by_cases c : opnP (opAt l m) ∧ (i : Int) ≤ g s.ends m
  · rw [if_pos c, if_pos (dT c)]
  · rw [if_neg c, if_neg (by rw [dF c]; simp)]
theorem loop192 (h : Val l s H) {i : Nat} (hi : i ≤ l.length) : ∀ m d : Nat, m ≤ i → d ≤ (oF l s i m).length →
    S cx 192 (H192_0 (l.map (eW false)) (s.ends.map i64) i d ((m : Int) - 1)) = some ([i64 ((tgtN l s (oF l s i m) d : Nat) : Int)], [])
  | 0, d, _, hd => by
    have hd : d ≤ 0 := hd
    refine eH192_0 (bif_neg (dF (by omega)) ?_)
    rw [S_ret, List.length_map]
    have : tgtN l s (oF l s i 0) d = l.length := by unfold tgtN; exact if_pos (show d = 0 by omega)
    rw [this]
  | m + 1, d, hm, hd => by
    have h60 := h.n60
    have hml : m < l.length := by omega
    have ih := loop192 h hi m
    have hse := h.ShS.e
    rw [show ((m + 1 : Nat) : Int) - 1 = m by omega]
    refine eH192_0 (bif_pos (dT (by omega)) (ck_pos (dT2 ⟨by omega, by rw [List.length_map]; omega⟩) ?_))
    rw [getD_W hml, V3_S, C163_S (t163 _)]
    have hG : S cx 192 (G192_1 (l.map (eW false)) (s.ends.map i64) i d m (decide (opnP (opAt l m) ∧ (i : Int) ≤ g s.ends m))) = some ([i64 ((tgtN l s (oF l s i (m + 1)) d : Nat) : Int)], []) := by
      rw [oF_succ] at hd ⊢
      by_cases c : opnP (opAt l m) ∧ (i : Int) ≤ g s.ends m
      · rw [if_pos c] at hd ⊢
        refine eG192_1 (bif_pos (dT c) ?_)
        cases d with
        | zero =>
          refine bif_pos rfl (ck_pos (dT2 ⟨by omega, by rw [List.length_map]; omega⟩) ?_)
          rw [getD_W hml, V3_S, tgtN_zero]
          by_cases c2 : opAt l m = 16
          · rw [if_pos c2]
            refine bif_pos (beq_iff_eq.2 c2) ?_
            rw [S_ret, inc64 (n := l.length) hml (by omega)]
          · rw [if_neg c2]
            refine bif_neg (beq_eq_false_iff_ne.2 c2) (ck_pos (dT2 ⟨by omega, by rw [List.length_map]; omega⟩) ?_)
            obtain ⟨e, e1, _, e3, _⟩ := h.endAt c.1
            rw [getD_g (by omega), S_int, S_ret, e1, inc64 (n := l.length) e3 (by omega)]
            rfl
        | succ d =>
          rw [List.length_append] at hd
          have hd : d + 1 ≤ (oF l s i m).length + 1 := hd
          have hle : (oF l s i m).length ≤ m := Nat.le_trans (List.length_filter_le _ _) (by rw [List.length_range]; omega)
          rw [tgtN_snoc hd]
          refine bif_neg (beq_eq_false_iff_ne.2 (by omega)) (back_of ?_)
          rw [w64_id (by omega) (by omega), w64_id (by omega) (by omega), show ((d + 1 : Nat) : Int) - 1 = d by omega]
          exact ih d (by omega) (by omega)
      · rw [if_neg c, List.append_nil] at hd ⊢
        refine eG192_1 (bif_neg (dF c) (back_of ?_))
        rw [w64_id (by omega) (by omega)]
        exact ih d (by omega) hd
    by_cases co : opnP (opAt l m)
    · refine bif_pos (dT co) (ck_pos (dT2 ⟨by omega, by rw [List.length_map]; omega⟩) ?_)
      rw [getD_g (by omega), S_int]
      have : decide (g s.ends m ≥ (i : Int)) = decide (opnP (opAt l m) ∧ (i : Int) ≤ g s.ends m) := decide_eq_decide.2 ⟨fun q => ⟨co, q⟩, fun q => q.2⟩
      rw [this]; exact hG
    · refine bif_neg (dF co) ?_
      rw [dF (fun q => co q.1)] at hG; exact hG
theorem t192 (h : Val l s H) {i : Nat} (hi : i ≤ l.length) {d : Nat} (hd : d ≤ (shA l i).op.length) : tw cx 192 [rW true false l, rI true s.ends, i64 i, i64 d] = some ([i64 ((tgtN l s (shA l i).op d : Nat) : Int)], []) := by
  have h60 := h.n60
  refine e192 ?_
  rw [h.op hi] at hd ⊢
  rw [N192, w64_id (by omega) (by omega)]
  exact loop192 h hi i d (Nat.le_refl _) hd
theorem row_at (h : Val l s H) {i : Nat} (hi : i < l.length) : (s.opens.map rowN).getD (0 + ((i : Nat) : Int).toNat) (.dead ()) = rowN (shA l i).op := getD_at (h.opens hi)
theorem t199 (h : Val l s H) {i : Nat} (hi : i < l.length) {d : Nat} (hd : d ≤ (shA l i).op.length) : tw cx 199 [.pt true () (.st [rW true false l, rI false s.ends, rI false s.other, sl false ⟨1, true⟩ (s.opens.map rowN)]), i64 i, i64 d] = some ([i64 ((tgtN l s (shA l i).op d : Nat) : Int)], []) := by
  have h60 := h.n60
  have hS := h.ShS
  have hse := hS.e
  have hsp := hS.p
  refine e199 (ck_pos (dT2 ⟨by omega, by rw [List.length_map]; omega⟩) ?_)
  rw [row_at h hi, S_slR]
  have hol := (h.inv i (by omega)).1.len
  have hmem : ∀ k, k ∈ (shA l i).op → k < i ∧ opnP (opAt l k) := fun k hk => ⟨((h.inv i (by omega)).1.mem hk).1, ((h.inv i (by omega)).1.mem hk).2.1⟩
  generalize (shA l i).op = o at hd hol hmem
  have e1 : ((cN o).map i64).length = o.length := lenN o
  unfold tgtN
  by_cases c : d = o.length
  · rw [if_pos c]
    refine bif_pos (by rw [beq_iff_eq, e1]; omega) ?_
    rw [S_ret, List.length_map]
  · rw [if_neg c]
    refine bif_neg (by rw [beq_eq_false_iff_ne, e1]; omega) ?_
    rw [e1, w64_id (x := (o.length : Int) - 1) (by omega) (by omega), w64_id (by omega) (by omega)]
    refine ck_pos (dT2 (by omega)) ?_
    obtain ⟨k, hk⟩ := at_some (show o.length - 1 - d < o.length by omega)
    have hk2 := hmem k (List.mem_of_getElem? hk)
    have e2 : o.getD (o.length - 1 - d) 0 = k := by rw [List.getD_eq_getElem?_getD, hk]; rfl
    have e3 : ((cN o).map i64).getD (0 + ((o.length : Int) - 1 - d).toNat) (.dead ()) = i64 (k : Int) := by
      rw [show ((o.length : Int) - 1 - d) = ((o.length - 1 - d : Nat) : Int) by omega]
      exact getD_at (by rw [cN, List.getElem?_map, hk]; rfl)
    rw [e2, e3, S_int]
    refine ck_pos (dT2 ⟨by omega, by rw [List.length_map]; omega⟩) ?_
    rw [getD_W (by omega), V3_S]
    by_cases c2 : opAt l k = 16
    · rw [if_pos c2]
      refine bif_pos (beq_iff_eq.2 c2) ?_
      rw [S_ret, inc64 (n := l.length) (by omega) (by omega)]
    · rw [if_neg c2]
      refine bif_neg (beq_eq_false_iff_ne.2 c2) (ck_pos (dT2 ⟨by omega, by rw [List.length_map]; omega⟩) ?_)
      obtain ⟨e, q1, _, q3, _⟩ := h.endAt hk2.2
      rw [getD_g (by omega), S_int, S_ret, q1, inc64 (n := l.length) q3 (by omega)]
      rfl
/-- The search for an else. -/
theorem t174 (h : Val l s H) {i : Nat} (h17 : opAt l i = 17) : tw cx 174 [rW true false l, rI true s.ends, i64 i] = some ([i64 (if 0 ≤ g s.other i then g s.other i else 0)], []) := by
  have h60 := h.n60
  have hS := h.ShS
  have hse := hS.e
  have ho : opnP (opAt l i) := by rw [h17]; simp [opnP]
  have hi := opn_lt ho
  obtain ⟨e, q1, q2, q3, _⟩ := h.endAt ho
  have e1 : (s.ends.map i64).length = l.length := by rw [List.length_map, hse]
  have e2 : (l.map (eW false)).length = l.length := List.length_map _
  have loop : ∀ d k : Nat, e - k = d → i < k → k ≤ e → (0 ≤ g s.other i → k ≤ g s.other i) → S cx 174 (H174_0 (l.map (eW false)) (s.ends.map i64) i k) = some ([i64 (if 0 ≤ g s.other i then g s.other i else 0)], []) := fun d => by
    induction d with
    | zero =>
      intro k hd hk hke hko
      refine eH174_0 (ck_pos (dT2 (by omega)) ?_)
      rw [getD_g (by omega), S_int, q1]
      refine bif_neg (dF (by omega)) ?_
      rw [S_ret, if_neg]
      intro c
      obtain ⟨o, p1, p2, p3, _, _, p6, _⟩ := h.othAt c
      have := hko c
      omega
    | succ d ih =>
      intro k hd hk hke hko
      have hx : (l.getD k default).op = opAt l k := rfl
      refine eH174_0 (ck_pos (dT2 (by omega)) ?_)
      rw [getD_g (by omega), S_int, q1]
      refine bif_pos (dT (by omega)) (ck_pos (dT2 (by omega)) ?_)
      rw [getD_W (by omega), V3_S]
      have next : (0 ≤ g s.other i → (k : Int) ≠ g s.other i) → S cx 174 (B174_0 (l.map (eW false)) (s.ends.map i64) i (w64 ((k : Int) + 1))) = some ([i64 (if 0 ≤ g s.other i then g s.other i else 0)], []) := fun hn => by
        refine back_of ?_
        rw [inc64 (n := l.length) (by omega) (by omega)]
        refine ih (k + 1) (by omega) (by omega) (by omega) fun c => ?_
        have := hko c; have := hn c; omega
      by_cases c18 : opAt l k = 18
      · refine bif_pos (beq_iff_eq.2 c18) (ck_pos (dT2 (by omega)) ?_)
        rw [getD_g (by omega), S_int]
        refine ck_pos (dT2 (by omega)) ?_
        rw [S_int]
        obtain ⟨j, j1, j2, j3, j4, _⟩ := h.elseAt (o := k) (by omega) c18
        by_cases c : g s.ends k = e
        · refine bif_pos (beq_iff_eq.2 c) ?_
          have hji : j = i := by
            have a1 := (hS.c1 j (by rw [j2]; simp [opnP]) (by omega)).2.2.2
            have a2 := (hS.c1 i ho (by omega)).2.2.2
            rw [← j4, c] at a1
            rw [q1] at a2
            omega
          subst hji
          rw [S_ret, if_pos (by omega), j3]
        · refine bif_neg (beq_eq_false_iff_ne.2 c) (next fun c2 c3 => c ?_)
          have hji : j = i := hS.oi j i (by omega) (by omega)
          subst hji
          rw [j4, q1]
      · refine bif_neg (beq_eq_false_iff_ne.2 c18) (next fun c2 c3 => c18 ?_)
        obtain ⟨o, p1, p2, p3, p4, _⟩ := h.othAt c2
        have : o = k := by omega
        subst this; exact p4
  refine e174 ?_
  rw [N174, inc64 (n := l.length) hi (by omega)]
  refine loop _ (i + 1) rfl (by omega) (by omega) fun c => ?_
  obtain ⟨o, p1, p2, _⟩ := h.othAt c
  omega
end
end Go.Tree.M

/- Jumps: what both machines do. -/
namespace Go.Tree.M
open Go.Proofs
set_option linter.unusedVariables false
set_option linter.unusedSimpArgs false
section
variable {l : List W} {s : Sh} {H : List Int}
/-- What is alive has what it takes. -/
theorem Val.pops (h : Val l s H) {i : Nat} {x : W} (hx : l[i]? = some x) (hd : (vA l i).d = false) : offV x.op ≤ (vA l i).h - baseV (vA l i).st :=
  (vStep_cases (h.v i x hx).1).1 hd
theorem Val.openH (h : Val l s H) {k : Nat} (ho : opnP (opAt l k)) (hd : (vA l (k + 1)).d = false) : (vA l (k + 1)).h = (vA l k).h - offV (opAt l k) := by
  obtain ⟨x, hx⟩ := at_some (opn_lt ho)
  obtain ⟨v1, v2⟩ := h.v k x hx
  obtain ⟨vd, m, vm, hv⟩ := vStep_cases v1
  rw [← v2] at hv
  rw [opAt_of hx] at ho ⊢
  rcases hv with ⟨_, e⟩ | ⟨c, _⟩ | ⟨c, _⟩ | ⟨c, _⟩ | ⟨c, _⟩
  · have hd : (stAt l (k + 1)).2.d = false := hd
    rw [e] at hd
    have h1 := vm (vd hd)
    have hon : onV x.op = 0 := by
      simp only [opnP] at ho; unfold onV twoP; repeat' split
      all_goals omega
    show (stAt l (k + 1)).2.h = (stAt l k).2.h - _
    rw [e]; show m = _; omega
  all_goals (simp only [opnP] at ho; first | omega | exact absurd ho c.1)
theorem Val.tgt (h : Val l s H) {i : Nat} {x : W} (hx : l[i]? = some x) (hd : (vA l i).d = false) {d : Nat} (hdo : d ≤ (shA l i).op.length) :
    tgtN l s (shA l i).op d ≤ l.length ∧ 0 ≤ (vA l (tgtN l s (shA l i).op d)).h ∧ (vA l (tgtN l s (shA l i).op d)).h ≤ (vA l i).h - offV x.op ∧ (tgtN l s (shA l i).op d < l.length → (vA l (tgtN l s (shA l i).op d)).d = false) ∧
    (d < (shA l i).op.length → ∃ k, (shA l i).op[(shA l i).op.length - 1 - d]? = some k ∧ opnP (opAt l k) ∧ k < i ∧ (vA l (tgtN l s (shA l i).op d)).h = (vA l k).h - offV (opAt l k)) ∧ (d = (shA l i).op.length → (vA l (tgtN l s (shA l i).op d)).h = 0) := by
  have hi := lt_of_at hx
  obtain ⟨a, b, c⟩ := h.inv i (by omega)
  have hp := h.pops hx hd
  have hb := b.base
  by_cases cd : d = (shA l i).op.length
  · have e : tgtN l s (shA l i).op d = l.length := by unfold tgtN; rw [if_pos cd]
    rw [e]
    have h0 : (vA l l.length).h = 0 := h.h0
    rw [h0]
    have hb0 : 0 ≤ baseV (vA l i).st := hb.1
    exact ⟨Nat.le_refl _, Int.le_refl _, by omega, fun q => by omega, fun q => by omega, fun _ => rfl⟩
  · obtain ⟨k, hk⟩ := at_some (show (shA l i).op.length - 1 - d < (shA l i).op.length by omega)
    have e2 : (shA l i).op.getD ((shA l i).op.length - 1 - d) 0 = k := by rw [List.getD_eq_getElem?_getD, hk]; rfl
    have hm := a.mem (List.mem_of_getElem? hk)
    have hent := h.ent i (by omega) _ k hk
    have hmem := List.mem_of_getElem? hent
    have h1 : (vA l (k + 1)).h ≤ baseV (vA l i).st := b.below _ hmem
    have h2 : (vA l (k + 1)).d = false := (h.di i (by omega)).al hd _ hmem
    have h3 : 0 ≤ (vA l (k + 1)).h := b.lo _ hmem
    obtain ⟨e, q1, q2, q3, q4, q5⟩ := h.endAt hm.2.1
    have hkl := opn_lt hm.2.1
    have key : ∀ t : Nat, (t = k + 1 ∨ t = e + 1) → tgtN l s (shA l i).op d = t → tgtN l s (shA l i).op d ≤ l.length ∧ 0 ≤ (vA l (tgtN l s (shA l i).op d)).h ∧ (vA l (tgtN l s (shA l i).op d)).h ≤ (vA l i).h - offV x.op ∧ (tgtN l s (shA l i).op d < l.length → (vA l (tgtN l s (shA l i).op d)).d = false) ∧
    (d < (shA l i).op.length → ∃ k, (shA l i).op[(shA l i).op.length - 1 - d]? = some k ∧ opnP (opAt l k) ∧ k < i ∧ (vA l (tgtN l s (shA l i).op d)).h = (vA l k).h - offV (opAt l k)) ∧ (d = (shA l i).op.length → (vA l (tgtN l s (shA l i).op d)).h = 0) := fun t ht et => by
      rw [et]
      have hh : (vA l t).h = (vA l (k + 1)).h ∧ (vA l t).d = (vA l (k + 1)).d ∧ t ≤ l.length := by
        rcases ht with rfl | rfl
        · exact ⟨rfl, rfl, hkl⟩
        · exact ⟨q4, q5, q3⟩
      rw [hh.1, hh.2.1]
      exact ⟨hh.2.2, h3, by omega, fun _ => h2, fun _ => ⟨k, hk, hm.2.1, hm.1, h.openH hm.2.1 h2⟩, fun q => absurd q cd⟩
    by_cases c16 : opAt l k = 16
    · refine key (k + 1) (.inl rfl) ?_
      unfold tgtN; rw [if_neg cd, e2, if_pos c16]
    · refine key (e + 1) (.inr rfl) ?_
      unfold tgtN; rw [if_neg cd, e2, if_neg c16, q1]; rfl
abbrev eM (l : List W) (s : Sh) (H : List Int) (x : Sx) (st : List Int) (a : Int) : TV := .pt false () (.st [rW true false l, rI false s.ends, rI true H, eS false x, rI false st, i64 a])
abbrev eR (l : List W) (s : Sh) (H : List Int) (ds : List Bool) (bs : List Int) (c p : Int) (x : Sx) (st : List Int) (a : Int) : TV := .pt false () (.st [.pt false () (eWa false l s H ds bs c p), eS false x, rI false st, i64 a])
theorem slB_row {f : FuncId} {o : List Nat} {A B : List TV → Nd} : Go.Tree.S cx f (.slB ⟨1, false⟩ (rowN o) fun r xs => bif r then A xs else B xs) = Go.Tree.S cx f (B ((cN o).map i64)) := S_slB
theorem take_map' {st : List Int} {k : Int} : ((st.map i64).drop 0).take ((k - 0).toNat) = (st.take k.toNat).map i64 := by
  rw [List.drop_zero, ← List.map_take, Int.sub_zero]
theorem Hlen (h : Val l s H) : (H.map i64).length = l.length + 1 := by rw [List.length_map, h.lenH]
theorem H_at (h : Val l s H) {i : Nat} (hi : i ≤ l.length) : (H.map i64).getD (0 + ((i : Nat) : Int).toNat) (.dead ()) = i64 (vA l i).h := getD_at (h.atH i hi)
theorem t175 (h : Val l s H) {i : Nat} {w : W} (hw : l[i]? = some w) (hd : (vA l i).d = false) {d : Nat} (hdo : d ≤ (shA l i).op.length) (x : Sx) (st : List Int) (a : Int) (hst : (vA l i).h - offV w.op ≤ st.length) :
    tw cx 175 [eM l s H x st a, i64 i, i64 d] = some ([], [eM l s H x (st.take (vA l (tgtN l s (shA l i).op d)).h.toNat) ((tgtN l s (shA l i).op d : Nat) : Int)]) := by
  have hi := lt_of_at hw
  obtain ⟨t1, t2, t3, _⟩ := h.tgt hw hd hdo
  have e1 := Hlen h
  refine e175 ?_
  rw [N175, C192_S (t192 h (by omega) hdo)]
  refine ck_pos (dT2 (by omega)) ?_
  rw [H_at h t1, S_int]
  refine ck_pos (dT2 ⟨t2, by rw [List.length_map]; omega⟩) ?_
  rw [S_ret, take_map']
theorem t195 (h : Val l s H) {i : Nat} {w : W} (hw : l[i]? = some w) (hd : (vA l i).d = false) {d : Nat} (hdo : d ≤ (shA l i).op.length) (ds : List Bool) (bs : List Int) (c p : Int) (x : Sx) (st : List Int) (a : Int) (hst : (vA l i).h - offV w.op ≤ st.length) :
    tw cx 195 [eR l s H ds bs c p x st a, i64 i, i64 d] = some ([], [eR l s H ds bs c p x (st.take (vA l (tgtN l s (shA l i).op d)).h.toNat) ((tgtN l s (shA l i).op d : Nat) : Int)]) := by
  have hi := lt_of_at hw
  obtain ⟨t1, t2, t3, t4, t5, t6⟩ := h.tgt hw hd hdo
  have h60 := h.n60
  have hS := h.ShS
  have hsp := hS.p
  have hol := (h.inv i (by omega)).1.len
  have hol : (shA l i).op.length ≤ 8 := hol
  have e1 := Hlen h
  have el := lenN (shA l i).op
  have h199 := t199 h hi hdo
  have hG : Go.Tree.S cx 195 (G195_0 i d (vA l (tgtN l s (shA l i).op d)).h (l.map (eW false)) (s.ends.map i64) (s.other.map i64) (s.opens.map rowN) (H.map i64) (ds.map tb) (bs.map i64) c p (x.loc.map i64) (x.mem.map i64) (x.told.map i64) (st.map i64) a) = some ([], [eR l s H ds bs c p x (st.take (vA l (tgtN l s (shA l i).op d)).h.toNat) ((tgtN l s (shA l i).op d : Nat) : Int)]) := by
    have hck : (decide (0 ≤ (vA l (tgtN l s (shA l i).op d)).h) && decide ((vA l (tgtN l s (shA l i).op d)).h ≤ (((st.map i64).length : Nat) : Int))) = true := dT2 ⟨t2, by rw [List.length_map]; omega⟩
    have h0 : Go.Tree.S cx 195 (NG195_0_s0 i d (vA l (tgtN l s (shA l i).op d)).h (l.map (eW false)) (s.ends.map i64) (s.other.map i64) (s.opens.map rowN) (H.map i64) (ds.map tb) (bs.map i64) c p (x.loc.map i64) (x.mem.map i64) (x.told.map i64) (st.map i64)) = some ([], [eR l s H ds bs c p x (st.take (vA l (tgtN l s (shA l i).op d)).h.toNat) ((tgtN l s (shA l i).op d : Nat) : Int)]) := by
      refine ck_pos hck ?_
      rw [C199_S h199, S_ret, take_map']
    refine eG195_0 (S_amb2 h0 (S_amb2 h0 (S_amb2 h0 ?_)))
    rw [C199_S h199]
    refine ck_pos hck ?_
    rw [S_ret, take_map']
  refine e195 (ck_pos (dT2 ⟨by omega, by rw [List.length_map]; omega⟩) ?_)
  rw [row_at h hi, S_slO, slB_row, N195_s3, row_at h hi]
  by_cases cd : d < (shA l i).op.length
  · refine bif_pos (dT (by omega)) ?_
    rw [slB_row, N195_s2, row_at h hi, slB_row, N195_s1, row_at h hi, el, w64_id (x := ((shA l i).op.length : Int) - 1) (by omega) (by omega), w64_id (by omega) (by omega)]
    refine ck_pos (dT2 (by omega)) ?_
    rw [slB_row, N195_s0, el, w64_id (x := ((shA l i).op.length : Int) - 1) (by omega) (by omega), w64_id (by omega) (by omega)]
    obtain ⟨k, k1, k2, k3, k4⟩ := t5 cd
    have e3 : ((cN (shA l i).op).map i64).getD (0 + (((shA l i).op.length : Int) - 1 - d).toNat) (.dead ()) = i64 (k : Int) := by
      rw [show (((shA l i).op.length : Int) - 1 - d) = (((shA l i).op.length - 1 - d : Nat) : Int) by omega]
      exact getD_at (by rw [cN, List.getElem?_map, k1]; rfl)
    rw [e3, S_int]
    refine ck_pos (dT2 ⟨by omega, by rw [List.length_map]; omega⟩) ?_
    rw [getD_W (by omega), V3_S, C198_S (t198 _)]
    refine ck_pos (dT2 (by omega)) ?_
    rw [H_at h (by omega), S_int]
    have hv := (h.inv k (by omega)).2.1
    have hv0 := hv.h0
    have hv4 := hv.h4
    have hof := offV_lo (opAt l k)
    have hv0 : 0 ≤ (vA l k).h := hv0
    have hv4 : (vA l k).h ≤ 4 := hv4
    rw [show (l.getD k default).op = opAt l k from rfl, w64_id (by omega) (by omega), ← k4]
    exact hG
  · refine bif_neg (dF (by omega)) ?_
    rw [t6 (by omega)] at hG ⊢
    exact hG
end
end Go.Tree.M

/- One move of the machine (no program in sight). -/
namespace Go.Tree.M
open Go.Proofs
set_option linter.unusedVariables false
set_option linter.unusedSimpArgs false
/-- A jump's place and height. -/
abbrev jT (l : List W) (s : Sh) (i d : Nat) : Nat := tgtN l s (shA l i).op d
abbrev jS (l : List W) (s : Sh) (i d : Nat) (st : List Int) : List Int := st.take (vA l (jT l s i d)).h.toNat
inductive Mv (l : List W) (s : Sh) (i : Nat) (w : W) (x : Sx) : List Int → Bool → List Int → Nat → Sx → Prop
  | c1 {st : List Int} : w.op = 1 → Mv l s i w x st true (st ++ [w.n]) (i + 1) x
  | c2 {st : List Int} : w.op = 2 → Mv l s i w x st true (st ++ [rdV x.loc w.n]) (i + 1) x
  | c3 {ys : List Int} {b : Int} : w.op = 3 → Mv l s i w x (ys ++ [b]) true ys (i + 1) ⟨x.loc.set w.n.toNat b, x.mem, x.told⟩
  | c4 {ys : List Int} {a b : Int} : twoP w.op → Mv l s i w x (ys ++ [a] ++ [b]) (doV w.op a b).2 (ys ++ [(doV w.op a b).1]) (i + 1) x
  | c10 {ys : List Int} {b : Int} : w.op = 10 → 0 ≤ b → b < 16 → Mv l s i w x (ys ++ [b]) true (ys ++ [rdV x.mem b]) (i + 1) x
  | c10x {ys : List Int} {b : Int} : w.op = 10 → 16 ≤ b → Mv l s i w x (ys ++ [b]) false ys (i + 1) x
  | c11 {ys : List Int} {a b : Int} : w.op = 11 → 0 ≤ a → a < 16 → Mv l s i w x (ys ++ [a] ++ [b]) true ys (i + 1) ⟨x.loc, x.mem.set a.toNat b, x.told⟩
  | c11x {ys : List Int} {a b : Int} : w.op = 11 → 16 ≤ a → Mv l s i w x (ys ++ [a] ++ [b]) false ys (i + 1) x
  | c12 {ys : List Int} {b : Int} : w.op = 12 → x.told.length < 100 → Mv l s i w x (ys ++ [b]) true ys (i + 1) ⟨x.loc, x.mem, x.told ++ [b]⟩
  | c12x {ys : List Int} {b : Int} : w.op = 12 → x.told.length = 100 → Mv l s i w x (ys ++ [b]) false (ys ++ [b]) (i + 1) x
  | c13 {ys : List Int} {b : Int} : w.op = 13 → Mv l s i w x (ys ++ [b]) true ys (i + 1) x
  | c14 {st : List Int} : w.op = 14 → Mv l s i w x st false st (i + 1) x
  | c17n {ys : List Int} {b : Int} : w.op = 17 → b ≠ 0 → Mv l s i w x (ys ++ [b]) true ys (i + 1) x
  | c17o {ys : List Int} {o : Nat} : w.op = 17 → g s.other i = (o : Int) → o < l.length → 0 < o → Mv l s i w x (ys ++ [0]) true ys (o + 1) x
  | c17e {ys : List Int} {e : Nat} : w.op = 17 → g s.other i < 0 → g s.ends i = (e : Int) → e < l.length → Mv l s i w x (ys ++ [0]) true ys (e + 1) x
  | c18 {st : List Int} {e : Nat} : w.op = 18 → g s.ends i = (e : Int) → e < l.length → Mv l s i w x st true st (e + 1) x
  | c20 {st : List Int} {d : Nat} : w.op = 20 → w.n = (d : Int) → d ≤ (shA l i).op.length → Mv l s i w x st true (jS l s i d st) (jT l s i d) x
  | c21 {ys : List Int} {b : Int} {d : Nat} : w.op = 21 → b ≠ 0 → w.n = (d : Int) → d ≤ (shA l i).op.length → Mv l s i w x (ys ++ [b]) true (jS l s i d ys) (jT l s i d) x
  | c21n {ys : List Int} : w.op = 21 → Mv l s i w x (ys ++ [0]) true ys (i + 1) x
  | c22 {ys : List Int} {b d : Nat} : w.op = 22 → (if b < w.tb.length then w.tb.getD b 0 else w.n) = (d : Int) → d ≤ (shA l i).op.length → Mv l s i w x (ys ++ [(b : Int)]) true (jS l s i d ys) (jT l s i d) x
  | c0 {st : List Int} : (w.op = 15 ∨ w.op = 16 ∨ w.op = 19) → Mv l s i w x st true st (i + 1) x
structure J (l : List W) (s : Sh) (i : Nat) (x : Sx) (st : List Int) : Prop where
  le : i ≤ l.length
  len : (st.length : Int) = (vA l i).h
  live : i < l.length → (vA l i).d = false
  ws : ∀ y ∈ st, wordP y
  sp : stateP x
section
variable {l : List W} {s : Sh} {H : List Int}
theorem Val.next (h : Val l s H) {i : Nat} {w : W} (hw : l[i]? = some w) (hd : (vA l i).d = false) (hop : w.op ≠ 18 ∧ w.op ≠ 20 ∧ w.op ≠ 22 ∧ w.op ≠ 14) : (vA l (i + 1)).h = (vA l i).h - offV w.op + onV w.op ∧ (vA l (i + 1)).d = false := by
  obtain ⟨v1, v2⟩ := h.v i w hw
  obtain ⟨vd, m, vm, hv⟩ := vStep_cases v1
  rw [← v2] at hv
  have h1 := vm (vd hd)
  show (stAt l (i + 1)).2.h = (stAt l i).2.h - _ + _ ∧ (stAt l (i + 1)).2.d = false
  rcases hv with ⟨_, e⟩ | ⟨c, _⟩ | ⟨c, q, e⟩ | ⟨c, _⟩ | ⟨c, e⟩
  · rw [e]; exact ⟨h1, hd⟩
  · omega
  · rw [e]; refine ⟨h1, ?_⟩
    have hdi := h.di i (by have := lt_of_at hw; omega)
    show deadV (stAt l i).2.st = false
    rcases last_cases (stAt l i).2.st with e0 | ⟨ys, y, e0⟩
    · rw [e0]; rfl
    · rw [e0, deadV_app]; exact hdi.al hd y (by show y ∈ (stAt l i).2.st; rw [e0]; simp)
  · omega
  · rw [e]; exact ⟨h1, hd⟩
theorem pop1 {st : List Int} (h : 1 ≤ st.length) : ∃ ys b, st = ys ++ [b] := by
  rcases last_cases st with e | ⟨ys, y, e⟩
  · rw [e] at h; simp at h
  · exact ⟨ys, y, e⟩
theorem pop2 {st : List Int} (h : 2 ≤ st.length) : ∃ ys a b, st = ys ++ [a] ++ [b] := by
  obtain ⟨zs, b, rfl⟩ := pop1 (show 1 ≤ st.length by omega)
  obtain ⟨ys, a, rfl⟩ := pop1 (show 1 ≤ zs.length by simp at h; omega)
  exact ⟨ys, a, b, rfl⟩
theorem opFacts {w : W} (h : stepP w) : 1 ≤ w.op ∧ w.op ≤ 22 := by
  rcases h with ⟨h, _⟩ | ⟨_, _, h⟩ <;> omega
set_option maxHeartbeats 1000000 in
theorem go (h : Val l s H) {i : Nat} {x : Sx} {st : List Int} (j : J l s i x st) {w : W} (hw : l[i]? = some w) :
    ∃ ok st' a x', Mv l s i w x st ok st' a x' ∧ (ok = true → J l s a x' st') ∧ (ok = false → x' = x) := by
  obtain ⟨jle, jlen, jlive, jws, jsp⟩ := j
  have hi := lt_of_at hw
  have hd := jlive hi
  have hpop := h.pops hw hd
  obtain ⟨iv1, iv2, _⟩ := h.inv i (by omega)
  have hb0 : 0 ≤ baseV (vA l i).st := iv2.base.1
  have hgood := h.good w (List.mem_of_getElem? hw)
  obtain ⟨op1, op2⟩ := opFacts hgood
  have hin := (shStep_cases (h.sh i w hw)).1
  have hopAt := opAt_of hw
  obtain ⟨sl, sm, sd, wl, wm, wt⟩ := jsp
  -- the plain ways on
  have next : ∀ {x' : Sx} {st' : List Int}, w.op ≠ 18 ∧ w.op ≠ 20 ∧ w.op ≠ 22 ∧ w.op ≠ 14 → (st'.length : Int) = (vA l i).h - offV w.op + onV w.op → (∀ y ∈ st', wordP y) → stateP x' → J l s (i + 1) x' st' := fun hop hl hws hsp => by
    obtain ⟨n1, n2⟩ := h.next hw hd hop
    exact ⟨hi, by rw [n1]; exact hl, fun _ => n2, hws, hsp⟩
  have jump : ∀ {st' : List Int} {d : Nat}, d ≤ (shA l i).op.length → (vA l i).h - offV w.op ≤ st'.length → (∀ y ∈ st', wordP y) → J l s (jT l s i d) x (jS l s i d st') := fun {st' d} hdo hl hws => by
    obtain ⟨t1, t2, t3, t4, _⟩ := h.tgt hw hd hdo
    refine ⟨t1, ?_, t4, fun y hy => hws y (List.mem_of_mem_take hy), sl, sm, sd, wl, wm, wt⟩
    have t2 : 0 ≤ (vA l (jT l s i d)).h := t2
    have t3 : (vA l (jT l s i d)).h ≤ (vA l i).h - offV w.op := t3
    rw [List.length_take]; omega
  have wapp : ∀ {ys : List Int} {b : Int}, (∀ y ∈ ys, wordP y) → wordP b → ∀ y ∈ ys ++ [b], wordP y := fun h1 h2 y hy => by
    rcases List.mem_append.1 hy with q | q
    · exact h1 y q
    · rw [List.mem_singleton.1 q]; exact h2
  have wl1 : ∀ {ys : List Int} {b : Int}, (∀ y ∈ ys ++ [b], wordP y) → (∀ y ∈ ys, wordP y) ∧ wordP b := fun h1 => ⟨fun y hy => h1 y (List.mem_append_left _ hy), h1 _ (by simp)⟩
  by_cases o1 : w.op = 1
  · refine ⟨_, _, _, _, .c1 o1, fun _ => next (by omega) ?_ (wapp jws ?_) ⟨sl, sm, sd, wl, wm, wt⟩, fun q => by cases q⟩
    · simp [offV, onV, o1]; omega
    · rcases hgood with ⟨c, _⟩ | ⟨_, _, c⟩
      · omega
      · exact ⟨by omega, by omega⟩
  by_cases o2 : w.op = 2
  · refine ⟨_, _, _, _, .c2 o2, fun _ => next (by omega) ?_ (wapp jws (rdV_word wl)) ⟨sl, sm, sd, wl, wm, wt⟩, fun q => by cases q⟩
    simp [offV, onV, o2]; omega
  by_cases o3 : w.op = 3
  · have hoff : offV w.op = 1 := by rw [o3]; rfl
    have hon : onV w.op = 0 := by rw [o3]; rfl
    obtain ⟨ys, b, rfl⟩ := pop1 (show 1 ≤ st.length by omega)
    obtain ⟨w1, w2⟩ := wl1 jws
    refine ⟨_, _, _, _, .c3 o3, fun _ => next (by omega) ?_ w1 ⟨by simp [sl], sm, sd, set_word wl w2, wm, wt⟩, fun q => by cases q⟩
    simp only [List.length_append, List.length_cons, List.length_nil] at jlen; omega
  by_cases o4 : twoP w.op
  · have hoff : offV w.op = 2 := by unfold offV; rw [if_neg (by omega), if_pos o4]
    have hon : onV w.op = 1 := by unfold onV; rw [if_neg (by omega), if_pos o4]
    obtain ⟨ys, a, b, rfl⟩ := pop2 (show 2 ≤ st.length by omega)
    obtain ⟨w1, w2⟩ := wl1 jws
    obtain ⟨w3, w4⟩ := wl1 w1
    simp only [twoP] at o4
    refine ⟨_, _, _, _, .c4 o4, fun _ => next (by omega) ?_ (wapp w3 (doV_word w4 w2)) ⟨sl, sm, sd, wl, wm, wt⟩, fun _ => rfl⟩
    simp only [List.length_append, List.length_cons, List.length_nil] at jlen ⊢; omega
  simp only [twoP] at o4
  by_cases o10 : w.op = 10
  · have hoff : offV w.op = 1 := by rw [o10]; rfl
    have hon : onV w.op = 1 := by rw [o10]; rfl
    obtain ⟨ys, b, rfl⟩ := pop1 (show 1 ≤ st.length by omega)
    obtain ⟨w1, w2⟩ := wl1 jws
    by_cases c : b < 16
    · refine ⟨_, _, _, _, .c10 o10 w2.1 c, fun _ => next (by omega) ?_ (wapp w1 (rdV_word wm)) ⟨sl, sm, sd, wl, wm, wt⟩, fun q => by cases q⟩
      simp only [List.length_append, List.length_cons, List.length_nil] at jlen ⊢; omega
    · exact ⟨_, _, _, _, .c10x o10 (by omega), fun q => by (cases q), fun _ => rfl⟩
  by_cases o11 : w.op = 11
  · have hoff : offV w.op = 2 := by rw [o11]; rfl
    have hon : onV w.op = 0 := by rw [o11]; rfl
    obtain ⟨ys, a, b, rfl⟩ := pop2 (show 2 ≤ st.length by omega)
    obtain ⟨w1, w2⟩ := wl1 jws
    obtain ⟨w3, w4⟩ := wl1 w1
    by_cases c : a < 16
    · refine ⟨_, _, _, _, .c11 o11 w4.1 c, fun _ => next (by omega) ?_ w3 ⟨sl, by simp [sm], sd, wl, set_word wm w2, wt⟩, fun q => by cases q⟩
      simp only [List.length_append, List.length_cons, List.length_nil] at jlen ⊢; omega
    · exact ⟨_, _, _, _, .c11x o11 (by omega), fun q => by (cases q), fun _ => rfl⟩
  by_cases o12 : w.op = 12
  · have hoff : offV w.op = 1 := by rw [o12]; rfl
    have hon : onV w.op = 0 := by rw [o12]; rfl
    obtain ⟨ys, b, rfl⟩ := pop1 (show 1 ≤ st.length by omega)
    obtain ⟨w1, w2⟩ := wl1 jws
    by_cases c : x.told.length < 100
    · refine ⟨_, _, _, _, .c12 o12 c, fun _ => next (by omega) ?_ w1 ⟨sl, sm, by simp; omega, wl, wm, wapp wt w2⟩, fun q => by cases q⟩
      simp only [List.length_append, List.length_cons, List.length_nil] at jlen ⊢; omega
    · exact ⟨_, _, _, _, .c12x o12 (by omega), fun q => by (cases q), fun _ => rfl⟩
  by_cases o13 : w.op = 13
  · have hoff : offV w.op = 1 := by rw [o13]; rfl
    have hon : onV w.op = 0 := by rw [o13]; rfl
    obtain ⟨ys, b, rfl⟩ := pop1 (show 1 ≤ st.length by omega)
    obtain ⟨w1, w2⟩ := wl1 jws
    refine ⟨_, _, _, _, .c13 o13, fun _ => next (by omega) ?_ w1 ⟨sl, sm, sd, wl, wm, wt⟩, fun q => by cases q⟩
    simp only [List.length_append, List.length_cons, List.length_nil] at jlen ⊢; omega
  by_cases o14 : w.op = 14
  · exact ⟨_, _, _, _, .c14 o14, fun q => by (cases q), fun _ => rfl⟩
  by_cases o17 : w.op = 17
  · have hoff : offV w.op = 1 := by rw [o17]; rfl
    have hon : onV w.op = 0 := by rw [o17]; rfl
    obtain ⟨ys, b, rfl⟩ := pop1 (show 1 ≤ st.length by omega)
    obtain ⟨w1, w2⟩ := wl1 jws
    simp only [List.length_append, List.length_cons, List.length_nil] at jlen
    obtain ⟨n1, n2⟩ := h.next hw hd (by omega)
    by_cases c : b = 0
    · subst c
      have ho : opnP (opAt l i) := by rw [hopAt, o17]; simp [opnP]
      by_cases c2 : 0 ≤ g s.other i
      · obtain ⟨o, p1, p2, p3, _, _, _, p7, p8⟩ := h.othAt c2
        exact ⟨_, _, _, _, .c17o o17 p1 p3 (by omega), fun _ => ⟨p3, by rw [p7, n1]; omega, fun _ => by rw [p8]; exact n2, w1, sl, sm, sd, wl, wm, wt⟩, fun q => by cases q⟩
      · obtain ⟨e, p1, p2, p3, p7, p8⟩ := h.endAt ho
        exact ⟨_, _, _, _, .c17e o17 (by omega) p1 p3, fun _ => ⟨p3, by rw [p7, n1]; omega, fun _ => by rw [p8]; exact n2, w1, sl, sm, sd, wl, wm, wt⟩, fun q => by cases q⟩
    · exact ⟨_, _, _, _, .c17n o17 c, fun _ => next (by omega) (by omega) w1 ⟨sl, sm, sd, wl, wm, wt⟩, fun q => by cases q⟩
  by_cases o18 : w.op = 18
  · obtain ⟨k, k1, k2, k3, k4, _, _, _, _, k9⟩ := h.elseAt hi (by rw [hopAt]; exact o18)
    obtain ⟨k9, k10⟩ := k9 hd
    obtain ⟨e, p1, p2, p3, p7, p8⟩ := h.endAt (k := k) (by rw [k2]; simp [opnP])
    exact ⟨_, _, _, _, .c18 o18 (by rw [k4]; exact p1) p3, fun _ => ⟨p3, by rw [p7]; omega, fun _ => by rw [p8]; exact k9, jws, sl, sm, sd, wl, wm, wt⟩, fun q => by cases q⟩
  by_cases o20 : w.op = 20
  · have hoff : offV w.op = 0 := by rw [o20]; rfl
    obtain ⟨d, e⟩ : ∃ d : Nat, w.n = d := ⟨w.n.toNat, by
      rcases hgood with ⟨c, _⟩ | ⟨_, _, c⟩
      · omega
      · simp only [depP] at c; omega⟩
    have hdo : d ≤ (shA l i).op.length := by
      have := hin.2
      have h3 : w.n ≤ ((shA l i).op.length : Int) := by rcases this with c | c; omega; exact c
      omega
    exact ⟨_, _, _, _, .c20 o20 e hdo, fun _ => jump hdo (by omega) jws, fun q => by cases q⟩
  by_cases o21 : w.op = 21
  · have hoff : offV w.op = 1 := by rw [o21]; rfl
    have hon : onV w.op = 0 := by rw [o21]; rfl
    obtain ⟨ys, b, rfl⟩ := pop1 (show 1 ≤ st.length by omega)
    obtain ⟨w1, w2⟩ := wl1 jws
    simp only [List.length_append, List.length_cons, List.length_nil] at jlen
    by_cases c : b = 0
    · subst c
      exact ⟨_, _, _, _, .c21n o21, fun _ => next (by omega) (by omega) w1 ⟨sl, sm, sd, wl, wm, wt⟩, fun q => by cases q⟩
    · obtain ⟨d, e⟩ : ∃ d : Nat, w.n = d := ⟨w.n.toNat, by
        rcases hgood with ⟨c, _⟩ | ⟨_, _, c⟩
        · omega
        · simp only [depP] at c; omega⟩
      have hdo : d ≤ (shA l i).op.length := by
        have := hin.2
        have h3 : w.n ≤ ((shA l i).op.length : Int) := by rcases this with c | c; omega; exact c
        omega
      exact ⟨_, _, _, _, .c21 o21 c e hdo, fun _ => jump hdo (by omega) w1, fun q => by cases q⟩
  by_cases o22 : w.op = 22
  · have hoff : offV w.op = 1 := by rw [o22]; rfl
    obtain ⟨ys, b, rfl⟩ := pop1 (show 1 ≤ st.length by omega)
    obtain ⟨w1, w2⟩ := wl1 jws
    simp only [List.length_append, List.length_cons, List.length_nil] at jlen
    obtain ⟨b, rfl⟩ : ∃ k : Nat, b = k := ⟨b.toNat, by have := w2.1; omega⟩
    obtain ⟨g1, g2, g3, g4⟩ : w.op = 22 ∧ depP w.n ∧ (1 ≤ w.tb.length ∧ w.tb.length ≤ 4) ∧ ∀ k ∈ w.tb, depP k := by
      rcases hgood with c | ⟨c, _⟩
      · exact c
      · exact absurd o22 c
    have key : ∃ d : Nat, (if b < w.tb.length then w.tb.getD b 0 else w.n) = (d : Int) ∧ d ≤ (shA l i).op.length := by
      by_cases c : b < w.tb.length
      · rw [if_pos c]
        obtain ⟨y, hy⟩ := at_some c
        have hm := List.mem_of_getElem? hy
        have e : w.tb.getD b 0 = y := by rw [List.getD_eq_getElem?_getD, hy]; rfl
        rw [e]
        have a1 := (g4 y hm).1
        have a2 : y ≤ ((shA l i).op.length : Int) := hin.1 y hm
        exact ⟨y.toNat, by omega, by omega⟩
      · rw [if_neg c]
        have a1 := g2.1
        have a2 : w.n ≤ ((shA l i).op.length : Int) := by rcases hin.2 with c | c; omega; exact c
        exact ⟨w.n.toNat, by omega, by omega⟩
    obtain ⟨d, e, hdo⟩ := key
    exact ⟨_, _, _, _, .c22 o22 e hdo, fun _ => jump hdo (by omega) w1, fun q => by cases q⟩
  have o0 : w.op = 15 ∨ w.op = 16 ∨ w.op = 19 := by omega
  have hoff : offV w.op = 0 := by rcases o0 with e | e | e <;> rw [e] <;> rfl
  have hon : onV w.op = 0 := by rcases o0 with e | e | e <;> rw [e] <;> rfl
  exact ⟨_, _, _, _, .c0 o0, fun _ => next (by omega) (by omega) jws ⟨sl, sm, sd, wl, wm, wt⟩, fun q => by cases q⟩
end
end Go.Tree.M

/- The reference's machine: a step. -/
namespace Go.Tree.M
open Go.Proofs
set_option linter.unusedVariables false
set_option linter.unusedSimpArgs false
theorem S_pop {f : FuncId} {ys : List Int} {b : Int} (h : ys.length ≤ 1000) {K : Int → Nd} : Go.Tree.S cx f (.ck (decide ((0 : Int) ≤ w64 (((((ys ++ [b]).map i64).length : Nat) : Int) - 1)) && decide (w64 (((((ys ++ [b]).map i64).length : Nat) : Int) - 1) < ((((ys ++ [b]).map i64).length : Nat) : Int))) <|
    .int .i64 (((ys ++ [b]).map i64).getD (0 + (w64 (((((ys ++ [b]).map i64).length : Nat) : Int) - 1)).toNat) (.dead ())) fun v =>
    .ck (decide ((0 : Int) ≤ w64 (((((ys ++ [b]).map i64).length : Nat) : Int) - 1)) && decide (w64 (((((ys ++ [b]).map i64).length : Nat) : Int) - 1) ≤ ((((ys ++ [b]).map i64).length : Nat) : Int))) <| K v) = Go.Tree.S cx f (K b) := by
  have e1 : ((ys ++ [b]).map i64).length = ys.length + 1 := by simp
  have e2 : w64 (((((ys ++ [b]).map i64).length : Nat) : Int) - 1) = ((ys.length : Nat) : Int) := by rw [e1, w64_id (by omega) (by omega)]; omega
  rw [lastI (by omega) e1, e2, e1]
  refine ck_pos (dT2 (by omega)) ?_
  rw [S_int]
  exact ck_pos (dT2 (by omega)) rfl
theorem initP {ys : List Int} {b : Int} (h : ys.length ≤ 1000) : (((ys ++ [b]).map i64).drop 0).take ((w64 (((((ys ++ [b]).map i64).length : Nat) : Int) - 1) - 0).toNat) = ys.map i64 :=
  initT (by omega) (by simp)
theorem snocI {ys : List Int} {b : Int} : ys.map i64 ++ [i64 b] = (ys ++ [b]).map i64 := by simp
theorem rd_at {v : List Int} {n : Int} (h0 : 0 ≤ n) (h1 : n < v.length) : (v.map i64).getD (0 + n.toNat) (.dead ()) = i64 (rdV v n) := by
  rw [Nat.zero_add]
  obtain ⟨y, hy⟩ := at_some (show n.toNat < v.length by omega)
  have e : rdV v n = y := by unfold rdV; rw [List.getD_eq_getElem?_getD, hy]; rfl
  rw [e]; exact getD_map' hy

theorem ne_b {a b : Int} (h : a ≠ b) : (a == b) = false := beq_eq_false_iff_ne.2 h
theorem eq_b {a b : Int} (h : a = b) : (a == b) = true := beq_iff_eq.2 h
section
variable {l : List W} {s : Sh} {H : List Int}
theorem Val.facts (h : Val l s H) {i : Nat} {x : Sx} {st : List Int} (j : J l s i x st) {w : W} (hw : l[i]? = some w) : i < l.length ∧ l.length ≤ 60 ∧ st.length ≤ 4 ∧ stepP w ∧ (vA l i).d = false ∧ (vA l i).h - offV w.op ≤ (vA l i).h := by
  have h4 := (h.inv i j.le).2.1.h4
  have h4 : (vA l i).h ≤ 4 := h4
  have := j.len
  have := offV_lo w.op
  exact ⟨lt_of_at hw, h.n60, by omega, h.good w (List.mem_of_getElem? hw), j.live (lt_of_at hw), by omega⟩
theorem fin0 {op n : Int} {tb' L E Hh lo me to st : List TV} {a : Int} (hop : ¬ (4 ≤ op ∧ op ≤ 9)) : Go.Tree.S cx 144 (G144_0 op n tb' L E Hh lo me to st a) = some ([tb true], [.pt false () (.st [sl true ⟨3, true⟩ L, sl false ⟨1, false⟩ E, sl true ⟨1, false⟩ Hh, .st [sl false ⟨1, false⟩ lo, sl false ⟨1, false⟩ me, sl false ⟨1, false⟩ to], sl false ⟨1, false⟩ st, i64 a])]) := by
  refine eG144_0 ?_
  rw [NG144_0, C112_S (t112 _ _ _)]
  exact bif_neg (dF hop) S_ret
set_option maxHeartbeats 2000000 in
theorem t144 (h : Val l s H) {i : Nat} {x : Sx} {st : List Int} (j : J l s i x st) {w : W} (hw : l[i]? = some w) {ok : Bool} {st' : List Int} {a : Nat} {x' : Sx} (m : Mv l s i w x st ok st' a x') :
    tw cx 144 [eM l s H x st i] = some ([tb ok], [eM l s H x' st' a]) := by
  obtain ⟨hi, h60, hs4, hg, hd, hoff⟩ := h.facts j hw
  have jlen := j.len
  obtain ⟨sl', sm', sd', _, _, _⟩ := j.sp
  have hinc : w64 ((i : Int) + 1) = ((i + 1 : Nat) : Int) := inc64 hi (by omega)
  have N0 : ∀ {r : Res}, w.op ≠ 1 → w.op ≠ 2 → Go.Tree.S cx 144 (G144_1 (i : Int) w.op w.n (w.tb.map i64) (l.map (eW false)) (s.ends.map i64) (H.map i64) (x.loc.map i64) (x.mem.map i64) (x.told.map i64) (st.map i64)) = some r → tw cx 144 [eM l s H x st i] = some r := fun {r} o1 o2 hh => by
    refine e144 (ck_pos (dT2 ⟨by omega, by rw [List.length_map]; omega⟩) ?_)
    rw [getD_at hw, V3_S]
    exact bif_neg (ne_b o1) (bif_neg (ne_b o2) hh)
  have N1 : ∀ {r : Res}, w.op ≠ 3 → Go.Tree.S cx 144 (G144_2 (i : Int) w.op w.n (w.tb.map i64) (l.map (eW false)) (s.ends.map i64) (H.map i64) (x.loc.map i64) (x.mem.map i64) (x.told.map i64) (st.map i64)) = some r → Go.Tree.S cx 144 (G144_1 (i : Int) w.op w.n (w.tb.map i64) (l.map (eW false)) (s.ends.map i64) (H.map i64) (x.loc.map i64) (x.mem.map i64) (x.told.map i64) (st.map i64)) = some r := fun {r} o3 hh => eG144_1 (bif_neg (ne_b o3) (hh))
  have N2 : ∀ {r : Res}, w.op ≠ 10 → Go.Tree.S cx 144 (G144_3 (i : Int) w.op w.n (w.tb.map i64) (l.map (eW false)) (s.ends.map i64) (H.map i64) (x.loc.map i64) (x.mem.map i64) (x.told.map i64) (st.map i64)) = some r → Go.Tree.S cx 144 (G144_2 (i : Int) w.op w.n (w.tb.map i64) (l.map (eW false)) (s.ends.map i64) (H.map i64) (x.loc.map i64) (x.mem.map i64) (x.told.map i64) (st.map i64)) = some r := fun {r} o10 hh => eG144_2 (bif_neg (ne_b o10) (hh))
  have N3 : ∀ {r : Res}, w.op ≠ 11 → Go.Tree.S cx 144 (G144_4 (i : Int) w.op w.n (w.tb.map i64) (l.map (eW false)) (s.ends.map i64) (H.map i64) (x.loc.map i64) (x.mem.map i64) (x.told.map i64) (st.map i64)) = some r → Go.Tree.S cx 144 (G144_3 (i : Int) w.op w.n (w.tb.map i64) (l.map (eW false)) (s.ends.map i64) (H.map i64) (x.loc.map i64) (x.mem.map i64) (x.told.map i64) (st.map i64)) = some r := fun {r} o11 hh => eG144_3 (bif_neg (ne_b o11) (hh))
  have N4 : ∀ {r : Res}, w.op ≠ 12 → Go.Tree.S cx 144 (G144_5 (i : Int) w.op w.n (w.tb.map i64) (l.map (eW false)) (s.ends.map i64) (H.map i64) (x.loc.map i64) (x.mem.map i64) (x.told.map i64) (st.map i64)) = some r → Go.Tree.S cx 144 (G144_4 (i : Int) w.op w.n (w.tb.map i64) (l.map (eW false)) (s.ends.map i64) (H.map i64) (x.loc.map i64) (x.mem.map i64) (x.told.map i64) (st.map i64)) = some r := fun {r} o12 hh => eG144_4 (bif_neg (ne_b o12) (hh))
  have N5 : ∀ {r : Res}, w.op ≠ 13 → w.op ≠ 14 → Go.Tree.S cx 144 (G144_6 (i : Int) w.op w.n (w.tb.map i64) (l.map (eW false)) (s.ends.map i64) (H.map i64) (x.loc.map i64) (x.mem.map i64) (x.told.map i64) (st.map i64)) = some r → Go.Tree.S cx 144 (G144_5 (i : Int) w.op w.n (w.tb.map i64) (l.map (eW false)) (s.ends.map i64) (H.map i64) (x.loc.map i64) (x.mem.map i64) (x.told.map i64) (st.map i64)) = some r := fun {r} o13 o14 hh => eG144_5 (bif_neg (ne_b o13) (bif_neg (ne_b o14) (hh)))
  have N6 : ∀ {r : Res}, w.op ≠ 17 → w.op ≠ 18 → Go.Tree.S cx 144 (G144_7 (i : Int) w.op w.n (w.tb.map i64) (l.map (eW false)) (s.ends.map i64) (H.map i64) (x.loc.map i64) (x.mem.map i64) (x.told.map i64) (st.map i64)) = some r → Go.Tree.S cx 144 (G144_6 (i : Int) w.op w.n (w.tb.map i64) (l.map (eW false)) (s.ends.map i64) (H.map i64) (x.loc.map i64) (x.mem.map i64) (x.told.map i64) (st.map i64)) = some r := fun {r} o17 o18 hh => eG144_6 (bif_neg (ne_b o17) (bif_neg (ne_b o18) (hh)))
  have N7 : ∀ {r : Res}, w.op ≠ 20 → w.op ≠ 21 → Go.Tree.S cx 144 (G144_8 (i : Int) w.op w.n (w.tb.map i64) (l.map (eW false)) (s.ends.map i64) (H.map i64) (x.loc.map i64) (x.mem.map i64) (x.told.map i64) (st.map i64)) = some r → Go.Tree.S cx 144 (G144_7 (i : Int) w.op w.n (w.tb.map i64) (l.map (eW false)) (s.ends.map i64) (H.map i64) (x.loc.map i64) (x.mem.map i64) (x.told.map i64) (st.map i64)) = some r := fun {r} o20 o21 hh => eG144_7 (bif_neg (ne_b o20) (bif_neg (ne_b o21) (hh)))
  have N8 : ∀ {r : Res}, w.op ≠ 22 → Go.Tree.S cx 144 (G144_0 w.op w.n (w.tb.map i64) (l.map (eW false)) (s.ends.map i64) (H.map i64) (x.loc.map i64) (x.mem.map i64) (x.told.map i64) (st.map i64) ((i + 1 : Nat) : Int)) = some r → Go.Tree.S cx 144 (G144_8 (i : Int) w.op w.n (w.tb.map i64) (l.map (eW false)) (s.ends.map i64) (H.map i64) (x.loc.map i64) (x.mem.map i64) (x.told.map i64) (st.map i64)) = some r := fun {r} o hh => eG144_8 (bif_neg (ne_b o) (by rw [hinc]; exact hh))
  have hlim : lim = 140737488355328 := rfl
  cases m with
  | c1 o =>
    refine e144 (ck_pos (dT2 ⟨by omega, by rw [List.length_map]; omega⟩) ?_)
    rw [getD_at hw, V3_S]
    refine bif_pos (eq_b o) (ck_pos (dT (by rw [hlim]; simp; omega)) ?_)
    rw [snocI, hinc]
    exact fin0 (by omega)
  | c2 o =>
    have hn : 0 ≤ w.n ∧ w.n ≤ 7 := by
      rcases hg with ⟨c, _⟩ | ⟨_, _, c⟩ <;> omega
    refine e144 (ck_pos (dT2 ⟨by omega, by rw [List.length_map]; omega⟩) ?_)
    rw [getD_at hw, V3_S]
    refine bif_neg (ne_b (by omega)) (bif_pos (eq_b o) (ck_pos (dT2 ⟨hn.1, by rw [List.length_map]; omega⟩) ?_))
    rw [rd_at hn.1 (by omega), S_int]
    refine ck_pos (dT (by rw [hlim]; simp; omega)) ?_
    rw [snocI, hinc]
    exact fin0 (by omega)
  | @c3 ys b o =>
    have hn : 0 ≤ w.n ∧ w.n ≤ 7 := by
      rcases hg with ⟨c, _⟩ | ⟨_, _, c⟩ <;> omega
    have hy : st'.length ≤ 1000 := by simp at hs4; omega
    refine N0 (by omega) (by omega) (?_)
    refine eG144_1 (bif_pos (eq_b o) ?_)
    rw [S_pop hy, initP hy]
    refine ck_pos (dT2 ⟨hn.1, by rw [List.length_map]; omega⟩) ?_
    rw [set_I, hinc]
    exact fin0 (by omega)
  | @c4 ys a b o =>
    have hy : ys.length ≤ 1000 := by simp at hs4; omega
    have hy2 : (ys ++ [a]).length ≤ 1000 := by simp at hs4 ⊢; omega
    simp only [twoP] at o
    refine N0 (by omega) (by omega) (N1 (by omega) (N2 (by omega) (N3 (by omega) (N4 (by omega) (N5 (by omega) (by omega) (N6 (by omega) (by omega) (N7 (by omega) (by omega) (?_))))))))
    refine N8 (by omega) (eG144_0 ?_)
    rw [NG144_0, C112_S (t112 _ _ _)]
    refine bif_pos (dT o) ?_
    rw [S_pop hy2, initP hy2, S_pop hy, initP hy, C153_S (t153 _ _ _)]
    refine ck_pos (dT (by rw [hlim]; simp; omega)) ?_
    rw [S_ret, snocI]
  | @c10 ys b o b0 b1 =>
    have hy : ys.length ≤ 1000 := by simp at hs4; omega
    refine N0 (by omega) (by omega) (N1 (by omega) (?_))
    refine eG144_2 (bif_pos (eq_b o) ?_)
    rw [S_pop hy, initP hy]
    refine bif_neg (dF (by omega)) (ck_pos (dT2 ⟨b0, by rw [List.length_map]; omega⟩) ?_)
    rw [rd_at b0 (by omega), S_int]
    refine ck_pos (dT (by rw [hlim]; simp at hs4 ⊢; omega)) ?_
    rw [snocI, hinc]
    exact fin0 (by omega)
  | @c10x ys b o b1 =>
    have hy : st'.length ≤ 1000 := by simp at hs4; omega
    refine N0 (by omega) (by omega) (N1 (by omega) (?_))
    refine eG144_2 (bif_pos (eq_b o) ?_)
    rw [S_pop hy, initP hy]
    refine bif_pos (dT (by omega)) ?_
    rw [S_ret, hinc]
  | @c11 ys a b o a0 a1 =>
    have hy : st'.length ≤ 1000 := by simp at hs4; omega
    have hy2 : (st' ++ [a]).length ≤ 1000 := by simp at hs4 ⊢; omega
    refine N0 (by omega) (by omega) (N1 (by omega) (N2 (by omega) (?_)))
    refine eG144_3 (bif_pos (eq_b o) ?_)
    rw [S_pop hy2, initP hy2, S_pop hy, initP hy]
    refine bif_neg (dF (by omega)) (ck_pos (dT2 ⟨a0, by rw [List.length_map]; omega⟩) ?_)
    rw [set_I, hinc]
    exact fin0 (by omega)
  | @c11x ys a b o a1 =>
    have hy : st'.length ≤ 1000 := by simp at hs4; omega
    have hy2 : (st' ++ [a]).length ≤ 1000 := by simp at hs4 ⊢; omega
    refine N0 (by omega) (by omega) (N1 (by omega) (N2 (by omega) (?_)))
    refine eG144_3 (bif_pos (eq_b o) ?_)
    rw [S_pop hy2, initP hy2, S_pop hy, initP hy]
    refine bif_pos (dT (by omega)) ?_
    rw [S_ret, hinc]
  | @c12 ys b o t1 =>
    have hy : st'.length ≤ 1000 := by simp at hs4; omega
    refine N0 (by omega) (by omega) (N1 (by omega) (N2 (by omega) (N3 (by omega) (?_))))
    refine eG144_4 (bif_pos (eq_b o) (bif_neg (ne_b (by rw [List.length_map]; omega)) ?_))
    rw [S_pop hy, initP hy]
    refine ck_pos (dT (by rw [hlim]; simp; omega)) ?_
    rw [snocI, hinc]
    exact fin0 (by omega)
  | @c12x ys b o t1 =>
    refine N0 (by omega) (by omega) (N1 (by omega) (N2 (by omega) (N3 (by omega) (?_))))
    refine eG144_4 (bif_pos (eq_b o) (bif_pos (eq_b (by rw [List.length_map]; omega)) ?_))
    rw [S_ret, hinc]
  | @c13 ys b o =>
    have hy : st'.length ≤ 1000 := by simp at hs4; omega
    refine N0 (by omega) (by omega) (N1 (by omega) (N2 (by omega) (N3 (by omega) (N4 (by omega) (?_)))))
    refine eG144_5 (bif_pos (eq_b o) ?_)
    rw [S_pop hy, initP hy, hinc]
    exact fin0 (by omega)
  | c14 o =>
    refine N0 (by omega) (by omega) (N1 (by omega) (N2 (by omega) (N3 (by omega) (N4 (by omega) (?_)))))
    refine eG144_5 (bif_neg (ne_b (by omega)) (bif_pos (eq_b o) ?_))
    rw [S_ret, hinc]
  | @c17n ys b o b0 =>
    have hy : st'.length ≤ 1000 := by simp at hs4; omega
    refine N0 (by omega) (by omega) (N1 (by omega) (N2 (by omega) (N3 (by omega) (N4 (by omega) (N5 (by omega) (by omega) (?_))))))
    refine eG144_6 (bif_pos (eq_b o) ?_)
    rw [S_pop hy, initP hy]
    refine bif_neg (ne_b b0) ?_
    rw [hinc]
    exact fin0 (by omega)
  | @c17o ys o' o p1 p2 p3 =>
    have h17 : opAt l i = 17 := by rw [opAt_of hw]; exact o
    have hse := h.ShS.e
    have hy : st'.length ≤ 1000 := by simp at hs4; omega
    refine N0 (by omega) (by omega) (N1 (by omega) (N2 (by omega) (N3 (by omega) (N4 (by omega) (N5 (by omega) (by omega) (?_))))))
    refine eG144_6 (bif_pos (eq_b o) ?_)
    rw [S_pop hy, initP hy]
    refine bif_pos rfl (ck_pos (dT2 ⟨by omega, by rw [List.length_map]; omega⟩) ?_)
    rw [getD_g (by omega), S_int, C174_S (t174 h h17), if_pos (by omega), p1, inc64 p2 (by omega)]
    refine bif_pos (dT (by omega)) ?_
    exact fin0 (by omega)
  | @c17e ys e o p1 p2 p3 =>
    have h17 : opAt l i = 17 := by rw [opAt_of hw]; exact o
    have hse := h.ShS.e
    have hy : st'.length ≤ 1000 := by simp at hs4; omega
    refine N0 (by omega) (by omega) (N1 (by omega) (N2 (by omega) (N3 (by omega) (N4 (by omega) (N5 (by omega) (by omega) (?_))))))
    refine eG144_6 (bif_pos (eq_b o) ?_)
    rw [S_pop hy, initP hy]
    refine bif_pos rfl (ck_pos (dT2 ⟨by omega, by rw [List.length_map]; omega⟩) ?_)
    rw [getD_g (by omega), S_int, C174_S (t174 h h17), if_neg (by omega), p2, inc64 p3 (by omega)]
    refine bif_neg (dF (by omega)) ?_
    exact fin0 (by omega)
  | @c18 st e o p1 p2 =>
    have hse := h.ShS.e
    refine N0 (by omega) (by omega) (N1 (by omega) (N2 (by omega) (N3 (by omega) (N4 (by omega) (N5 (by omega) (by omega) (?_))))))
    refine eG144_6 (bif_neg (ne_b (by omega)) (bif_pos (eq_b o) (ck_pos (dT2 ⟨by omega, by rw [List.length_map]; omega⟩) ?_)))
    rw [getD_g (by omega), S_int, p1, inc64 p2 (by omega)]
    exact fin0 (by omega)
  | @c20 st d o p1 p2 =>
    refine N0 (by omega) (by omega) (N1 (by omega) (N2 (by omega) (N3 (by omega) (N4 (by omega) (N5 (by omega) (by omega) (N6 (by omega) (by omega) (?_)))))))
    refine eG144_7 (bif_pos (eq_b o) ?_)
    rw [p1, C175_S (t175 h hw hd p2 x st _ (by omega))]
    exact fin0 (by omega)
  | @c21 ys b d o b0 p1 p2 =>
    have hy : ys.length ≤ 1000 := by simp at hs4; omega
    have ho1 : offV w.op = 1 := by rw [o]; rfl
    refine N0 (by omega) (by omega) (N1 (by omega) (N2 (by omega) (N3 (by omega) (N4 (by omega) (N5 (by omega) (by omega) (N6 (by omega) (by omega) (?_)))))))
    refine eG144_7 (bif_neg (ne_b (by omega)) (bif_pos (eq_b o) ?_))
    rw [S_pop hy, initP hy]
    refine bif_pos (bne_iff_ne.2 b0) ?_
    rw [p1, C175_S (t175 h hw hd p2 x ys _ (by simp at jlen; omega))]
    exact fin0 (by omega)
  | @c21n ys o =>
    have hy : st'.length ≤ 1000 := by simp at hs4; omega
    refine N0 (by omega) (by omega) (N1 (by omega) (N2 (by omega) (N3 (by omega) (N4 (by omega) (N5 (by omega) (by omega) (N6 (by omega) (by omega) (?_)))))))
    refine eG144_7 (bif_neg (ne_b (by omega)) (bif_pos (eq_b o) ?_))
    rw [S_pop hy, initP hy, hinc]
    exact bif_neg rfl (fin0 (by omega))
  | @c22 ys b d o p1 p2 =>
    have hy : ys.length ≤ 1000 := by simp at hs4; omega
    have ho1 : offV w.op = 1 := by rw [o]; rfl
    have hG : Go.Tree.S cx 144 (G144_9 i w.op w.n (w.tb.map i64) d (l.map (eW false)) (s.ends.map i64) (H.map i64) (x.loc.map i64) (x.mem.map i64) (x.told.map i64) (ys.map i64)) = some ([tb true], [eM l s H x (jS l s i d ys) (jT l s i d)]) := by
      refine eG144_9 ?_
      rw [NG144_9, C175_S (t175 h hw hd p2 x ys _ (by simp at jlen; omega))]
      exact fin0 (by omega)
    refine N0 (by omega) (by omega) (N1 (by omega) (N2 (by omega) (N3 (by omega) (N4 (by omega) (N5 (by omega) (by omega) (N6 (by omega) (by omega) (N7 (by omega) (by omega) (?_))))))))
    refine eG144_8 (bif_pos (eq_b o) ?_)
    rw [S_pop hy, initP hy]
    by_cases c : b < w.tb.length
    · rw [if_pos c] at p1
      refine bif_pos (dT (by rw [List.length_map]; omega)) (ck_pos (dT2 ⟨by omega, by rw [List.length_map]; omega⟩) ?_)
      rw [rd_at (by omega) (by omega), S_int, rdV, Int.toNat_natCast, p1]
      exact hG
    · rw [if_neg c] at p1
      refine bif_neg (dF (by rw [List.length_map]; omega)) ?_
      rw [← p1] at hG
      exact hG
  | c0 o =>
    refine N0 (by omega) (by omega) (N1 (by omega) (N2 (by omega) (N3 (by omega) (N4 (by omega) (N5 (by omega) (by omega) (N6 (by omega) (by omega) (N7 (by omega) (by omega) (?_))))))))
    exact N8 (by omega) (fin0 (by omega))
end
end Go.Tree.M

/- The program's machine: a step. -/
namespace Go.Tree.M
open Go.Proofs
set_option linter.unusedVariables false
set_option linter.unusedSimpArgs false
section
variable {l : List W} {s : Sh} {H : List Int} {ds : List Bool} {bs : List Int} {c p : Int}
theorem fin6 {ok : Bool} {r0 r1 r2 r3 r4 r5 r6 r9 r10 r11 r12 : List TV} {r7 r8 r13 : Int} : Go.Tree.S cx 146 (G146_0 ok r0 r1 r2 r3 r4 r5 r6 r7 r8 r9 r10 r11 r12 r13) = some ([tb ok], [.pt false () (.st [.pt false () (.st [.pt false () (.st [sl true ⟨3, true⟩ r0, sl false ⟨1, false⟩ r1, sl false ⟨1, false⟩ r2, sl false ⟨1, true⟩ r3]), sl false ⟨1, false⟩ r4, sl false ⟨1, false⟩ r5, sl false ⟨1, false⟩ r6, i64 r7, i64 r8]), .st [sl false ⟨1, false⟩ r9, sl false ⟨1, false⟩ r10, sl false ⟨1, false⟩ r11], sl false ⟨1, false⟩ r12, i64 r13])]) := eG146_0 S_ret
set_option maxHeartbeats 2000000 in
theorem t180 (h : Val l s H) {i : Nat} {x : Sx} {st : List Int} (j : J l s i x st) {w : W} (hw : l[i]? = some w) {ok : Bool} {st' : List Int} {a : Nat} {x' : Sx} (m : Mv l s i w x st ok st' a x') (ho : 15 ≤ w.op) :
    tw cx 180 [eR l s H ds bs c p x st ((i + 1 : Nat) : Int), i64 i, eW true w] = some ([], [eR l s H ds bs c p x' st' a]) := by
  obtain ⟨hi, h60, hs4, hg, hd, hoff⟩ := h.facts j hw
  have jlen := j.len
  have hse := h.ShS.e
  have hso := h.ShS.o
  refine e180 ?_
  rw [N180]
  cases m with
  | c1 o => omega
  | c2 o => omega
  | c3 o => omega
  | c4 o => simp only [twoP] at o; omega
  | c10 o => omega
  | c10x o => omega
  | c11 o => omega
  | c11x o => omega
  | c12 o => omega
  | c12x o => omega
  | c13 o => omega
  | c14 o => omega
  | @c17n ys b o b0 =>
    have hy : st'.length ≤ 1000 := by simp at hs4; omega
    refine bif_pos (eq_b o) ?_
    rw [S_pop hy, initP hy]
    refine bif_pos (bne_iff_ne.2 b0) S_ret
  | @c17o ys o' o p1 p2 p3 =>
    have hy : st'.length ≤ 1000 := by simp at hs4; omega
    refine bif_pos (eq_b o) ?_
    rw [S_pop hy, initP hy]
    refine bif_neg rfl (ck_pos (dT2 ⟨by omega, by rw [List.length_map]; omega⟩) ?_)
    rw [getD_g (by omega), S_int]
    refine ck_pos (dT2 ⟨by omega, by rw [List.length_map]; omega⟩) ?_
    rw [getD_g (by omega), S_int, p1]
    refine bif_pos (dT (by omega)) (ck_pos (dT2 ⟨by omega, by rw [List.length_map]; omega⟩) ?_)
    rw [S_int, inc64 p2 (by omega), S_ret]
  | @c17e ys e o p1 p2 p3 =>
    have hy : st'.length ≤ 1000 := by simp at hs4; omega
    refine bif_pos (eq_b o) ?_
    rw [S_pop hy, initP hy]
    refine bif_neg rfl (ck_pos (dT2 ⟨by omega, by rw [List.length_map]; omega⟩) ?_)
    rw [getD_g (by omega), S_int]
    refine ck_pos (dT2 ⟨by omega, by rw [List.length_map]; omega⟩) ?_
    rw [getD_g (by omega), S_int]
    refine bif_neg (dF (by omega)) ?_
    rw [S_ret, p2, inc64 p3 (by omega)]
  | @c18 st e o p1 p2 =>
    refine bif_neg (ne_b (by omega)) (bif_pos (eq_b o) (ck_pos (dT2 ⟨by omega, by rw [List.length_map]; omega⟩) ?_))
    rw [getD_g (by omega), S_int, p1, inc64 p2 (by omega), S_ret]
  | @c20 st d o p1 p2 =>
    refine bif_neg (ne_b (by omega)) (bif_neg (ne_b (by omega)) (bif_pos (eq_b o) ?_))
    rw [p1, C195_S (t195 h hw hd p2 ds bs c p x st _ (by omega)), S_ret]
  | @c21 ys b d o b0 p1 p2 =>
    have hy : ys.length ≤ 1000 := by simp at hs4; omega
    have ho1 : offV w.op = 1 := by rw [o]; rfl
    refine bif_neg (ne_b (by omega)) (bif_neg (ne_b (by omega)) (bif_neg (ne_b (by omega)) (bif_pos (eq_b o) ?_)))
    rw [S_pop hy, initP hy]
    refine bif_pos (bne_iff_ne.2 b0) ?_
    rw [p1, C195_S (t195 h hw hd p2 ds bs c p x ys _ (by simp at jlen; omega)), S_ret]
  | @c21n ys o =>
    have hy : st'.length ≤ 1000 := by simp at hs4; omega
    refine bif_neg (ne_b (by omega)) (bif_neg (ne_b (by omega)) (bif_neg (ne_b (by omega)) (bif_pos (eq_b o) ?_)))
    rw [S_pop hy, initP hy]
    exact bif_neg rfl S_ret
  | @c22 ys b d o p1 p2 =>
    have hy : ys.length ≤ 1000 := by simp at hs4; omega
    have ho1 : offV w.op = 1 := by rw [o]; rfl
    have hG : Go.Tree.S cx 180 (G180_0 i d (l.map (eW false)) (s.ends.map i64) (s.other.map i64) (s.opens.map rowN) (H.map i64) (ds.map tb) (bs.map i64) c p (x.loc.map i64) (x.mem.map i64) (x.told.map i64) (ys.map i64) ((i + 1 : Nat) : Int)) = some ([], [eR l s H ds bs c p x (jS l s i d ys) (jT l s i d)]) := by
      refine eG180_0 ?_
      rw [NG180_0, C195_S (t195 h hw hd p2 ds bs c p x ys _ (by simp at jlen; omega)), S_ret]
    refine bif_neg (ne_b (by omega)) (bif_neg (ne_b (by omega)) (bif_neg (ne_b (by omega)) (bif_neg (ne_b (by omega)) (bif_pos (eq_b o) ?_))))
    rw [S_pop hy, initP hy]
    by_cases cb : b < w.tb.length
    · rw [if_pos cb] at p1
      refine bif_pos (dT (by rw [List.length_map]; omega)) (ck_pos (dT2 ⟨by omega, by rw [List.length_map]; omega⟩) ?_)
      rw [rd_at (by omega) (by omega), S_int, rdV, Int.toNat_natCast, p1]
      exact hG
    · rw [if_neg cb] at p1
      refine bif_neg (dF (by rw [List.length_map]; omega)) ?_
      rw [← p1] at hG
      exact hG
  | c0 o =>
    exact bif_neg (ne_b (by omega)) (bif_neg (ne_b (by omega)) (bif_neg (ne_b (by omega)) (bif_neg (ne_b (by omega)) (bif_neg (ne_b (by omega)) S_ret))))
set_option maxHeartbeats 2000000 in
theorem t146 (h : Val l s H) {i : Nat} {x : Sx} {st : List Int} (j : J l s i x st) {w : W} (hw : l[i]? = some w) {ok : Bool} {st' : List Int} {a : Nat} {x' : Sx} (m : Mv l s i w x st ok st' a x') :
    ∃ st'', tw cx 146 [eR l s H ds bs c p x st i] = some ([tb ok], [eR l s H ds bs c p x' st'' a]) ∧ (ok = true → st'' = st') := by
  obtain ⟨hi, h60, hs4, hg, hd, hoff⟩ := h.facts j hw
  obtain ⟨sl', sm', sd', _, _, _⟩ := j.sp
  have hinc : w64 ((i : Int) + 1) = ((i + 1 : Nat) : Int) := inc64 hi (by omega)
  have hlim : lim = 140737488355328 := rfl
  have jump : 15 ≤ w.op → ∀ st'' : List Int, ∀ x'' : Sx, ∀ a'' : Nat, tw cx 180 [eR l s H ds bs c p x st ((i + 1 : Nat) : Int), i64 i, eW true w] = some ([], [eR l s H ds bs c p x'' st'' a'']) → tw cx 146 [eR l s H ds bs c p x st i] = some ([tb true], [eR l s H ds bs c p x'' st'' a'']) := fun ho st'' x'' a'' ht => by
    refine e146 (ck_pos (dT2 ⟨by omega, by rw [List.length_map]; omega⟩) ?_)
    rw [getD_at hw, V3_S]
    refine bif_neg (ne_b (by omega)) (bif_neg (ne_b (by omega)) (bif_neg (ne_b (by omega)) ?_))
    rw [C179_S (t179 _)]
    refine bif_neg (dF (by simp only [twoP]; omega)) (bif_neg (ne_b (by omega)) (bif_neg (ne_b (by omega)) (bif_neg (ne_b (by omega)) (bif_neg (ne_b (by omega)) (bif_neg (ne_b (by omega)) ?_)))))
    rw [hinc, C180_S ht]
    exact fin6
  by_cases hb : 15 ≤ w.op
  · have hok : ok = true := by
      cases m with
      | c4 o => simp only [twoP] at o; omega
      | _ => first | rfl | omega
    subst hok
    exact ⟨st', jump hb _ _ _ (t180 h j hw m hb), fun _ => rfl⟩
  cases m with
  | c1 o =>
    refine ⟨_, ?_, fun _ => rfl⟩
    refine e146 (ck_pos (dT2 ⟨by omega, by rw [List.length_map]; omega⟩) ?_)
    rw [getD_at hw, V3_S]
    refine bif_pos (eq_b o) (ck_pos (dT (by rw [hlim]; simp; omega)) ?_)
    rw [snocI, hinc]
    exact fin6
  | c2 o =>
    have hn : 0 ≤ w.n ∧ w.n ≤ 7 := by
      rcases hg with ⟨c, _⟩ | ⟨_, _, c⟩ <;> omega
    refine ⟨_, ?_, fun _ => rfl⟩
    refine e146 (ck_pos (dT2 ⟨by omega, by rw [List.length_map]; omega⟩) ?_)
    rw [getD_at hw, V3_S]
    refine bif_neg (ne_b (by omega)) (bif_pos (eq_b o) (ck_pos (dT2 ⟨hn.1, by rw [List.length_map]; omega⟩) ?_))
    rw [rd_at hn.1 (by omega), S_int]
    refine ck_pos (dT (by rw [hlim]; simp; omega)) ?_
    rw [snocI, hinc]
    exact fin6
  | @c3 ys b o =>
    have hn : 0 ≤ w.n ∧ w.n ≤ 7 := by
      rcases hg with ⟨c, _⟩ | ⟨_, _, c⟩ <;> omega
    have hy : st'.length ≤ 1000 := by simp at hs4; omega
    refine ⟨st', ?_, fun _ => rfl⟩
    refine e146 (ck_pos (dT2 ⟨by omega, by rw [List.length_map]; omega⟩) ?_)
    rw [getD_at hw, V3_S]
    refine bif_neg (ne_b (by omega)) (bif_neg (ne_b (by omega)) (bif_pos (eq_b o) ?_))
    have h0 : Go.Tree.S cx 146 (N146_s0 (l.map (eW false)) (s.ends.map i64) (s.other.map i64) (s.opens.map rowN) (H.map i64) (ds.map tb) (bs.map i64) c p (x.loc.map i64) (x.mem.map i64) (x.told.map i64) ((st' ++ [b]).map i64) i w.n) = some ([tb true], [eR l s H ds bs c p ⟨x.loc.set w.n.toNat b, x.mem, x.told⟩ st' ((i + 1 : Nat) : Int)]) := by
      rw [N146_s0, S_pop hy, initP hy]
      refine ck_pos (dT2 ⟨hn.1, by rw [List.length_map]; omega⟩) ?_
      rw [set_I, hinc]
      exact fin6
    exact S_amb3 (S_amb2 h0 h0) (S_amb2 h0 h0) h0
  | @c4 ys a b o =>
    have hy : ys.length ≤ 1000 := by simp at hs4; omega
    have hy2 : (ys ++ [a]).length ≤ 1000 := by simp at hs4 ⊢; omega
    have o' := o
    simp only [twoP] at o
    refine ⟨_, ?_, fun _ => rfl⟩
    refine e146 (ck_pos (dT2 ⟨by omega, by rw [List.length_map]; omega⟩) ?_)
    rw [getD_at hw, V3_S]
    refine bif_neg (ne_b (by omega)) (bif_neg (ne_b (by omega)) (bif_neg (ne_b (by omega)) (?_)))
    rw [C179_S (t179 _)]
    refine bif_pos (dT o') ?_
    rw [S_pop hy2]
    have h2 : Go.Tree.S cx 146 (N146_s2 (l.map (eW false)) (s.ends.map i64) (s.other.map i64) (s.opens.map rowN) (H.map i64) (ds.map tb) (bs.map i64) c p (x.loc.map i64) (x.mem.map i64) (x.told.map i64) ((ys ++ [a] ++ [b]).map i64) i w.op b) = some ([tb (doV w.op a b).2], [eR l s H ds bs c p x (ys ++ [(doV w.op a b).1]) ((i + 1 : Nat) : Int)]) := by
      rw [N146_s2, initP hy2, S_pop hy, initP hy, C130_S (t130 _ _ _)]
      refine ck_pos (dT (by rw [hlim]; simp; omega)) ?_
      rw [snocI, hinc]
      exact fin6
    exact S_amb2 h2 h2
  | @c10 ys b o b0 b1 =>
    have hy : ys.length ≤ 1000 := by simp at hs4; omega
    refine ⟨_, ?_, fun _ => rfl⟩
    refine e146 (ck_pos (dT2 ⟨by omega, by rw [List.length_map]; omega⟩) ?_)
    rw [getD_at hw, V3_S]
    refine bif_neg (ne_b (by omega)) (bif_neg (ne_b (by omega)) (bif_neg (ne_b (by omega)) (?_)))
    rw [C179_S (t179 _)]
    refine bif_neg (dF (by simp only [twoP]; omega)) (bif_pos (eq_b o) ?_)
    rw [S_pop hy, initP hy]
    refine bif_neg (dF (by omega)) (ck_pos (dT2 ⟨b0, by rw [List.length_map]; omega⟩) ?_)
    rw [rd_at b0 (by omega), S_int]
    refine ck_pos (dT (by rw [hlim]; simp at hs4 ⊢; omega)) ?_
    rw [snocI, hinc]
    exact fin6
  | @c10x ys b o b1 =>
    have hy : st'.length ≤ 1000 := by simp at hs4; omega
    refine ⟨st' ++ [0], ?_, fun q => by cases q⟩
    refine e146 (ck_pos (dT2 ⟨by omega, by rw [List.length_map]; omega⟩) ?_)
    rw [getD_at hw, V3_S]
    refine bif_neg (ne_b (by omega)) (bif_neg (ne_b (by omega)) (bif_neg (ne_b (by omega)) (?_)))
    rw [C179_S (t179 _)]
    refine bif_neg (dF (by simp only [twoP]; omega)) (bif_pos (eq_b o) ?_)
    rw [S_pop hy, initP hy]
    refine bif_pos (dT (by omega)) (ck_pos (dT (by rw [hlim]; simp at hs4 ⊢; omega)) ?_)
    rw [snocI, hinc]
    exact fin6
  | @c11 ys a b o a0 a1 =>
    have hy : st'.length ≤ 1000 := by simp at hs4; omega
    have hy2 : (st' ++ [a]).length ≤ 1000 := by simp at hs4 ⊢; omega
    refine ⟨st', ?_, fun _ => rfl⟩
    refine e146 (ck_pos (dT2 ⟨by omega, by rw [List.length_map]; omega⟩) ?_)
    rw [getD_at hw, V3_S]
    refine bif_neg (ne_b (by omega)) (bif_neg (ne_b (by omega)) (bif_neg (ne_b (by omega)) (?_)))
    rw [C179_S (t179 _)]
    refine bif_neg (dF (by simp only [twoP]; omega)) (bif_neg (ne_b (by omega)) (bif_pos (eq_b o) ?_))
    rw [S_pop hy2, initP hy2, S_pop hy, initP hy]
    refine bif_neg (dF (by omega)) (ck_pos (dT2 ⟨a0, by rw [List.length_map]; omega⟩) ?_)
    rw [set_I, hinc]
    exact fin6
  | @c11x ys a b o a1 =>
    have hy : st'.length ≤ 1000 := by simp at hs4; omega
    have hy2 : (st' ++ [a]).length ≤ 1000 := by simp at hs4 ⊢; omega
    refine ⟨st', ?_, fun _ => rfl⟩
    refine e146 (ck_pos (dT2 ⟨by omega, by rw [List.length_map]; omega⟩) ?_)
    rw [getD_at hw, V3_S]
    refine bif_neg (ne_b (by omega)) (bif_neg (ne_b (by omega)) (bif_neg (ne_b (by omega)) (?_)))
    rw [C179_S (t179 _)]
    refine bif_neg (dF (by simp only [twoP]; omega)) (bif_neg (ne_b (by omega)) (bif_pos (eq_b o) ?_))
    rw [S_pop hy2, initP hy2, S_pop hy, initP hy]
    refine bif_pos (dT (by omega)) ?_
    rw [hinc]
    exact fin6
  | @c12 ys b o t1 =>
    have hy : st'.length ≤ 1000 := by simp at hs4; omega
    refine ⟨st', ?_, fun _ => rfl⟩
    refine e146 (ck_pos (dT2 ⟨by omega, by rw [List.length_map]; omega⟩) ?_)
    rw [getD_at hw, V3_S]
    refine bif_neg (ne_b (by omega)) (bif_neg (ne_b (by omega)) (bif_neg (ne_b (by omega)) (?_)))
    rw [C179_S (t179 _)]
    refine bif_neg (dF (by simp only [twoP]; omega)) (bif_neg (ne_b (by omega)) (bif_neg (ne_b (by omega)) (bif_pos (eq_b o) ?_)))
    rw [S_pop hy, initP hy]
    refine bif_neg (ne_b (by rw [List.length_map]; omega)) (ck_pos (dT (by rw [hlim]; simp; omega)) ?_)
    rw [snocI, hinc]
    exact fin6
  | @c12x ys b o t1 =>
    have hy : ys.length ≤ 1000 := by simp at hs4; omega
    refine ⟨ys, ?_, fun q => by cases q⟩
    refine e146 (ck_pos (dT2 ⟨by omega, by rw [List.length_map]; omega⟩) ?_)
    rw [getD_at hw, V3_S]
    refine bif_neg (ne_b (by omega)) (bif_neg (ne_b (by omega)) (bif_neg (ne_b (by omega)) (?_)))
    rw [C179_S (t179 _)]
    refine bif_neg (dF (by simp only [twoP]; omega)) (bif_neg (ne_b (by omega)) (bif_neg (ne_b (by omega)) (bif_pos (eq_b o) ?_)))
    rw [S_pop hy, initP hy]
    refine bif_pos (eq_b (by rw [List.length_map]; omega)) ?_
    rw [hinc]
    exact fin6
  | @c13 ys b o =>
    have hy : st'.length ≤ 1000 := by simp at hs4; omega
    refine ⟨st', ?_, fun _ => rfl⟩
    refine e146 (ck_pos (dT2 ⟨by omega, by rw [List.length_map]; omega⟩) ?_)
    rw [getD_at hw, V3_S]
    refine bif_neg (ne_b (by omega)) (bif_neg (ne_b (by omega)) (bif_neg (ne_b (by omega)) (?_)))
    rw [C179_S (t179 _)]
    refine bif_neg (dF (by simp only [twoP]; omega)) (bif_neg (ne_b (by omega)) (bif_neg (ne_b (by omega)) (bif_neg (ne_b (by omega)) (bif_pos (eq_b o) ?_))))
    rw [S_pop hy, initP hy, hinc]
    exact fin6
  | c14 o =>
    refine ⟨st, ?_, fun _ => rfl⟩
    refine e146 (ck_pos (dT2 ⟨by omega, by rw [List.length_map]; omega⟩) ?_)
    rw [getD_at hw, V3_S]
    refine bif_neg (ne_b (by omega)) (bif_neg (ne_b (by omega)) (bif_neg (ne_b (by omega)) (?_)))
    rw [C179_S (t179 _)]
    refine bif_neg (dF (by simp only [twoP]; omega)) (bif_neg (ne_b (by omega)) (bif_neg (ne_b (by omega)) (bif_neg (ne_b (by omega)) (bif_neg (ne_b (by omega)) (bif_pos (eq_b o) ?_)))))
    rw [hinc]
    exact fin6
  | c17n o => omega
  | c17o o => omega
  | c17e o => omega
  | c18 o => omega
  | c20 o => omega
  | c21 o => omega
  | c21n o => omega
  | c22 o => omega
  | c0 o => omega
end
end Go.Tree.M

/- Whole runs. -/
namespace Go.Tree.M
open Go.Proofs
set_option linter.unusedVariables false
set_option linter.unusedSimpArgs false
/-- A run: from where, what is done; its end. -/
inductive Rn (l : List W) (s : Sh) (F : Nat) : Nat → Sx → List Int → List Int → Int → Sx → List Int → Prop
  | off {i : Nat} {x : Sx} {st done : List Int} : l.length ≤ i → Rn l s F i x st done 1 x done
  | out {i : Nat} {x : Sx} {st done : List Int} : i < l.length → done.length = F → Rn l s F i x st done 3 x done
  | trap {i : Nat} {x : Sx} {st done : List Int} {w : W} {st' : List Int} {a : Nat} : i < l.length → done.length < F → l[i]? = some w → J l s i x st → Mv l s i w x st false st' a x → Rn l s F i x st done 2 x (done ++ [(i : Int)])
  | step {i : Nat} {x : Sx} {st done : List Int} {w : W} {st' : List Int} {a : Nat} {x' : Sx} {c : Int} {xf : Sx} {df : List Int} : i < l.length → done.length < F → l[i]? = some w → J l s i x st → Mv l s i w x st true st' a x' → Rn l s F a x' st' (done ++ [(i : Int)]) c xf df → Rn l s F i x st done c xf df
section
variable {l : List W} {s : Sh} {H : List Int}
theorem run_ex (h : Val l s H) {F : Nat} : ∀ (d i : Nat) (x : Sx) (st done : List Int), F - done.length = d → done.length ≤ F → J l s i x st → ∃ c xf df, Rn l s F i x st done c xf df ∧ stateP xf ∧ (c = 1 ∨ c = 2 ∨ c = 3) ∧ df.length ≤ F := fun d => by
  induction d with
  | zero =>
    intro i x st done hd hF j
    rcases Nat.lt_or_ge i l.length with c | c
    · exact ⟨_, _, _, .out c (by omega), j.sp, .inr (.inr rfl), hF⟩
    · exact ⟨_, _, _, .off c, j.sp, .inl rfl, hF⟩
  | succ d ih =>
    intro i x st done hd hF j
    rcases Nat.lt_or_ge i l.length with c | c
    · obtain ⟨w, hw⟩ := at_some c
      obtain ⟨ok, st', a, x', m, m1, m2⟩ := go h j hw
      cases ok with
      | true =>
        obtain ⟨cc, xf, df, r, r1, r2, r3⟩ := ih a x' st' (done ++ [(i : Int)]) (by simp; omega) (by simp; omega) (m1 rfl)
        exact ⟨cc, xf, df, .step c (by omega) hw j m r, r1, r2, r3⟩
      | false =>
        have e := m2 rfl
        subst e
        exact ⟨_, _, _, .trap c (by omega) hw j m, j.sp, .inr (.inl rfl), by simp; omega⟩
    · exact ⟨_, _, _, .off c, j.sp, .inl rfl, hF⟩
theorem lim_done {done : List Int} {F : Nat} {y : Int} (h : done.length < F) (hF : F ≤ 2000) : decide (((done.map i64).length + ([i64 y] : List TV).length) * 8 < lim) = true := dT (by have hlim : lim = 140737488355328 := rfl; rw [hlim]; simp; omega)
theorem loop103 (h : Val l s H) {F : Nat} (hF : F ≤ 2000) {i : Nat} {x : Sx} {st done : List Int} {c : Int} {xf : Sx} {df : List Int} (r : Rn l s F i x st done c xf df) :
    Go.Tree.S cx 103 (H103_1 (l.map (eW false)) F (l.map (eW false)) (s.ends.map i64) (H.map i64) (x.loc.map i64) (x.mem.map i64) (x.told.map i64) (st.map i64) i (done.map i64)) = some ([eS false xf, i64 c, rI false df], []) := by
  induction r with
  | off c =>
    refine eH103_1 (bif_neg (dF (by rw [List.length_map]; omega)) ?_)
    rw [S_ret]
  | out c1 c2 =>
    refine eH103_1 (bif_pos (dT (by rw [List.length_map]; omega)) (bif_pos (eq_b (by rw [List.length_map]; omega)) ?_))
    rw [S_ret]
  | trap c1 c2 hw j m =>
    refine eH103_1 (bif_pos (dT (by rw [List.length_map]; omega)) (bif_neg (ne_b (by rw [List.length_map]; omega)) (ck_pos (lim_done c2 hF) ?_)))
    rw [C144_S (t144 h j hw m)]
    refine bif_pos rfl ?_
    rw [S_ret, snocI]
  | step c1 c2 hw j m r ih =>
    refine eH103_1 (bif_pos (dT (by rw [List.length_map]; omega)) (bif_neg (ne_b (by rw [List.length_map]; omega)) (ck_pos (lim_done c2 hF) ?_)))
    rw [C144_S (t144 h j hw m)]
    refine bif_neg rfl (back_of ?_)
    rw [snocI]
    exact ih
theorem loop106 (h : Val l s H) {ds : List Bool} {bs : List Int} {cd p : Int} {F : Nat} (hF : F ≤ 2000) {i : Nat} {x : Sx} {st done : List Int} {c : Int} {xf : Sx} {df : List Int} (r : Rn l s F i x st done c xf df) :
    ∃ (sf : List Int) (af : Int), Go.Tree.S cx 106 (H106_0 F (done.map i64) (l.map (eW false)) (s.ends.map i64) (s.other.map i64) (s.opens.map rowN) (H.map i64) (ds.map tb) (bs.map i64) cd p (x.loc.map i64) (x.mem.map i64) (x.told.map i64) (st.map i64) i) = some ([i64 c, rI false df], [eR l s H ds bs cd p xf sf af]) := by
  induction r with
  | @off i x st done c =>
    refine ⟨st, i, eH106_0 (bif_neg (dF (by rw [List.length_map]; omega)) ?_)⟩
    rw [S_ret]
  | @out i x st done c1 c2 =>
    refine ⟨st, i, eH106_0 (bif_pos (dT (by rw [List.length_map]; omega)) (bif_pos (eq_b (by rw [List.length_map]; omega)) ?_))⟩
    rw [S_ret]
  | @trap i x st done w st' a c1 c2 hw j m =>
    obtain ⟨st'', t, _⟩ := t146 (ds := ds) (bs := bs) (c := cd) (p := p) h j hw m
    refine ⟨st'', a, eH106_0 (bif_pos (dT (by rw [List.length_map]; omega)) (bif_neg (ne_b (by rw [List.length_map]; omega)) (ck_pos (lim_done c2 hF) ?_)))⟩
    rw [C146_S t]
    refine bif_pos rfl ?_
    rw [S_ret, snocI]
  | step c1 c2 hw j m r ih =>
    obtain ⟨sf, af, ih⟩ := ih
    obtain ⟨st'', t, e⟩ := t146 (ds := ds) (bs := bs) (c := cd) (p := p) h j hw m
    have e := e rfl
    subst e
    refine ⟨sf, af, eH106_0 (bif_pos (dT (by rw [List.length_map]; omega)) (bif_neg (ne_b (by rw [List.length_map]; omega)) (ck_pos (lim_done c2 hF) ?_)))⟩
    rw [C146_S t]
    refine bif_neg rfl (back_of ?_)
    rw [snocI]
    exact ih
theorem j0 (h : Val l s H) {x : Sx} (hx : stateP x) : J l s 0 x [] := ⟨Nat.zero_le _, rfl, fun _ => rfl, fun y hy => by (cases hy), hx⟩
end
def fuelP (n : Int) : Prop := 0 ≤ n ∧ n ≤ 2000
instance (n : Int) : Decidable (fuelP n) := by unfold fuelP; infer_instance
/-- What both machines answer. -/
inductive Ans (l : List W) (x : Sx) (F : Int) : Option (Sx × Int × List Int) → Prop
  | bad : ¬ ((validV l).isSome ∧ stateP x ∧ fuelP F) → Ans l x F none
  | run {s : Sh} {H : List Int} {D : List Bool} {f : Nat} {c : Int} {xf : Sx} {df : List Int} : validV l = some (s, H, D) → stateP x → F = f → f ≤ 2000 → Rn l s f 0 x [] [] c xf df → stateP xf → (c = 1 ∨ c = 2 ∨ c = 3) → df.length ≤ f → Ans l x F (some (xf, c, df))
theorem ans_ex (l : List W) (x : Sx) (F : Int) : ∃ r, Ans l x F r := by
  by_cases c : (validV l).isSome ∧ stateP x ∧ fuelP F
  · obtain ⟨c1, c2, c3, c4⟩ := c
    obtain ⟨⟨s, H, D⟩, hv⟩ := Option.isSome_iff_exists.1 c1
    obtain ⟨f, rfl⟩ : ∃ f : Nat, F = f := ⟨F.toNat, by omega⟩
    have h := val_of hv
    obtain ⟨cc, xf, df, r, r1, r2, r3⟩ := run_ex h (F := f) f 0 x [] [] rfl (Nat.zero_le _) (j0 h c2)
    exact ⟨_, .run hv c2 rfl (by omega) r r1 r2 r3⟩
  · exact ⟨none, .bad c⟩
theorem stateP_small {x : Sx} (h : stateP x) : smallS x := by
  obtain ⟨h1, h2, h3, _⟩ := h
  have hb : big = 1073741824 := rfl
  exact ⟨by omega, by omega, by omega⟩
theorem t103 {l : List W} (hl : smallL l) {s : Sh} {H : List Int} {D : List Bool} (hv : validV l = some (s, H, D)) {x : Sx} (hx : stateP x) {f : Nat} (hf : f ≤ 2000) {c : Int} {xf : Sx} {df : List Int} (r : Rn l s f 0 x [] [] c xf df) (cd p : Int) :
    tw cx 103 [rW true false l, .st [rI true H, rB true D, i64 cd, i64 p], eS true x, i64 f] = some ([eS false xf, i64 c, rI false df], []) := by
  have h := val_of hv
  obtain ⟨o, ho, hoe⟩ := t137 l hl
  have hsv : shapeV l = some s := by
    unfold validV at hv
    cases hs : shapeV l with
    | none => rw [hs] at hv; cases hv
    | some s2 =>
      rw [hs] at hv
      obtain ⟨q, _, hq⟩ := Option.map_eq_some_iff.1 hv
      cases hq; rfl
  have e := hoe s hsv
  subst e
  refine e103 ?_
  rw [N103, C137_S ho]
  have h0 : Go.Tree.S cx 103 (N103_s0 (l.map (eW false)) (H.map i64) (x.loc.map i64) (x.mem.map i64) (x.told.map i64) f (s.ends.map i64)) = some ([eS false xf, i64 c, rI false df], []) := by
    rw [N103_s0, C89_S (t89 x (stateP_small hx))]
    refine eG103_0 ?_
    rw [NG103_0]
    have e := loop103 h hf r
    exact e
  exact S_amb2 h0 h0
theorem t106 {l : List W} {s : Sh} {H : List Int} (h : Val l s H) {ds : List Bool} {bs : List Int} {cd p : Int} {x : Sx} {f : Nat} (hf : f ≤ 2000) {c : Int} {xf : Sx} {df : List Int} (r : Rn l s f 0 x [] [] c xf df) :
    ∃ (sf : List Int) (af : Int), tw cx 106 [eR l s H ds bs cd p x [] 0, i64 f] = some ([i64 c, rI false df], [eR l s H ds bs cd p xf sf af]) := by
  obtain ⟨sf, af, e⟩ := loop106 (ds := ds) (bs := bs) (cd := cd) (p := p) h hf r
  refine ⟨sf, af, e106 ?_⟩
  rw [N106]
  exact e
end Go.Tree.M

/- Runs, as they are asked for. -/
namespace Go.Tree.M
open Go.Proofs
set_option linter.unusedVariables false
set_option linter.unusedSimpArgs false
abbrev x0 : Sx := ⟨[], [], []⟩
def ansR : Option (Sx × Int × List Int) → List TV
  | none => [eS false x0, i64 0, i64 0, tb false]
  | some (xf, c, df) => [eS false xf, i64 c, i64 ((df.length : Nat) : Int), tb true]
theorem s105 {l : List W} {s : Sh} {H : List Int} {ds : List Bool} {bs : List Int} {x : Sx} {F c p : Int} (h : tw cx 145 [rW true false l] = some ([.pt false () (eWa false l s H ds bs c p)], [])) :
    Go.Tree.S cx 105 (N105 (l.map (eW false)) (x.loc.map i64) (x.mem.map i64) (x.told.map i64) F) = Go.Tree.S cx 105 (C92 (x.loc.map i64) (x.mem.map i64) (x.told.map i64) fun v_cd =>
  .bif ((!v_cd))
  (.ret [tnil] [])
  (C65 F 0 2000 fun v_68 =>
    .bif ((!v_68))
    (.ret [tnil] [])
    (C93 (x.loc.map i64) (x.mem.map i64) (x.told.map i64) fun lo me to =>
      .ret [.pt false () (.st [.pt false () (.st [.pt false () (.st [sl true ⟨3, true⟩ (l.map (eW false)), sl false ⟨1, false⟩ (s.ends.map i64), sl false ⟨1, false⟩ (s.other.map i64), sl false ⟨1, true⟩ (s.opens.map rowN)]), sl false ⟨1, false⟩ (H.map i64), sl false ⟨1, false⟩ (ds.map tb), sl false ⟨1, false⟩ (bs.map i64), i64 c, i64 p]), .st [sl false ⟨1, false⟩ lo, sl false ⟨1, false⟩ me, sl false ⟨1, false⟩ to], sl false ⟨1, false⟩ ([]), i64 0])] []))) := call_S h rfl
theorem s58 {l : List W} {s : Sh} {H : List Int} {ds : List Bool} {bs : List Int} {x : Sx} {F c p : Int} (h : tw cx 105 [rW true false l, eS true x, i64 F] = some ([eR l s H ds bs c p x [] 0], [])) :
    Go.Tree.S cx 58 (N58 (l.map (eW false)) (x.loc.map i64) (x.mem.map i64) (x.told.map i64) F) = Go.Tree.S cx 58 (C106 (l.map (eW false)) (s.ends.map i64) (s.other.map i64) (s.opens.map rowN) (H.map i64) (ds.map tb) (bs.map i64) c p (x.loc.map i64) (x.mem.map i64) (x.told.map i64) [] 0 F fun v_cf vs_32 ls_87 endss_5a others_d7 opens_fb heightss_b4 deads_6e basess_06 code_e1 place_5c localss_e9 mems_ef tolds_eb stacks_d7 at_15 =>
  .ret [.st [sl false ⟨1, false⟩ localss_e9, sl false ⟨1, false⟩ mems_ef, sl false ⟨1, false⟩ tolds_eb], i64 v_cf, i64 ((vs_32.length : Nat) : Int), tb true] []) := call_S h rfl
theorem t105 (l : List W) (hl : smallL l) (x : Sx) (hx : smallS x) (F : Int) :
    (¬ ((validV l).isSome ∧ stateP x ∧ fuelP F) → tw cx 105 [rW true false l, eS true x, i64 F] = some ([tnil], [])) ∧
    (∀ {s H D}, validV l = some (s, H, D) → stateP x → fuelP F → ∃ ds bs, tw cx 105 [rW true false l, eS true x, i64 F] = some ([eR l s H ds bs 0 0 x [] 0], [])) := by
  have h145 := t145 l hl
  cases hv : validV l with
  | none =>
    rw [hv] at h145
    exact ⟨fun _ => e105 (call_S h145 rfl), fun q => by cases q⟩
  | some r =>
    obtain ⟨s, H, D⟩ := r
    rw [hv] at h145
    obtain ⟨ds, bs, h145⟩ := h145
    refine ⟨fun hb => e105 ?_, fun {s2 H2 D2} q q1 q2 => ?_⟩
    · refine Eq.trans (s105 h145) ?_
      rw [C92_S (t92 x hx)]
      by_cases c1 : stateP x
      · refine bif_neg (by rw [dT c1]; rfl) ?_
        rw [C65_S (t65 _ _ _)]
        refine bif_pos ?_ S_ret
        rw [dF (p := 0 ≤ F ∧ F ≤ 2000) (fun q => hb ⟨rfl, c1, q⟩)]; rfl
      · exact bif_pos (by rw [dF c1]; rfl) S_ret
    · cases q
      refine ⟨ds, bs, e105 ?_⟩
      refine Eq.trans (s105 h145) ?_
      rw [C92_S (t92 x hx)]
      refine bif_neg (by rw [dT q1]; rfl) ?_
      rw [C65_S (t65 _ _ _)]
      refine bif_neg ?_ ?_
      · rw [dT (show 0 ≤ F ∧ F ≤ 2000 from q2)]; rfl
      · rw [C93_S (t93 x hx)]; rfl
theorem t57 {l : List W} (hl : smallL l) {x : Sx} (hx : smallS x) {F : Int} {r : Option (Sx × Int × List Int)} (ha : Ans l x F r) : tw cx 57 [rW true false l, eS true x, i64 F] = some (ansR r, []) := by
  have h102 := t102 l hl
  refine e57 ?_
  cases ha with
  | bad hb =>
    cases hv : validV l with
    | none =>
      rw [hv] at h102
      obtain ⟨H, D, c, p, h102⟩ := h102
      rw [N57, C102_S h102]
      exact bif_pos rfl S_ret
    | some q =>
      obtain ⟨s, H, D⟩ := q
      rw [hv] at h102
      rw [N57, C102_S h102]
      refine bif_neg rfl ?_
      rw [C86_S (t86 x hx)]
      by_cases c1 : stateP x
      · refine bif_neg (by rw [dT c1]; rfl) ?_
        rw [C87_S (t87 _)]
        refine bif_pos ?_ S_ret
        rw [dF (p := 0 ≤ F ∧ F ≤ 2000) (fun q => hb ⟨by rw [hv]; rfl, c1, q⟩)]; rfl
      · exact bif_pos (by rw [dF c1]; rfl) S_ret
  | @run s H D f c xf df hv c1 hf hf2 rn sp cc dl =>
    subst hf
    rw [hv] at h102
    rw [N57, C102_S h102]
    refine bif_neg rfl ?_
    rw [C86_S (t86 x hx)]
    refine bif_neg (by rw [dT c1]; rfl) ?_
    rw [C87_S (t87 _)]
    refine bif_neg (by rw [dT ⟨by omega, by omega⟩]; rfl) ?_
    rw [C103_S (t103 hl hv c1 hf2 rn 0 _), C89_S (t89 xf (stateP_small sp)), S_ret, List.length_map]
    rfl
theorem t58 {l : List W} (hl : smallL l) {x : Sx} (hx : smallS x) {F : Int} {r : Option (Sx × Int × List Int)} (ha : Ans l x F r) : tw cx 58 [rW true false l, eS true x, i64 F] = some (ansR r, []) := by
  obtain ⟨a1, a2⟩ := t105 l hl x hx F
  refine e58 ?_
  cases ha with
  | bad hb => exact call_S (a1 hb) rfl
  | @run s H D f c xf df hv c1 hf hf2 rn sp cc dl =>
    subst hf
    obtain ⟨ds, bs, h105⟩ := a2 hv c1 ⟨by omega, by omega⟩
    obtain ⟨sf, af, h106⟩ := t106 (val_of hv) (ds := ds) (bs := bs) (cd := 0) (p := 0) hf2 rn
    refine Eq.trans (s58 h105) ?_
    refine Eq.trans (C106_S h106) ?_
    rw [S_ret, List.length_map]
    rfl
end Go.Tree.M

/- The laws' own: sizes, copies, marks, likeness. -/
namespace Go.Tree.M
open Go.Proofs
set_option linter.unusedVariables false
set_option linter.unusedSimpArgs false
theorem t84 (xs : List Int) (left : Int) (hx : xs.length ≤ 9223372036854775807) (h0 : 0 ≤ left ∧ left ≤ 1048576) : tw cx 84 [rI true xs, i64 left] = some ([i64 (if left - xs.length < 0 then -1 else left - xs.length)], []) := by
  refine e84 ?_
  rw [N84, List.length_map, S_bif, w64_id (by omega) (by omega), S_ret, S_ret]
  by_cases c : left - (xs.length : Int) < 0
  · rw [if_pos (dT c), if_pos c]
  · rw [if_neg (by rw [dF c]; simp), if_neg c]
theorem t35 (s : Sx) (left : Int) (h1 : s.loc.length ≤ 9223372036854775807) (h2 : s.mem.length ≤ 9223372036854775807) (h3 : s.told.length ≤ 9223372036854775807) (h0 : 0 ≤ left ∧ left ≤ 1048576) :
    ∃ r : Int, tw cx 35 [eS true s, i64 left] = some ([i64 r], []) ∧ (0 ≤ r → s.loc.length ≤ 1048576 ∧ s.mem.length ≤ 1048576 ∧ s.told.length ≤ 1048576) := by
  have a1 := t84 s.loc left h1 h0
  by_cases c1 : left - (s.loc.length : Int) < 0
  · rw [if_pos c1] at a1
    refine ⟨-1, e35 ?_, fun h => by omega⟩
    rw [N35, C84_S a1]
    exact bif_pos rfl rfl
  · rw [if_neg c1] at a1
    have a2 := t84 s.mem (left - s.loc.length) h2 ⟨by omega, by omega⟩
    by_cases c2 : left - (s.loc.length : Int) - (s.mem.length : Int) < 0
    · rw [if_pos c2] at a2
      refine ⟨-1, e35 ?_, fun h => by omega⟩
      rw [N35, C84_S a1]
      refine bif_neg (dF c1) ?_
      rw [C84_S a2]
      exact bif_pos rfl rfl
    · rw [if_neg c2] at a2
      have a3 := t84 s.told (left - s.loc.length - s.mem.length) h3 ⟨by omega, by omega⟩
      by_cases c3 : left - (s.loc.length : Int) - (s.mem.length : Int) - (s.told.length : Int) < 0
      · rw [if_pos c3] at a3
        refine ⟨-1, e35 ?_, fun h => by omega⟩
        rw [N35, C84_S a1]
        refine bif_neg (dF c1) ?_
        rw [C84_S a2]
        refine bif_neg (dF c2) ?_
        rw [C84_S a3]
        exact bif_pos rfl rfl
      · rw [if_neg c3] at a3
        refine ⟨left - s.loc.length - s.mem.length - s.told.length, e35 ?_, fun h => ⟨by omega, by omega, by omega⟩⟩
        rw [N35, C84_S a1]
        refine bif_neg (dF c1) ?_
        rw [C84_S a2]
        refine bif_neg (dF c2) ?_
        rw [C84_S a3]
        exact bif_neg (dF c3) rfl
theorem t20 (xs : List Int) (hl : xs.length ≤ big) : tw cx 20 [rI true xs, rI true xs] = some ([tb true], []) := by
  have hb : xs.length ≤ 1073741824 := hl
  have e1 : (xs.map i64).length = xs.length := List.length_map _
  have := all_list (xs := xs) (q := fun _ => true) (H := fun i => S cx 20 (H20_0 (xs.map i64) (xs.map i64) i)) (yes := fun _ => none) (no := ([tb false], [])) (fun j x hx => by
    have hj := lt_of_at hx
    refine ⟨fun _ r h => ?_, fun hq => by cases hq⟩
    refine eH20_0 (bif_pos (dT (by omega)) (ck_pos (dT2 (by omega)) ?_))
    rw [getD_at hx, S_int]
    refine ck_pos (dT2 (by omega)) ?_
    rw [S_int]
    refine bif_neg (by simp) (back_of ?_)
    rw [inc64 hj hb]
    exact h) (eH20_0 (bif_neg (dF (by omega)) rfl))
  refine e20 (bif_neg (by simp) ?_)
  refine Eq.trans this ?_
  simp
theorem t40 (s : Sx) (h : smallS s) : tw cx 40 [eS true s, eS true s] = some ([tb true], []) := by
  refine e40 ?_
  rw [N40, C20_S (t20 s.loc h.1)]
  refine bif_neg rfl ?_
  rw [C20_S (t20 s.mem h.2.1)]
  refine bif_neg rfl ?_
  rw [C20_S (t20 s.told h.2.2)]
  exact bif_neg rfl rfl
/-- Numbers from one on. -/
def marksV (k : Int) (n : Nat) : List Int := (List.range n).map fun (i : Nat) => k + (i : Int)
theorem marks_eq (k : Int) (n : Nat) : marks k n = (marksV k n).map i64 := by
  unfold marks marksV
  rw [List.map_map]
  rfl
theorem marksV_len (k : Int) (n : Nat) : (marksV k n).length = n := by simp [marksV]
theorem marksV_at {k : Int} {n j : Nat} (h : j < n) : (marksV k n)[j]? = some (k + (j : Int)) := by
  simp [marksV, h]
theorem t25 (k : Int) (n : Nat) (hk : 0 ≤ k ∧ k ≤ 1152921504606846976) (hn : n ≤ big) : tw cx 25 [rI true (marksV k n), i64 k] = some ([i64 (k + n)], []) := by
  have hb : n ≤ 1073741824 := hn
  have e1 : ((marksV k n).map i64).length = n := by rw [List.length_map, marksV_len]
  have key : ∀ d j : Nat, n - j = d → j ≤ n → S cx 25 (H25_0 ((marksV k n).map i64) (k + j) j) = some ([i64 (k + n)], []) := by
    intro d
    induction d with
    | zero =>
      intro j hd hj
      have : j = n := by omega
      subst this
      exact eH25_0 (bif_neg (dF (by omega)) rfl)
    | succ d ih =>
      intro j hd hj
      refine eH25_0 (bif_pos (dT (by omega)) (ck_pos (dT2 (by omega)) ?_))
      rw [getD_at (marksV_at (show j < n by omega)), S_int]
      refine bif_neg (by simp) (back_of ?_)
      rw [inc64 (n := n) (by omega) hb, w64_id (by omega) (by omega), show k + (j : Int) + 1 = k + ((j + 1 : Nat) : Int) by omega]
      exact ih (j + 1) (by omega) (by omega)
  refine e25 ?_
  have := key n 0 (by omega) (by omega)
  simpa [N25] using this
theorem t24 (xs : List Int) (k : Int) (hk : 0 ≤ k ∧ k ≤ 1152921504606846976) (hl : xs.length ≤ big) : tw cx 24 [rI false xs, i64 k] = some ([i64 (k + xs.length)], [rI false (marksV k xs.length)]) := by
  have hb : xs.length ≤ 1073741824 := hl
  have key : ∀ d j : Nat, xs.length - j = d → j ≤ xs.length → S cx 24 (H24_0 (k + j) j (((marksV k j) ++ xs.drop j).map i64)) = some ([i64 (k + xs.length)], [rI false (marksV k xs.length)]) := by
    intro d
    induction d with
    | zero =>
      intro j hd hj
      have : j = xs.length := by omega
      subst this
      rw [List.drop_length, List.append_nil]
      exact eH24_0 (bif_neg (dF (by rw [List.length_map, marksV_len]; omega)) rfl)
    | succ d ih =>
      intro j hd hj
      have e1 : (((marksV k j) ++ xs.drop j).map i64).length = xs.length := by
        rw [List.length_map, List.length_append, marksV_len, List.length_drop]; omega
      refine eH24_0 (bif_pos (dT (by omega)) (ck_pos (dT2 (by omega)) (back_of ?_)))
      rw [inc64 (n := xs.length) (by omega) hb, w64_id (by omega) (by omega), set_I]
      have e2 : ((marksV k j) ++ xs.drop j).set ((j : Int)).toNat (k + j) = marksV k (j + 1) ++ xs.drop (j + 1) := by
        obtain ⟨x, hx⟩ := at_some (show j < xs.length by omega)
        rw [Int.toNat_natCast, List.set_append_right _ _ (by rw [marksV_len]; exact Nat.le_refl _), marksV_len, Nat.sub_self, drop_at hx, List.set_cons_zero]
        simp [marksV, List.range_succ]
      rw [e2, show k + (j : Int) + 1 = k + ((j + 1 : Nat) : Int) by omega]
      exact ih (j + 1) (by omega) (by omega)
  refine e24 ?_
  have := key xs.length 0 (by omega) (by omega)
  simpa [N24, marksV] using this
theorem set_get {l : List TV} {j : Nat} {y : TV} (h : j < l.length) : (l.set (0 + ((j : Nat) : Int).toNat) y).getD (0 + ((j : Nat) : Int).toNat) (.dead ()) = y := by
  rw [zN, List.getD_eq_getElem?_getD, List.getElem?_set_self h]; rfl
theorem t43 (s : Sx) (k : Int) (hk : 0 ≤ k ∧ k ≤ 1152921504606846976) (h : smallS s) : tw cx 43 [eS false s, i64 k] = some ([i64 (k + s.loc.length + s.mem.length + s.told.length)], [eS false ⟨marksV k s.loc.length, marksV (k + s.loc.length) s.mem.length, marksV (k + s.loc.length + s.mem.length) s.told.length⟩]) := by
  refine tw_given (g := g43) rfl ?_
  obtain ⟨h1, h2, h3⟩ := h
  have h1' : s.loc.length ≤ 1073741824 := h1
  have h2' : s.mem.length ≤ 1073741824 := h2
  have h3' : s.told.length ≤ 1073741824 := h3
  simp only [eS, rI, g43, List.length_map]
  rw [if_pos ⟨hk.1, hk.2, h1', h2', h3'⟩]
  simp only [marks_eq]
theorem t44 (k : Int) (a b c : Nat) (hk : 0 ≤ k ∧ k ≤ 1000000) (ha : a ≤ 1048576) (hb : b ≤ 1048576) (hc : c ≤ 1048576) : tw cx 44 [eS true ⟨marksV k a, marksV (k + a) b, marksV (k + a + b) c⟩, i64 k] = some ([i64 (k + a + b + c)], []) := by
  refine e44 ?_
  rw [N44, C25_S (t25 k a ⟨hk.1, by omega⟩ (by show _ ≤ 1073741824; omega))]
  refine bif_neg (dF (by omega)) ?_
  rw [C25_S (t25 (k + a) b ⟨by omega, by omega⟩ (by show _ ≤ 1073741824; omega))]
  refine bif_neg (dF (by omega)) ?_
  rw [C25_S (t25 (k + a + b) c ⟨by omega, by omega⟩ (by show _ ≤ 1073741824; omega))]
  exact bif_neg (dF (by omega)) rfl
theorem smallS_loc {s : Sx} (h : s.loc.length ≤ 1048576 ∧ s.mem.length ≤ 1048576 ∧ s.told.length ≤ 1048576) : smallS s := by
  refine ⟨?_, ?_, ?_⟩ <;> show _ ≤ 1073741824 <;> omega

abbrev sizeL (l : List W) : Prop := l.length ≤ 9223372036854775807 ∧ ∀ x ∈ l, x.tb.length ≤ 9223372036854775807
abbrev okL (l : List W) : Prop := l.length ≤ 1048576 ∧ ∀ x ∈ l, x.tb.length ≤ 1048576
theorem t101 (x : W) (left : Int) (hx : x.tb.length ≤ 9223372036854775807) (h0 : 0 ≤ left ∧ left ≤ 1048576) : ∃ r : Int, tw cx 101 [eW true x, i64 left] = some ([i64 r], []) ∧ r ≤ left ∧ (0 ≤ r → x.tb.length ≤ 1048576) := by
  by_cases c : left - x.tb.length < 0
  · refine ⟨-1, e101 ?_, by omega, fun h => by omega⟩
    rw [N101, C84_S (t84 _ _ hx h0), if_pos c]
    exact bif_pos rfl rfl
  · refine ⟨left - x.tb.length, e101 ?_, by omega, fun h => by omega⟩
    rw [N101, C84_S (t84 _ _ hx h0), if_neg c]
    exact bif_neg (dF c) rfl
theorem t49 (l : List W) (left : Int) (h : sizeL l) (h0 : 0 ≤ left ∧ left ≤ 1048576) : ∃ r : Int, tw cx 49 [rW true true l, i64 left] = some ([i64 r], []) ∧ r ≤ left ∧ (0 ≤ r → okL l) := by
  obtain ⟨hx, hb⟩ := h
  have e1 : (l.map (eW true)).length = l.length := List.length_map _
  by_cases c : left - (l.length : Int) < 0
  · refine ⟨-1, e49 ?_, by omega, fun h => by omega⟩
    rw [N49, e1, w64_id (by omega) (by omega)]
    exact bif_pos (dT c) rfl
  · have key : ∀ d j : Nat, l.length - j = d → j ≤ l.length → ∀ left : Int, 0 ≤ left ∧ left ≤ 1048576 →
        ∃ r : Int, S cx 49 (H49_0 (l.map (eW true)) left j) = some ([i64 r], []) ∧ r ≤ left ∧ (0 ≤ r → ∀ b ∈ l.drop j, b.tb.length ≤ 1048576) := by
      intro d
      induction d with
      | zero =>
        intro j hd hj left hl
        have : j = l.length := by omega
        subst this
        exact ⟨left, eH49_0 (bif_neg (dF (by omega)) rfl), Int.le_refl _, fun _ b hb => by simp at hb⟩
      | succ d ih =>
        intro j hd hj left hl
        obtain ⟨b, hbj⟩ := at_some (show j < l.length by omega)
        have hbm := hb b (List.mem_of_getElem? hbj)
        obtain ⟨r1, h1, h2, h3⟩ := t101 b left hbm hl
        by_cases c1 : r1 < 0
        · refine ⟨-1, eH49_0 (bif_pos (dT (by omega)) (ck_pos (dT2 (by omega)) ?_)), by omega, fun h => by omega⟩
          rw [getD_at hbj, V3_S, C101_S h1]
          exact bif_pos (dT c1) rfl
        · obtain ⟨r, g1, g2, g3⟩ := ih (j + 1) (by omega) (by omega) r1 ⟨by omega, by omega⟩
          refine ⟨r, eH49_0 (bif_pos (dT (by omega)) (ck_pos (dT2 (by omega)) ?_)), by omega, fun h => ?_⟩
          · rw [getD_at hbj, V3_S, C101_S h1]
            refine bif_neg (dF c1) (back_of ?_)
            rw [inc64 (n := l.length) (by omega) (by omega)]
            exact g1
          · rw [drop_at hbj]
            intro b' hb'
            rcases List.mem_cons.1 hb' with rfl | hb'
            · exact h3 (by omega)
            · exact g3 h b' hb'
    obtain ⟨r, g1, g2, g3⟩ := key l.length 0 (by omega) (by omega) (left - l.length) ⟨by omega, by omega⟩
    refine ⟨r, e49 ?_, by omega, fun h => ⟨by omega, by simpa using g3 h⟩⟩
    rw [N49, e1, w64_id (by omega) (by omega)]
    exact bif_neg (dF c) g1
theorem t104 (x : W) (hx : x.tb.length ≤ 1073741824) : tw cx 104 [eW true x] = some ([eW false x], []) := by
  refine e104 ?_
  rw [N104, C17_S (t17 x.tb true hx), S_ret]
theorem t51 (l : List W) (h : okL l) : tw cx 51 [rW true true l] = some ([rW false false l], []) := by
  obtain ⟨hl, hb⟩ := h
  refine e51 (ck_pos (mk_ok (by rw [List.length_map]; omega) (by rw [List.length_map]; omega)) ?_)
  rw [show (((l.map (eW true)).length : Nat) : Int).toNat = (l.map (eW false)).length by simp]
  refine copy_loop (H := fun out i => S cx 51 (H51_0 (l.map (eW true)) out i)) (fin := fun l => ([sl false ⟨3, true⟩ l], [])) _ (fun j t out hx hout hh => ?_) ?_
  · obtain ⟨x, hx', rfl⟩ := map_at hx
    have hj := lt_of_at hx
    have hj' : j < l.length := by simpa using hj
    have a1 := hb x (List.mem_of_getElem? hx')
    have e1 : (l.map (eW true)).length = l.length := List.length_map _
    have e2 : (l.map (eW false)).length = l.length := List.length_map _
    refine eH51_0 (bif_pos (dT (by omega)) (ck_pos (dT2 (by omega)) ?_))
    rw [zN, getD_map' hx', V3_S, C104_S (t104 x (by omega))]
    refine ck_pos (dT2 (by omega)) (back_of ?_)
    rw [inc64 hj' (by omega)]
    exact hh
  · exact eH51_0 (bif_neg (dF (by simp)) rfl)
theorem t77 (x : W) (hx : x.tb.length ≤ 1048576) : tw cx 77 [eW true x, eW true x] = some ([tb true], []) := by
  refine e77 (bif_neg (by simp) (bif_neg (by simp) ?_))
  rw [C20_S (t20 x.tb (by show _ ≤ 1073741824; omega))]
  exact bif_neg rfl rfl
theorem t28 (l : List W) (h : okL l) : tw cx 28 [rW true false l, rW true false l] = some ([tb true], []) := by
  obtain ⟨hl, hb⟩ := h
  have e1 : (l.map (eW false)).length = l.length := List.length_map _
  have := all_list (xs := l) (q := fun _ => true) (H := fun i => S cx 28 (H28_0 (l.map (eW false)) (l.map (eW false)) i)) (yes := fun _ => none) (no := ([tb false], [])) (fun j x hx => by
    have hj := lt_of_at hx
    refine ⟨fun _ r h => ?_, fun hq => by cases hq⟩
    refine eH28_0 (bif_pos (dT (by omega)) (ck_pos (dT2 (by omega)) ?_))
    rw [getD_at hx, V3_S]
    refine ck_pos (dT2 (by omega)) ?_
    rw [V3_S, C77_S (t77 x (hb x (List.mem_of_getElem? hx)))]
    refine bif_neg rfl (back_of ?_)
    rw [inc64 hj (by omega)]
    exact h) (eH28_0 (bif_neg (dF (by omega)) rfl))
  refine e28 (bif_neg (by simp) ?_)
  refine Eq.trans this ?_
  simp
end Go.Tree.M

/- Two runs, side by side. -/
namespace Go.Tree.M
open Go.Proofs
set_option linter.unusedVariables false
set_option linter.unusedSimpArgs false
theorem ans_some {l : List W} {x : Sx} {F : Int} {xf : Sx} {c : Int} {df : List Int} (h : Ans l x F (some (xf, c, df))) : stateP xf ∧ (c = 1 ∨ c = 2 ∨ c = 3) ∧ df.length ≤ 2000 := by
  cases h with
  | run _ _ _ h1 _ h2 h3 h4 => exact ⟨h2, h3, by omega⟩
abbrev R3 := Option (Sx × Int × List Int)
section
variable {a b : List W} (ha : smallL a) (hb : smallL b) {x : Sx} (hx : smallS x) {F : Int} {r q : R3} (hr : Ans a x F r) (hq : Ans b x F q)
include ha hb hx hr hq
end
end Go.Tree.M

/- The laws Alike and SameRuns: they answer true. -/
namespace Go.Tree.M
open Go.Proofs
set_option linter.unusedVariables false
set_option linter.unusedSimpArgs false
theorem okL_small {l : List W} (h : okL l) : smallL l := ⟨by show _ ≤ 1073741824; have := h.1; omega, fun x hx => by have := h.2 x hx; show _ ≤ 1073741824; omega⟩
theorem okS_small {s : Sx} (h : s.loc.length ≤ 1048576 ∧ s.mem.length ≤ 1048576 ∧ s.told.length ≤ 1048576) : smallS s := smallS_loc h

end Go.Tree.M

/- Marks over steps. -/
namespace Go.Tree.M
open Go.Proofs
set_option linter.unusedVariables false
set_option linter.unusedSimpArgs false
theorem fkW {a b : Int} : fieldOk cx.P 95 2 [i64 a, i64 b, .dead ()] = true := by kernel_rfl
theorem set_Wd {xs : List W} {j : Nat} {x : W} : (xs.map (eW false)).set (0 + ((j : Nat) : Int).toNat) (eW false x) = (xs.set j x).map (eW false) := by
  rw [zN]; exact set_map'
set_option maxRecDepth 20000 in
set_option maxHeartbeats 2000000 in
theorem t29 (f : List W) (hf : okL f) : ∃ (r : Int) (L : List TV), tw cx 29 [rW false false f, i64 1] = some ([i64 r], [sl false ⟨3, true⟩ L]) ∧ 0 ≤ r ∧ r ≤ 1152921504606846976 := by
  obtain ⟨hl, hb⟩ := hf
  have key : ∀ d j : Nat, f.length - j = d → j ≤ f.length → ∀ (k : Int) (ys zs : List W), ys ++ zs = ys ++ f.drop j → ys.length = j → 0 ≤ k → k ≤ 1 + j * 16777216 → ∃ (r : Int) (L : List TV), S cx 29 (H29_0 k j ((ys ++ zs).map (eW false))) = some ([i64 r], [sl false ⟨3, true⟩ L]) ∧ 0 ≤ r ∧ r ≤ 1152921504606846976 := by
    intro d
    induction d with
    | zero =>
      intro j hd hj k ys zs e hy h0 h1
      have hzs : zs = f.drop j := List.append_cancel_left e
      have hz : zs = [] := by rw [hzs]; exact List.drop_of_length_le (by omega)
      subst hz
      exact ⟨k, _, eH29_0 (bif_neg (dF (by rw [List.length_map, List.append_nil]; omega)) rfl), h0, by omega⟩
    | succ d ih =>
      intro j hd hj k ys zs e hy h0 h1
      have hzs : zs = f.drop j := List.append_cancel_left e
      obtain ⟨x, hx⟩ := at_some (show j < f.length by omega)
      have hx2 : (ys ++ zs)[j]? = some x := by
        rw [List.getElem?_append_right (by omega), hy, Nat.sub_self, hzs, List.getElem?_drop]; simpa using hx
      have c1 := hb x (List.mem_of_getElem? hx)
      have e1 : ((ys ++ zs).map (eW false)).length = f.length := by
        rw [List.length_map, List.length_append, hzs, List.length_drop]; omega
      have w1 : w64 (k + 1) = k + 1 := w64_id (by omega) (by omega)
      have w2 : w64 (k + 1 + 1) = k + 1 + 1 := w64_id (by omega) (by omega)
      have hn := t24 x.tb (k + 1 + 1) ⟨by omega, by omega⟩ (by show _ ≤ 1073741824; omega)
      have hj1 : j < ((ys ++ zs).map (eW false)).length := by omega
      have hck : (decide ((0 : Int) ≤ (j : Int)) && decide ((j : Int) < (((ys ++ zs).map (eW false)).length : Int))) = true := dT2 (by omega)
      obtain ⟨r, L, g1, g2⟩ := ih (j + 1) (by omega) (by omega) (k + 1 + 1 + x.tb.length) (ys ++ [⟨k, k + 1, marksV (k + 1 + 1) x.tb.length⟩]) (f.drop (j + 1)) rfl (by simp [hy]) (by omega) (by omega)
      refine ⟨r, L, ?_, g2⟩
      have hs : ∀ (t : TV), ((((ys ++ zs).map (eW false)).set (0 + (j : Int).toNat) t).length : Int) = (((ys ++ zs).map (eW false)).length : Int) := fun t => by rw [List.length_set]
      refine eH29_0 (bif_pos (dT (by omega)) (ck_pos hck ?_))
      rw [getD_at hx2, V3_1_S]
      refine ck_pos (by rw [hs]; exact hck) ?_
      rw [set_get hj1, V3_1_S, w1, List.set_set]
      refine ck_pos (by rw [hs]; exact hck) ?_
      rw [set_get hj1, V3_1_S, V3_1_S, V3_1_S, w2, S_call hn]
      rw [S_cons, S_int, S_nil, S_cons, S_slO, List.set_set, set_get hj1, S_st]
      refine ck_pos fkW ?_
      refine ck_pos (by kernel_rfl) ?_
      rw [S_nil, List.set_set]
      have st2 : ∀ (a b c t : TV), ([a, b, c] : List TV).set 2 t = [a, b, t] := fun _ _ _ _ => rfl
      rw [st2]
      refine back_of ?_
      rw [inc64 (n := f.length) (by omega) (by omega)]
      have e2 := set_Wd (xs := ys ++ zs) (j := j) (x := ⟨k, k + 1, marksV (k + 1 + 1) x.tb.length⟩)
      have e3 : (ys ++ zs).set j (⟨k, k + 1, marksV (k + 1 + 1) x.tb.length⟩ : W) = (ys ++ [⟨k, k + 1, marksV (k + 1 + 1) x.tb.length⟩]) ++ f.drop (j + 1) := by
        rw [List.set_append_right _ _ (by omega), hy, Nat.sub_self, hzs, drop_at hx, List.set_cons_zero, List.append_assoc]; rfl
      rw [e3] at e2
      rw [e2]
      exact g1
  obtain ⟨r, L, g1, g2⟩ := key f.length 0 (by omega) (by omega) 1 [] f rfl rfl (by omega) (by omega)
  exact ⟨r, L, e29 (by simpa [N29] using g1), g2⟩
end Go.Tree.M

/- The law RunSteps: it answers true. -/
namespace Go.Tree.M
open Go.Proofs
set_option linter.unusedVariables false
set_option linter.unusedSectionVars false
set_option linter.unusedSimpArgs false
abbrev okS (s : Sx) : Prop := s.loc.length ≤ 1048576 ∧ s.mem.length ≤ 1048576 ∧ s.told.length ≤ 1048576
abbrev sizeS (s : Sx) : Prop := s.loc.length ≤ 9223372036854775807 ∧ s.mem.length ≤ 9223372036854775807 ∧ s.told.length ≤ 9223372036854775807
theorem ansR_form {l : List W} {x : Sx} {F : Int} {r : R3} (h : Ans l x F r) : ∃ w : Sx × Int × Int × Bool, ansR r = [eS false w.1, i64 w.2.1, i64 w.2.2.1, tb w.2.2.2] ∧ okS w.1 := by
  cases r with
  | none => exact ⟨(x0, 0, 0, false), rfl, by simp [x0], by simp [x0], by simp [x0]⟩
  | some q =>
    obtain ⟨xf, c, df⟩ := q
    obtain ⟨h1, h2, h3, _⟩ := (ans_some h).1
    exact ⟨(xf, c, df.length, true), rfl, by show xf.loc.length ≤ _; omega, by show xf.mem.length ≤ _; omega, by show xf.told.length ≤ _; omega⟩
section
variable (f : List W) (s : Sx) (fuel : Int) (hf : okL f) (hs : okS s) (w : Sx × Int × Int × Bool) (hw : okS w.1)
  (k39 : tw cx 58 [rW true false f, eS true s, i64 fuel] = some ([eS false w.1, i64 w.2.1, i64 w.2.2.1, tb w.2.2.2], []))
include hf hs hw k39
theorem end13 : S cx 13 (G13_1 (w.1.loc.map i64) (w.1.mem.map i64) (w.1.told.map i64) w.2.1 w.2.2.1 w.2.2.2 ((marksV 1 w.1.loc.length).map i64) ((marksV (1 + w.1.loc.length) w.1.mem.length).map i64) ((marksV (1 + w.1.loc.length + w.1.mem.length) w.1.told.length).map i64) (1 + w.1.loc.length + w.1.mem.length + w.1.told.length) (w.1.loc.map i64) (w.1.mem.map i64) (w.1.told.map i64) w.2.1 w.2.2.1 w.2.2.2) = some ([tb true], []) := by
  refine eG13_1 ?_
  rw [NG13_1, C40_S (t40 w.1 (smallS_loc hw))]
  refine bif_neg rfl (bif_neg (by simp) (bif_neg (by simp) (bif_neg (by simp) ?_)))
  rw [C44_S (t44 1 _ _ _ ⟨by omega, by omega⟩ hw.1 hw.2.1 hw.2.2)]
  exact bif_neg (dF (by omega)) (bif_neg (by simp) rfl)
theorem mid13 : S cx 13 (G13_0 (f.map (eW true)) fuel (s.loc.map i64) (s.mem.map i64) (s.told.map i64) (w.1.loc.map i64) (w.1.mem.map i64) (w.1.told.map i64) w.2.1 w.2.2.1 w.2.2.2) = some ([tb true], []) := by
  have he := end13 f s fuel hf hs w hw k39
  have k37 := t51 f hf
  have k38 : tw cx 38 [eS true s] = some ([eS false s], []) := t38 s (by have := hs.1; omega) (by have := hs.2.1; omega) (by have := hs.2.2; omega)
  have k40 := t40 s (smallS_loc hs)
  have k41 := t28 f hf
  have j40 := t40 w.1 (smallS_loc hw)
  obtain ⟨r, L, k42, r0, r1⟩ := t29 f hf
  have k43 := t43 s r ⟨r0, r1⟩ (smallS_loc hs)
  have j43 := t43 w.1 1 ⟨by omega, by omega⟩ (smallS_loc hw)
  have j44 := t44 1 _ _ _ ⟨by omega, by omega⟩ hw.1 hw.2.1 hw.2.2
  have s0 : ∀ (m : Int), S cx 13 (NG13_0_s0 fuel (w.1.loc.map i64) (w.1.mem.map i64) (w.1.told.map i64) w.2.1 w.2.2.1 w.2.2.2 (1 + w.1.loc.length + w.1.mem.length + w.1.told.length) ((marksV 1 w.1.loc.length).map i64) ((marksV (1 + w.1.loc.length) w.1.mem.length).map i64) ((marksV (1 + w.1.loc.length + w.1.mem.length) w.1.told.length).map i64) (f.map (eW false)) (s.loc.map i64) (s.mem.map i64) (s.told.map i64)) = some ([tb true], []) := fun m => by
    rw [NG13_0_s0, C58_S k39]; exact he
  refine eG13_0 ?_
  rw [NG13_0, C51_S k37, C38_S k38, C58_S k39, C40_S j40]
  refine bif_neg rfl (bif_neg (by simp) (bif_neg (by simp) (bif_neg (by simp) ?_)))
  rw [C51_S k37, C28_S k41]
  refine bif_neg rfl ?_
  have s4 : S cx 13 (NG13_0_s4 (f.map (eW true)) fuel (s.loc.map i64) (s.mem.map i64) (s.told.map i64) (w.1.loc.map i64) (w.1.mem.map i64) (w.1.told.map i64) w.2.1 w.2.2.1 w.2.2.2 (f.map (eW false)) (s.loc.map i64) (s.mem.map i64) (s.told.map i64) (w.1.loc.map i64) (w.1.mem.map i64) (w.1.told.map i64) w.2.1 w.2.2.1 w.2.2.2) = some ([tb true], []) := by
    have a3 : S cx 13 (NG13_0_s3 (f.map (eW true)) fuel (s.loc.map i64) (s.mem.map i64) (s.told.map i64) (w.1.loc.map i64) (w.1.mem.map i64) (w.1.told.map i64) w.2.1 w.2.2.1 w.2.2.2 (1 + w.1.loc.length + w.1.mem.length + w.1.told.length) ((marksV 1 w.1.loc.length).map i64) ((marksV (1 + w.1.loc.length) w.1.mem.length).map i64) ((marksV (1 + w.1.loc.length + w.1.mem.length) w.1.told.length).map i64)) = some ([tb true], []) := by
      rw [NG13_0_s3, C51_S k37, NG13_0_s1, C38_S k38]
      exact s0 0
    have a2 : S cx 13 (NG13_0_s2 (f.map (eW true)) fuel (s.loc.map i64) (s.mem.map i64) (s.told.map i64) (w.1.loc.map i64) (w.1.mem.map i64) (w.1.told.map i64) w.2.1 w.2.2.1 w.2.2.2 (1 + w.1.loc.length + w.1.mem.length + w.1.told.length) ((marksV 1 w.1.loc.length).map i64) ((marksV (1 + w.1.loc.length) w.1.mem.length).map i64) ((marksV (1 + w.1.loc.length + w.1.mem.length) w.1.told.length).map i64)) = some ([tb true], []) := by
      rw [NG13_0_s2, C51_S k37]
      refine S_amb2 ?_ ?_
      · rw [C38_S k38]
        exact S_amb2 (s0 0) (s0 0)
      · rw [NG13_0_s1, C38_S k38]
        exact s0 0
    rw [NG13_0_s4, C38_S k38, C40_S k40]
    refine bif_neg rfl ?_
    rw [C29_S k42, C43_S k43]
    refine bif_neg (dF (by omega)) ?_
    rw [C40_S j40]
    refine bif_neg rfl (bif_neg (by simp) (bif_neg (by simp) (bif_neg (by simp) ?_)))
    rw [C43_S j43, C44_S j44]
    refine bif_neg (dF (by omega)) (bif_neg (by simp) ?_)
    exact S_amb3 a2 (S_amb2 a2 a3) (S_amb2 a3 a3)
  exact S_amb2 s4 s4
end
theorem t13 (f : List W) (s : Sx) (fuel : Int) (h1 : sizeL f) (h3 : sizeS s) :
    tw cx 13 [rW true true f, eS true s, i64 fuel] = some ([tb true], []) := by
  refine e13 ?_
  obtain ⟨v, k34, v0, v1⟩ := t49 f 1048576 h1 ⟨by omega, by omega⟩
  rw [N13, C49_S k34]
  by_cases c : v < 0
  · exact bif_pos (dT c) rfl
  · refine bif_neg (dF c) ?_
    obtain ⟨u, k35, u1⟩ := t35 s v h3.1 h3.2.1 h3.2.2 ⟨by omega, v0⟩
    rw [C35_S k35]
    by_cases d : u < 0
    · exact bif_pos (dT d) rfl
    · refine bif_neg (dF d) ?_
      have hf := v1 (by omega)
      have hs := u1 (by omega)
      obtain ⟨r, hr⟩ := ans_ex f s fuel
      have k36 := t57 (okL_small hf) (okS_small hs) hr
      have k39 := t58 (okL_small hf) (okS_small hs) hr
      obtain ⟨w, hV, hw⟩ := ansR_form hr
      rw [hV] at k36 k39
      have k37 := t51 f hf
      have k38 : tw cx 38 [eS true s] = some ([eS false s], []) := t38 s (by omega) (by omega) (by omega)
      have hm := mid13 f s fuel hf hs w hw k39
      have a0 : S cx 13 (N13_s0 (f.map (eW true)) (s.loc.map i64) (s.mem.map i64) (s.told.map i64) fuel (f.map (eW false)) (s.loc.map i64) (s.mem.map i64) (s.told.map i64)) = some ([tb true], []) := by
        rw [N13_s0, C57_S k36]; exact hm
      have a1 : S cx 13 (N13_s1 (f.map (eW true)) (s.loc.map i64) (s.mem.map i64) (s.told.map i64) fuel (f.map (eW false))) = some ([tb true], []) := by
        rw [N13_s1, C38_S k38]; exact a0
      have a2 : S cx 13 (N13_s2 (f.map (eW true)) (s.loc.map i64) (s.mem.map i64) (s.told.map i64) fuel) = some ([tb true], []) := by
        rw [N13_s2, C51_S k37]
        refine S_amb2 ?_ a1
        rw [C38_S k38]
        exact S_amb2 a0 a0
      have a3 : S cx 13 (N13_s3 (f.map (eW true)) (s.loc.map i64) (s.mem.map i64) (s.told.map i64) fuel) = some ([tb true], []) := by
        rw [N13_s3, C51_S k37]; exact a1
      exact S_amb3 a2 (S_amb2 a2 a3) (S_amb2 a3 a3)
/- The law StepsDone. -/
end Go.Tree.M

/- What is given is kept. -/
namespace Go.Tree.M
open Go.Proofs
set_option linter.unusedVariables false
set_option linter.unusedSimpArgs false
theorem row_inv [Pol] {T : LT} {xs : List TV} (e : er T = .sl false ⟨1, false⟩ () xs) : ∃ h X, T = .sl false ⟨1, false⟩ h X ∧ xs = X.map er := er_sl_inv e
theorem givenOk : GivenOk cx := by
  intro f g hg Ts w r hr hm hnd hss hwm
  letI : Pol := cx.pol 43
  have hf : f = 43 := by
    by_cases c : f = 43
    · exact c
    · exfalso
      have : Nat.beq f 43 = false := by
        cases h : Nat.beq f 43 with
        | false => rfl
        | true => exact absurd (Nat.eq_of_beq_eq_true h) c
      have h2 : (bif Nat.beq f 43 then some g43 else none) = some g := hg
      rw [this] at h2; cases h2
  subst hf
  have hg : g43 = g := by injection (show some g43 = some g from hg)
  subst hg
  unfold g43 at hr
  split at hr
  · rename_i xs ys zs k e
    split at hr
    · rename_i hc
      obtain ⟨T, rest, rfl, hT, e⟩ := List.map_eq_cons_iff.1 e
      obtain ⟨K, e0, rfl, hK, e⟩ := List.map_eq_cons_iff.1 e
      have e := List.map_eq_nil_iff.1 e
      subst e
      have := er_fl_inv hK
      subst this
      obtain ⟨us, rfl, hu⟩ := er_st_inv hT
      obtain ⟨A, us1, rfl, hA, hu⟩ := List.map_eq_cons_iff.1 hu.symm
      obtain ⟨B, us2, rfl, hB, hu⟩ := List.map_eq_cons_iff.1 hu
      obtain ⟨C, us3, rfl, hC, hu⟩ := List.map_eq_cons_iff.1 hu
      have hu := List.map_eq_nil_iff.1 hu
      subst hu
      obtain ⟨h1, X1, rfl, rfl⟩ := row_inv hA
      obtain ⟨h2, X2, rfl, rfl⟩ := row_inv hB
      obtain ⟨h3, X3, rfl, rfl⟩ := row_inv hC
      simp only [List.length_map] at hc
      obtain ⟨k0, k1, l1, l2, l3⟩ := hc
      have m1 := hm.1.1
      have m2 := hm.1.2.1
      have m3 := hm.1.2.2.1
      have fl : ∀ {h : Value} {X : List LT} {w : World}, Mem w (.sl false ⟨1, false⟩ h X) → allL X = [] := fun hm => G.flat fun x hx => (hm.2.1 x hx).2 rfl
      have ow : ∀ {Y1 Y2 Y3 : List LT}, allL Y1 = [] → allL Y2 = [] → allL Y3 = [] → ownL [(.st [.sl false ⟨1, false⟩ h1 Y1, .sl false ⟨1, false⟩ h2 Y2, .sl false ⟨1, false⟩ h3 Y3] : LT)] = blk h1 ++ (blk h2 ++ blk h3) := fun a b c => by
        simp [ownL, own, G.flat_own a, G.flat_own b, G.flat_own c]
      have sh : ∀ {Y1 Y2 Y3 : List LT}, allL Y1 = [] → allL Y2 = [] → allL Y3 = [] → shrL [(.st [.sl false ⟨1, false⟩ h1 Y1, .sl false ⟨1, false⟩ h2 Y2, .sl false ⟨1, false⟩ h3 Y3] : LT)] = [] := fun a b c => by
        simp [shrL, shr, G.flat_shr a, G.flat_shr b, G.flat_shr c]
      have ot : ownL [(.st [.sl false ⟨1, false⟩ h1 X1, .sl false ⟨1, false⟩ h2 X2, .sl false ⟨1, false⟩ h3 X3] : LT), .fl (.int .i64 k)] = blk h1 ++ (blk h2 ++ blk h3) := by
        rw [← ow (fl m1) (fl m2) (fl m3)]; simp [ownL, own]
      rw [ot] at hnd
      obtain ⟨n1, n2, n3⟩ := List.nodup_append.1 hnd
      obtain ⟨n4, n5, n6⟩ := List.nodup_append.1 n2
      refine (G.calls43 h1 h2 h3 X1 X2 X3 k w ⟨k0, k1⟩ l1 l2 l3 m1 m2 m3 (fun b hb hb' => n3 b hb b (List.mem_append.2 (.inl hb')) rfl) (fun b hb hb' => n3 b hb b (List.mem_append.2 (.inr hb')) rfl) (fun b hb hb' => n6 b hb b hb' rfl)).mono ?_
      rintro e w' ⟨rfl, Y1, Y2, Y3, y1, y2, y3, o1, o2, o3, fr⟩
      have hr := Option.some.inj hr
      subst hr
      refine ⟨[.fl (.int .i64 (k + X1.length + X2.length + X3.length))], [.st [.sl false ⟨1, false⟩ h1 Y1, .sl false ⟨1, false⟩ h2 Y2, .sl false ⟨1, false⟩ h3 Y3]], ?_, ?_, rfl, ⟨rfl, ⟨o1, o2, o3, trivial⟩, trivial⟩, ?_, ?_, ?_, ?_, ?_, ?_⟩
      · simp [er_fl]
      · simp only [List.map_cons, List.map_nil, er_st, er_sl, y1, y2, y3, List.length_map]
        rfl
      · show (ownL [(.fl _ : LT), _]).Nodup
        rw [show ∀ (v : Value) (t : LT), ownL [.fl v, t] = ownL [t] from fun v t => by simp [ownL, own], ow (fl o1) (fl o2) (fl o3)]
        exact hnd
      · show ∀ b ∈ shrL [(.fl _ : LT), _], _
        rw [show ∀ (v : Value) (t : LT), shrL [.fl v, t] = shrL [t] from fun v t => by simp [shrL, shr], sh (fl o1) (fl o2) (fl o3)]
        intro b hb; cases hb
      · show ∀ b ∈ ownL [(.fl _ : LT), _], _
        rw [show ∀ (v : Value) (t : LT), ownL [.fl v, t] = ownL [t] from fun v t => by simp [ownL, own], ow (fl o1) (fl o2) (fl o3), ot]
        exact fun b hb => .inl hb
      · show ∀ b ∈ shrL [(.fl _ : LT), _], _
        rw [show ∀ (v : Value) (t : LT), shrL [.fl v, t] = shrL [t] from fun v t => by simp [shrL, shr], sh (fl o1) (fl o2) (fl o3)]
        intro b hb; cases hb
      · rw [ot, ← List.append_assoc]; exact fr
      · exact .inl ⟨rfl, rfl, _, [], rfl, rfl, .inr ⟨.inl rfl, rfl⟩⟩
    · cases hr
  · cases hr
theorem ok : CallsOk cx.P cx.sig (tw cx) := tw_calls (tcall_ok givenOk G.noNG' G.mixed)
end Go.Tree.M

/- What the machine's laws are handed. -/
namespace Go.Tree.M
open Go.Proofs
set_option linter.unusedVariables false
set_option linter.unusedSimpArgs false
section
variable {H : Type} {enc : TypeId × Value → H} {W0 : World}
theorem o_int : OpensT enc Try.prog W0 3 fun T => ∃ n : Int, er T = i64 n ∧ True := (opensT_int Try.underlying3).imp fun T ⟨n, h, _⟩ => ⟨n, h, trivial⟩
theorem o_ints : OpensT enc Try.prog W0 23 fun T => ∃ l : List Int, er T = rI true l ∧ l.length ≤ 9223372036854775807 ∧ ∀ a ∈ l, True :=
  opensT_rowOf (k := ⟨1, false⟩) Try.underlying23 (by kernel_rfl) (by decide) o_int (fun _ _ => rfl)
set_option maxRecDepth 20000 in
theorem o_S : OpensT enc Try.prog W0 48 fun T => ∃ s : Sx, er T = eS true s ∧ (s.loc.length ≤ 9223372036854775807 ∧ s.mem.length ≤ 9223372036854775807 ∧ s.told.length ≤ 9223372036854775807) :=
  (opensT_struct Try.underlying48 (Qs := [_, _, _]) ⟨rfl, _, _, rfl, o_ints, by kernel_rfl, _, _, rfl, o_ints, by kernel_rfl, _, _, rfl, o_ints, rfl, of_decide_eq_true (by kernel_rfl)⟩).imp
    fun T ⟨Ts, hT, T0, _, e0, ⟨a0, q0, l0, _⟩, T1, _, e1, ⟨a1, q1, l1, _⟩, T2, _, e2, ⟨a2, q2, l2, _⟩, e3⟩ => by
      subst e3; subst e2; subst e1; subst e0; subst hT
      exact ⟨⟨a0, a1, a2⟩, by rw [er_st]; simp only [List.map_cons, List.map_nil, q0, q1, q2], l0, l1, l2⟩
set_option maxRecDepth 20000 in
theorem o_W : OpensT enc Try.prog W0 118 fun T => ∃ x : W, er T = eW true x ∧ x.tb.length ≤ 9223372036854775807 :=
  (opensT_struct Try.underlying118 (Qs := [_, _, _]) ⟨rfl, _, _, rfl, o_int, by kernel_rfl, _, _, rfl, o_int, by kernel_rfl, _, _, rfl, o_ints, rfl, of_decide_eq_true (by kernel_rfl)⟩).imp
    fun T ⟨Ts, hT, T0, _, e0, ⟨a0, q0, _⟩, T1, _, e1, ⟨a1, q1, _⟩, T2, _, e2, ⟨a2, q2, l2, _⟩, e3⟩ => by
      subst e3; subst e2; subst e1; subst e0; subst hT
      exact ⟨⟨a0, a1, a2⟩, by rw [er_st]; simp only [List.map_cons, List.map_nil, q0, q1, q2], l2⟩
theorem o_rW : OpensT enc Try.prog W0 65 fun T => ∃ l : List W, er T = rW true true l ∧ l.length ≤ 9223372036854775807 ∧ ∀ x ∈ l, x.tb.length ≤ 9223372036854775807 :=
  opensT_rowOf (k := ⟨3, true⟩) Try.underlying65 (by kernel_rfl) (by decide) o_W (fun h => by cases h)
end
theorem told13 {W0 : World} {T0 T2 T3 : LT} {a : List W} {s : Sx} {n : Int} (m0 : Mem W0 T0) (m2 : Mem W0 T2) (m3 : Mem W0 T3) (w0 : Tree.own T0 = []) (w2 : Tree.own T2 = []) (w3 : Tree.own T3 = []) (e0 : er T0 = rW true true a) (e2 : er T2 = eS true s) (e3 : er T3 = i64 n)
    (h1 : sizeL a) (h3 : s.loc.length ≤ 9223372036854775807 ∧ s.mem.length ≤ 9223372036854775807 ∧ s.told.length ≤ 9223372036854775807) :
    Calls Try.prog 13 #[valOf T0, valOf T2, valOf T3] W0 fun e w' => e = .returned (.bool true) ∧ Go.RowKit.Below W0.heap.size W0 w' :=
  calls_ro (cx := cx) ok (f := 13) rfl (Ts := [T0, T2, T3]) (v := .bool true) (fun T hT => by
      simp only [List.mem_cons, List.not_mem_nil, or_false] at hT
      rcases hT with rfl | rfl | rfl <;> assumption)
    (fun T hT => by
      simp only [List.mem_cons, List.not_mem_nil, or_false] at hT
      rcases hT with rfl | rfl | rfl <;> assumption)
    (by rw [List.map_cons, List.map_cons, List.map_cons, List.map_nil, e0, e2, e3]; exact t13 a s n h1 h3)
end Go.Tree.M
