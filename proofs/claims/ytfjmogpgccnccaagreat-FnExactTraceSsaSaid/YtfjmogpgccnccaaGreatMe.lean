/- What these points come to: runs; the law answers true. Conditions: none. -/
import Derived.Test.YtfjmogpgccnccaaGreatMd
import Derived.Test.YtfjmogpgccnccaaGreatMc
import Derived.Test.YtfjmogpgccnccaaGreatMh
/- An ssa is run: the reference. -/
namespace Go.Tree.Q
open Go.Proofs Go.Tree.Cg
set_option linter.unusedVariables false
set_option linter.unusedSimpArgs false
/-- A good ssa, with where its values come to be. -/
structure Gd (s : Sa) (D A : List Int) : Prop where
  n1 : 0 < s.parts.length
  n11 : s.parts.length ≤ 11
  v : 12 ≤ s.values ∧ s.values ≤ 250
  G : ∀ p ∈ s.parts, partG s p
  p0 : (s.parts.getD 0 default).params = []
  rc : ∀ k, k < s.parts.length → Star (Ed (nextN s) []) 0 k
  df : Df s D A
  us : ∀ (k : Nat) (h : k < s.parts.length), usesP s (nextN s) D A k s.parts[k]
theorem gd_of {s : Sa} (h : goodS s) : ∃ D A, Gd s D A := by
  obtain ⟨⟨a, b⟩, c, d, e, f, st, h1, h2⟩ := h
  exact ⟨st.1, st.2, a, b, c, d, e, f, df_of h1, h2⟩
theorem Gd.small {s : Sa} {D A : List Int} (h : Gd s D A) (hs : smallA s) {k : Nat} (hk : k < s.parts.length) : smallP s.parts[k] := hs.2 _ (List.getElem_mem hk)
/-- What stands when a part is begun: what it is handed. -/
structure Pre (s : Sa) (D A : List Int) (k : Nat) (h w : List Int) (x : Sx) : Prop where
  hk : k < s.parts.length
  hl : s.parts[k].params.length = h.length
  ok : Okw s D A k 0 (setPs s.parts[k].params h w) x
abbrev eR (r : Rn) : TV := .st [eS false r.st, i64 r.fin, i64 r.n, rI false r.w, i64 r.last, i64 r.twos]
abbrev ps (s : Sa) : List TV := s.parts.map (ePt false false)
/-- A step does what it is told to: what the evaluator asks. -/
structure Stp1 (m : Int) (x : F) (w : List Int) (s : Sx) : Prop where
  fm : flatM m x
  wl : w.length = m.toNat
  us : ∀ v ∈ usesV x, wordP (rdV w v)
  ml : s.mem.length = 16
  tl : s.told.length ≤ 100
theorem Stp1.a {m : Int} {x : F} {w : List Int} {s : Sx} (h : Stp1 m x w s) (c : x.op ≠ 1) : wordP (rdV w x.a) := h.us _ (by unfold usesV; rw [if_neg c]; split <;> simp)
set_option maxHeartbeats 1000000 in
theorem st46 {fuel : Int} {s : Sa} {x : Sx} {e n last twos : Int} {w : List Int} {p : Pt} {y : F} {j : Int} (h : Stp1 s.values y w x) :
    ((stepV y w x).1 = true → ∀ r, S cx 46 (B46_2 fuel (ps s) s.values (x.loc.map i64) ((stepV y w x).2.2.mem.map i64) ((stepV y w x).2.2.told.map i64) e n ((stepV y w x).2.1.map i64) last twos (p.params.map i64) (p.code.map eF) p.go p.test (p.next.map i64) (p.args.map (rI false)) (w64 (j + 1))) = some r →
      S cx 46 (G46_3 fuel (ps s) s.values (x.loc.map i64) (x.mem.map i64) (x.told.map i64) e n (w.map i64) last twos (p.params.map i64) (p.code.map eF) p.go p.test (p.next.map i64) (p.args.map (rI false)) y.op y.fdo y.dst y.a y.b y.n j) = some r) ∧
    ((stepV y w x).1 = false → S cx 46 (G46_3 fuel (ps s) s.values (x.loc.map i64) (x.mem.map i64) (x.told.map i64) e n (w.map i64) last twos (p.params.map i64) (p.code.map eF) p.go p.test (p.next.map i64) (p.args.map (rI false)) y.op y.fdo y.dst y.a y.b y.n j) = some ([eR ⟨(stepV y w x).2.2, (stepV y w x).2.1, 2, n, last, twos⟩], [])) := by
  obtain ⟨op, fdo, dst, a, b, n'⟩ := y
  obtain ⟨loc, mem, told⟩ := x
  have hvl : w.length = s.values.toNat := h.wl
  have hml : mem.length = 16 := h.ml
  have htl : told.length ≤ 100 := h.tl
  have e1 : (w.map i64).length = s.values.toNat := by rw [List.length_map, hvl]
  have e2 : (mem.map i64).length = 16 := by rw [List.length_map, hml]
  have ha := h.a
  obtain ⟨_, _, hx⟩ := h.fm
  simp only at hx ha
  have lim0 : lim = 140737488355328 := rfl
  dsimp only
  rcases (show op = 1 ∨ op = 2 ∨ op = 3 ∨ op = 4 ∨ op = 5 ∨ op = 6 by omega) with rfl | rfl | rfl | rfl | rfl | rfl
  · refine ⟨fun _ r hr => eG46_3 (bif_pos rfl (ck_pos (dT2 (by omega)) ?_)), fun h => by cases h⟩
    rw [set_I]; exact hr
  · refine ⟨fun _ r hr => eG46_3 (bif_neg rfl (bif_pos rfl (ck_pos (dT2 (by omega)) ?_))), fun h => by cases h⟩
    rw [getD_I (by omega), S_int]
    refine ck_pos (dT2 (by omega)) ?_
    rw [set_I]; exact hr
  · have es : stepV ⟨3, fdo, dst, a, b, n'⟩ w ⟨loc, mem, told⟩ = (if (doV fdo (rdV w a) (rdV w b)).2 = true then (true, w.set dst.toNat (doV fdo (rdV w a) (rdV w b)).1, ⟨loc, mem, told⟩) else (false, w, ⟨loc, mem, told⟩)) := rfl
    rw [es]
    have start : ∀ r, S cx 46 (.bif (!(doV fdo (rdV w a) (rdV w b)).2) (.ret [eR ⟨⟨loc, mem, told⟩, w, 2, n, last, twos⟩] [])
        (.ck (decide (0 ≤ dst) && decide (dst < (((w.map i64).length : Nat) : Int))) <| B46_2 fuel (ps s) s.values (loc.map i64) (mem.map i64) (told.map i64) e n ((w.map i64).set (0 + dst.toNat) (i64 (doV fdo (rdV w a) (rdV w b)).1)) last twos (p.params.map i64) (p.code.map eF) p.go p.test (p.next.map i64) (p.args.map (rI false)) (w64 (j + 1)))) = some r →
        S cx 46 (G46_3 fuel (ps s) s.values (loc.map i64) (mem.map i64) (told.map i64) e n (w.map i64) last twos (p.params.map i64) (p.code.map eF) p.go p.test (p.next.map i64) (p.args.map (rI false)) 3 fdo dst a b n' j) = some r := fun r hr => by
      refine eG46_3 (bif_neg rfl (bif_neg rfl (bif_pos rfl (ck_pos (dT2 (by omega)) ?_))))
      rw [getD_I (by omega), S_int]
      refine ck_pos (dT2 (by omega)) ?_
      rw [getD_I (by omega), S_int, C132_S (t132 ..)]
      exact hr
    cases hd : (doV fdo (rdV w a) (rdV w b)).2 with
    | true =>
      rw [hd] at start
      refine ⟨fun _ r hr => start r (bif_neg rfl (ck_pos (dT2 (by omega)) ?_)), fun h => by cases h⟩
      rw [set_I]; exact hr
    | false =>
      rw [hd] at start
      exact ⟨fun h => (by cases h), fun _ => start _ (bif_pos rfl rfl)⟩
  · have es : stepV ⟨4, fdo, dst, a, b, n'⟩ w ⟨loc, mem, told⟩ = (if rdV w a ≥ 16 then (false, w, ⟨loc, mem, told⟩) else (true, w.set dst.toNat (rdV mem (rdV w a)), ⟨loc, mem, told⟩)) := rfl
    obtain ⟨a0, a1⟩ := ha (by decide)
    rw [es]
    by_cases c : rdV w a ≥ 16
    · rw [if_pos c]
      refine ⟨fun h => (by cases h), fun _ => eG46_3 (bif_neg rfl (bif_neg rfl (bif_neg rfl (bif_pos rfl (ck_pos (dT2 (by omega)) ?_)))))⟩
      rw [getD_I (by omega), S_int]
      exact bif_pos (dT c) rfl
    · rw [if_neg c]
      refine ⟨fun _ r hr => eG46_3 (bif_neg rfl (bif_neg rfl (bif_neg rfl (bif_pos rfl (ck_pos (dT2 (by omega)) ?_))))), fun h => by cases h⟩
      rw [getD_I (by omega), S_int]
      refine bif_neg (dF c) (ck_pos (dT2 (by omega)) ?_)
      rw [S_int]
      refine ck_pos (dT2 (by omega)) ?_
      rw [getD_I (by omega), S_int]
      refine ck_pos (dT2 (by omega)) ?_
      rw [set_I]; exact hr
  · have es : stepV ⟨5, fdo, dst, a, b, n'⟩ w ⟨loc, mem, told⟩ = (if rdV w a ≥ 16 then (false, w, ⟨loc, mem, told⟩) else (true, w, ⟨loc, mem.set (rdV w a).toNat (rdV w b), told⟩)) := rfl
    obtain ⟨a0, a1⟩ := ha (by decide)
    rw [es]
    by_cases c : rdV w a ≥ 16
    · rw [if_pos c]
      refine ⟨fun h => (by cases h), fun _ => eG46_3 (bif_neg rfl (bif_neg rfl (bif_neg rfl (bif_neg rfl (bif_pos rfl (ck_pos (dT2 (by omega)) ?_))))))⟩
      rw [getD_I (by omega), S_int]
      exact bif_pos (dT c) rfl
    · rw [if_neg c]
      refine ⟨fun _ r hr => eG46_3 (bif_neg rfl (bif_neg rfl (bif_neg rfl (bif_neg rfl (bif_pos rfl (ck_pos (dT2 (by omega)) ?_)))))), fun h => by cases h⟩
      rw [getD_I (by omega), S_int]
      refine bif_neg (dF c) (ck_pos (dT2 (by omega)) ?_)
      rw [S_int]
      refine ck_pos (dT2 (by omega)) ?_
      rw [getD_I (by omega), S_int]
      refine ck_pos (dT2 (by omega)) ?_
      rw [set_I]; exact hr
  · have es : stepV ⟨6, fdo, dst, a, b, n'⟩ w ⟨loc, mem, told⟩ = (if told.length = 100 then (false, w, ⟨loc, mem, told⟩) else (true, w, ⟨loc, mem, told ++ [rdV w a]⟩)) := rfl
    rw [es]
    have e3 : (told.map i64).length = told.length := List.length_map _
    by_cases c : told.length = 100
    · rw [if_pos c]
      refine ⟨fun h => (by cases h), fun _ => eG46_3 (bif_neg rfl (bif_neg rfl (bif_neg rfl (bif_neg rfl (bif_neg rfl (bif_pos (by rw [e3, c]; rfl) rfl))))))⟩
    · rw [if_neg c]
      refine ⟨fun _ r hr => eG46_3 (bif_neg rfl (bif_neg rfl (bif_neg rfl (bif_neg rfl (bif_neg rfl (bif_neg (by rw [e3, beq_eq_false_iff_ne]; omega) (ck_pos (dT2 (by omega)) ?_))))))), fun h => by cases h⟩
      rw [getD_I (by omega), S_int]
      refine ck_pos (app_lim (ys := [rdV w a]) (by simp; omega)) ?_
      rw [List.map_append] at hr
      exact hr
end Go.Tree.Q

/- An ssa is run: what stands; the reference. -/
namespace Go.Tree.Q
open Go.Proofs Go.Tree.Cg
set_option linter.unusedVariables false
set_option linter.unusedSimpArgs false
set_option linter.unusedSectionVars false
/-- What a run's leavings are. -/
structure Szw (s : Sa) (w : List Int) (x : Sx) : Prop where
  wl : w.length = s.values.toNat
  ml : x.mem.length = 16
  tl : x.told.length ≤ 100
  ll : x.loc.length = 8
theorem Okw.sz {s : Sa} {D A : List Int} {k : Nat} {i : Int} {w : List Int} {x : Sx} (h : Okw s D A k i w x) : Szw s w x := ⟨h.wl, h.ml, h.tl, h.ll⟩
section
variable {s : Sa} {D A : List Int} (gd : Gd s D A) {k : Nat} (hk : k < s.parts.length)
include gd
theorem Gd.flat {j : Nat} (hj : j < s.parts[k].code.length) : flatM s.values s.parts[k].code[j] := (gd.G _ (List.getElem_mem hk)).1.2 _ (List.getElem_mem hj)
theorem Gd.stp {j : Nat} (hj : j < s.parts[k].code.length) {w : List Int} {x : Sx} (h : Okw s D A k j w x) : Stp1 s.values s.parts[k].code[j] w x := ⟨gd.flat hk hj, h.wl, h.uses hk hj (gd.us k hk), h.ml, h.tl⟩
theorem Okw.blk : ∀ (d j : Nat) (w : List Int) (x : Sx) (t : Int), s.parts[k].code.length - j = d → j ≤ s.parts[k].code.length → Okw s D A k j w x →
    Szw s (blkW (s.parts[k].code.drop j) w x t).2.1 (blkW (s.parts[k].code.drop j) w x t).2.2.1 ∧ ((blkW (s.parts[k].code.drop j) w x t).1 = true → Okw s D A k s.parts[k].code.length (blkW (s.parts[k].code.drop j) w x t).2.1 (blkW (s.parts[k].code.drop j) w x t).2.2.1) ∧ t ≤ (blkW (s.parts[k].code.drop j) w x t).2.2.2 ∧ (blkW (s.parts[k].code.drop j) w x t).2.2.2 ≤ t + (s.parts[k].code.length - j : Nat) := by
  intro d
  induction d with
  | zero =>
    intro j w x t hd hj h
    obtain rfl : j = s.parts[k].code.length := by omega
    rw [List.drop_length]
    exact ⟨h.sz, fun _ => h, Int.le_refl _, by simp [blkW]⟩
  | succ d ih =>
    intro j w x t hd hj h
    have hjl : j < s.parts[k].code.length := by omega
    have ht : t ≤ twoV s.parts[k].code[j] t ∧ twoV s.parts[k].code[j] t ≤ t + 1 := by unfold twoV; split <;> omega
    rw [drop_f hjl, blkW]
    by_cases c : (stepV s.parts[k].code[j] w x).1 = true
    · rw [if_pos c]
      obtain ⟨a1, a2, a3, a4⟩ := ih (j + 1) _ _ (twoV s.parts[k].code[j] t) (by omega) (by omega) (h.step gd.df hk hjl (gd.flat hk hjl) (gd.us k hk) c)
      exact ⟨a1, a2, by omega, by omega⟩
    · rw [if_neg c]
      obtain ⟨m1, m2, m3, m4, m5⟩ := stepV_st (gd.flat hk hjl) (h.uses hk hjl (gd.us k hk)) h.ml h.mw h.tl
      exact ⟨⟨m5.trans h.wl, m1, m3, by rw [m4]; exact h.ll⟩, fun h => absurd h (by simp), ht.1, by have := ht.2; simp only; omega⟩
theorem Gd.ends {w : List Int} {x : Sx} (h : Okw s D A k s.parts[k].code.length w x) : ∀ v ∈ endsV s.parts[k], wordP (rdV w v) ∧ 0 ≤ v ∧ v.toNat < w.length := fun v hv => by
  have := (gd.us k hk).2 v hv
  exact ⟨h.th v this, this.1, by rw [h.wl]; have h1 := this.2.1; have h0 := this.1; omega⟩
theorem Gd.test {w : List Int} {x : Sx} (h : Okw s D A k s.parts[k].code.length w x) (ht : testP s.parts[k]) : wordP (rdV w s.parts[k].test) ∧ 0 ≤ s.parts[k].test ∧ s.parts[k].test.toNat < w.length :=
  gd.ends hk h _ (by unfold endsV; rw [if_pos ht]; simp)
theorem Gd.arg {w : List Int} {x : Sx} (h : Okw s D A k s.parts[k].code.length w x) {i : Nat} (hi : i < s.parts[k].args.length) : ∀ v ∈ s.parts[k].args[i], wordP (rdV w v) ∧ 0 ≤ v ∧ v.toNat < w.length := fun v hv =>
  gd.ends hk h _ (by unfold endsV; exact List.mem_append.2 (.inr (List.mem_flatten.2 ⟨_, List.getElem_mem hi, hv⟩)))
theorem Gd.way {w : List Int} {x : Sx} (h : Okw s D A k s.parts[k].code.length w x) (h34 : ¬ (s.parts[k].go = 3 ∨ s.parts[k].go = 4)) : 0 ≤ wayV s.parts[k] w ∧ wayV s.parts[k] w < s.parts[k].next.length ∧ s.parts[k].args.length = s.parts[k].next.length := by
  obtain ⟨_, _, ⟨_, _, h2⟩, h3⟩ := gd.G _ (List.getElem_mem hk)
  unfold argM at h3
  rw [if_neg (fun h => h34 (.inl h))] at h3
  refine ⟨?_, ?_, h3.1⟩
  · unfold wayV
    split
    · split <;> omega
    · split
      · rename_i c
        have := (gd.test hk h (.inr c)).1.1
        split <;> omega
      · omega
  · unfold wayV
    split
    · split <;> omega
    · split
      · split <;> omega
      · omega
/-- A part goes on at another one. -/
theorem Gd.next {w : List Int} {x : Sx} (h : Okw s D A k s.parts[k].code.length w x) (h34 : ¬ (s.parts[k].go = 3 ∨ s.parts[k].go = 4)) :
    1 ≤ rdV s.parts[k].next (wayV s.parts[k] w) ∧ Pre s D A (rdV s.parts[k].next (wayV s.parts[k] w)).toNat ((s.parts[k].args.getD (wayV s.parts[k] w).toNat []).map (rdV w)) w x := by
  obtain ⟨w0, w1, w2⟩ := gd.way hk h h34
  have hg := gd.G _ (List.getElem_mem hk)
  have hwl : (wayV s.parts[k] w).toNat < s.parts[k].next.length := by omega
  have e1 : rdV s.parts[k].next (wayV s.parts[k] w) = s.parts[k].next[(wayV s.parts[k] w).toNat] := by unfold rdV; rw [List.getD_eq_getElem?_getD, List.getElem?_eq_getElem hwl]; rfl
  have e2 : s.parts[k].args.getD (wayV s.parts[k] w).toNat [] = s.parts[k].args[(wayV s.parts[k] w).toNat]'(by omega) := by rw [List.getD_eq_getElem?_getD, List.getElem?_eq_getElem (by omega)]; rfl
  obtain ⟨n1, n2⟩ := hg.2.1 _ (List.getElem_mem hwl)
  rw [← e1] at n1 n2
  have hk2 : (rdV s.parts[k].next (wayV s.parts[k] w)).toNat < s.parts.length := by omega
  have h3 := hg.2.2.2
  unfold argM at h3
  rw [if_neg (fun h => h34 (.inl h))] at h3
  have h4 := h3.2 _ hwl
  have e3 : s.parts[k].next.getD (wayV s.parts[k] w).toNat 0 = rdV s.parts[k].next (wayV s.parts[k] w) := rfl
  have e4 : s.parts.getD (rdV s.parts[k].next (wayV s.parts[k] w)).toNat default = s.parts[(rdV s.parts[k].next (wayV s.parts[k] w)).toNat] := by rw [List.getD_eq_getElem?_getD, List.getElem?_eq_getElem hk2]; rfl
  rw [e3, e4] at h4
  refine ⟨n1, hk2, by rw [List.length_map, h4], ?_⟩
  refine Okw.edge gd.df hk2 hk h (gd.rc k hk) ⟨by rw [nextN_len]; exact hk, ?_, by simp⟩ (by rw [List.length_map, h4]) (fun y hy => ?_)
  · rw [nextN_at s (by rw [nextN_len]; exact hk)]
    exact List.mem_map.2 ⟨_, List.getElem_mem hwl, by rw [e1]⟩
  · obtain ⟨v, hv, rfl⟩ := List.mem_map.1 hy
    rw [e2] at hv
    exact (gd.arg hk h (by omega) v hv).1
end
section
variable {s : Sa} {D A : List Int} (gd : Gd s D A) {k : Nat} (hk : k < s.parts.length) {fuel : Int}
include gd
/-- A part's steps. -/
theorem code46 {n last : Int} {e : Int} : ∀ (d j : Nat) (w : List Int) (x : Sx) (t : Int), s.parts[k].code.length - j = d → j ≤ s.parts[k].code.length → Okw s D A k j w x → 0 ≤ t → t + ((s.parts[k].code.length - j : Nat) : Int) ≤ 1000000 →
    ((blkW (s.parts[k].code.drop j) w x t).1 = true → ∀ r, S cx 46 (H46_2 fuel (ps s) s.values ((blkW (s.parts[k].code.drop j) w x t).2.2.1.loc.map i64) ((blkW (s.parts[k].code.drop j) w x t).2.2.1.mem.map i64) ((blkW (s.parts[k].code.drop j) w x t).2.2.1.told.map i64) e n ((blkW (s.parts[k].code.drop j) w x t).2.1.map i64) last (blkW (s.parts[k].code.drop j) w x t).2.2.2 (s.parts[k].params.map i64) (s.parts[k].code.map eF) s.parts[k].go s.parts[k].test (s.parts[k].next.map i64) (s.parts[k].args.map (rI false)) (s.parts[k].code.length : Int)) = some r →
      S cx 46 (H46_2 fuel (ps s) s.values (x.loc.map i64) (x.mem.map i64) (x.told.map i64) e n (w.map i64) last t (s.parts[k].params.map i64) (s.parts[k].code.map eF) s.parts[k].go s.parts[k].test (s.parts[k].next.map i64) (s.parts[k].args.map (rI false)) (j : Int)) = some r) ∧
    ((blkW (s.parts[k].code.drop j) w x t).1 = false → S cx 46 (H46_2 fuel (ps s) s.values (x.loc.map i64) (x.mem.map i64) (x.told.map i64) e n (w.map i64) last t (s.parts[k].params.map i64) (s.parts[k].code.map eF) s.parts[k].go s.parts[k].test (s.parts[k].next.map i64) (s.parts[k].args.map (rI false)) (j : Int)) = some ([eR ⟨(blkW (s.parts[k].code.drop j) w x t).2.2.1, (blkW (s.parts[k].code.drop j) w x t).2.1, 2, n, last, (blkW (s.parts[k].code.drop j) w x t).2.2.2⟩], [])) := by
  have h60 := (gd.G _ (List.getElem_mem hk)).1.1
  intro d
  induction d with
  | zero =>
    intro j w x t hd hj h ht0 ht
    obtain rfl : j = s.parts[k].code.length := by omega
    rw [List.drop_length]
    exact ⟨fun _ r hr => hr, fun h => by cases h⟩
  | succ d ih =>
    intro j w x t hd hj h ht0 ht
    have hjl : j < s.parts[k].code.length := by omega
    have hst := gd.stp hk hjl h
    obtain ⟨q1, q2⟩ := st46 (fuel := fuel) (e := e) (n := n) (last := last) (twos := twoV s.parts[k].code[j] t) (p := s.parts[k]) (j := (j : Int)) hst
    obtain ⟨m1, m2, m3, m4, m5⟩ := stepV_st (gd.flat hk hjl) (h.uses hk hjl (gd.us k hk)) h.ml h.mw h.tl
    have start : ∀ r, S cx 46 (G46_3 fuel (ps s) s.values (x.loc.map i64) (x.mem.map i64) (x.told.map i64) e n (w.map i64) last (twoV s.parts[k].code[j] t) (s.parts[k].params.map i64) (s.parts[k].code.map eF) s.parts[k].go s.parts[k].test (s.parts[k].next.map i64) (s.parts[k].args.map (rI false)) s.parts[k].code[j].op s.parts[k].code[j].fdo s.parts[k].code[j].dst s.parts[k].code[j].a s.parts[k].code[j].b s.parts[k].code[j].n (j : Int)) = some r →
        S cx 46 (H46_2 fuel (ps s) s.values (x.loc.map i64) (x.mem.map i64) (x.told.map i64) e n (w.map i64) last t (s.parts[k].params.map i64) (s.parts[k].code.map eF) s.parts[k].go s.parts[k].test (s.parts[k].next.map i64) (s.parts[k].args.map (rI false)) (j : Int)) = some r := fun r hr => by
      refine eH46_2 (bif_pos (dT (by rw [len_f]; omega)) (ck_pos (dT2 (by rw [len_f]; omega)) ?_))
      rw [cf_at hjl, V6_1_S]
      unfold twoV at hr
      by_cases c3 : s.parts[k].code[j].op = 3
      · rw [if_pos c3] at hr
        refine bif_pos (by rw [beq_iff_eq]; exact c3) ?_
        rw [w64_id (by omega) (by omega)]
        exact hr
      · rw [if_neg c3] at hr
        exact bif_neg (by rw [beq_eq_false_iff_ne]; exact c3) hr
    have ht2 : t ≤ twoV s.parts[k].code[j] t ∧ twoV s.parts[k].code[j] t ≤ t + 1 := by unfold twoV; split <;> omega
    rw [drop_f hjl, blkW]
    by_cases c : (stepV s.parts[k].code[j] w x).1 = true
    · rw [if_pos c]
      obtain ⟨i1, i2⟩ := ih (j + 1) _ _ (twoV s.parts[k].code[j] t) (by omega) (by omega) (h.step gd.df hk hjl (gd.flat hk hjl) (gd.us k hk) c) (by omega) (by omega)
      have go : ∀ r, S cx 46 (H46_2 fuel (ps s) s.values ((stepV s.parts[k].code[j] w x).2.2.loc.map i64) ((stepV s.parts[k].code[j] w x).2.2.mem.map i64) ((stepV s.parts[k].code[j] w x).2.2.told.map i64) e n ((stepV s.parts[k].code[j] w x).2.1.map i64) last (twoV s.parts[k].code[j] t) (s.parts[k].params.map i64) (s.parts[k].code.map eF) s.parts[k].go s.parts[k].test (s.parts[k].next.map i64) (s.parts[k].args.map (rI false)) ((j + 1 : Nat) : Int)) = some r →
          S cx 46 (H46_2 fuel (ps s) s.values (x.loc.map i64) (x.mem.map i64) (x.told.map i64) e n (w.map i64) last t (s.parts[k].params.map i64) (s.parts[k].code.map eF) s.parts[k].go s.parts[k].test (s.parts[k].next.map i64) (s.parts[k].args.map (rI false)) (j : Int)) = some r := fun r hr => by
        rw [m4] at hr
        refine start r (q1 c r (back_of ?_))
        rw [inc64 hjl (by omega)]
        exact hr
      exact ⟨fun hb r hr => go r (i1 hb r hr), fun hb => go _ (i2 hb)⟩
    · rw [if_neg c]
      refine ⟨fun h => (by cases h), fun _ => start _ (q2 (by simpa using c))⟩
/-- A part is handed words. -/
theorem params46 (hs : smallA s) {n last t : Int} {e : Int} {x : Sx} (h : List Int) (hl : s.parts[k].params.length = h.length) : ∀ (d j : Nat) (w : List Int), s.parts[k].params.length - j = d → j ≤ s.parts[k].params.length → w.length = s.values.toNat → ∀ r,
    S cx 46 (H46_2 fuel (ps s) s.values (x.loc.map i64) (x.mem.map i64) (x.told.map i64) e n ((setPs (s.parts[k].params.drop j) (h.drop j) w).map i64) last t (s.parts[k].params.map i64) (s.parts[k].code.map eF) s.parts[k].go s.parts[k].test (s.parts[k].next.map i64) (s.parts[k].args.map (rI false)) 0) = some r →
    S cx 46 (H46_1 fuel (ps s) s.values (x.loc.map i64) (x.mem.map i64) (x.told.map i64) e n (w.map i64) last t (h.map i64) (s.parts[k].params.map i64) (s.parts[k].code.map eF) s.parts[k].go s.parts[k].test (s.parts[k].next.map i64) (s.parts[k].args.map (rI false)) (j : Int)) = some r := by
  have hv := gd.v
  intro d
  induction d with
  | zero =>
    intro j w hd hj hw r hr
    obtain rfl : j = s.parts[k].params.length := by omega
    rw [List.drop_length] at hr
    exact eH46_1 (bif_neg (dF (by rw [len_i]; omega)) hr)
  | succ d ih =>
    intro j w hd hj hw r hr
    have hjl : j < s.parts[k].params.length := by omega
    obtain ⟨p1, p2, _⟩ := gd.df.ev k hk (s.parts[k].params[j], -1) (evP_mem.2 (.inl ⟨List.getElem_mem hjl, rfl⟩))
    simp only at p1 p2
    have hpl := (gd.small hs hk).1
    rw [List.drop_eq_getElem_cons hjl, List.drop_eq_getElem_cons (show j < h.length by omega), setPs] at hr
    refine eH46_1 (bif_pos (dT (by rw [len_i]; omega)) (ck_pos (dT2 (by rw [len_i]; omega)) ?_))
    rw [i64_at hjl, S_int]
    refine ck_pos (dT2 (by rw [len_i]; omega)) ?_
    rw [i64_at (show j < h.length by omega), S_int]
    refine ck_pos (dT2 (by rw [len_i]; omega)) (back_of ?_)
    rw [set_I, inc64 hjl (by omega)]
    exact ih (j + 1) _ (by omega) (by omega) (by rw [List.length_set]; exact hw) r hr
theorem t92 {w : List Int} {x : Sx} (h : Okw s D A k s.parts[k].code.length w x) (hs : smallA s) (q : Bool) : tw cx 92 [ePt true q s.parts[k], rI true w] = some ([i64 (wayV s.parts[k] w)], []) := by
  have hp := gd.small hs hk
  have hn := hp.2.2.1
  refine e92 ?_
  by_cases c2 : s.parts[k].go = 2
  · obtain ⟨⟨r0, r1⟩, v0, v1⟩ := gd.test hk h (.inl c2)
    refine bif_pos (by rw [beq_iff_eq]; exact c2) (ck_pos (dT2 (by rw [len_i]; omega)) ?_)
    rw [getD_I v1, S_int, C133_S (t133 _), S_ret, wayV, if_pos c2]
    by_cases cz : rdV w s.parts[k].test = 0
    · rw [if_neg (by simpa using cz), cz]; rfl
    · rw [if_pos cz, beq_eq_false_iff_ne.2 cz]; rfl
  · refine bif_neg (by rw [beq_eq_false_iff_ne]; exact c2) ?_
    by_cases c5 : s.parts[k].go = 5
    · obtain ⟨⟨r0, r1⟩, v0, v1⟩ := gd.test hk h (.inr c5)
      refine bif_pos (by rw [beq_iff_eq]; exact c5) (ck_pos (dT2 (by rw [len_i]; omega)) ?_)
      rw [getD_I v1, S_int, wayV, if_neg c2, if_pos c5, len_i]
      by_cases cz : rdV w s.parts[k].test ≥ s.parts[k].next.length
      · rw [if_pos cz]
        refine bif_neg (dF (by omega)) ?_
        rw [S_ret, w64_id (by omega) (by omega)]
      · rw [if_neg cz]
        refine bif_pos (dT (by omega)) (ck_pos (dT2 (by rw [len_i]; omega)) ?_)
        rw [S_int, S_ret]
    · refine bif_neg (by rw [beq_eq_false_iff_ne]; exact c5) ?_
      rw [S_ret, wayV, if_neg c2, if_neg c5]
/-- What is handed on. -/
theorem hand46 {n last t at' : Int} {e : Int} {w : List Int} {x : Sx} (l : List Int) (hl : l.length ≤ 1048576) (hw : ∀ v ∈ l, 0 ≤ v ∧ v.toNat < w.length) : ∀ (d j : Nat), l.length - j = d → j ≤ l.length → ∀ r,
    S cx 46 (H46_0 fuel (ps s) s.values (x.loc.map i64) (x.mem.map i64) (x.told.map i64) e n (w.map i64) last t ((l.map (rdV w)).map i64) at') = some r →
    S cx 46 (H46_5 fuel (ps s) s.values (x.loc.map i64) (x.mem.map i64) (x.told.map i64) e n (w.map i64) last t (((l.take j).map (rdV w)).map i64) at' (l.map i64) (j : Int)) = some r := by
  have lim0 : lim = 140737488355328 := rfl
  intro d
  induction d with
  | zero =>
    intro j hd hj r hr
    obtain rfl : j = l.length := by omega
    rw [List.take_length]
    exact eH46_5 (bif_neg (dF (by rw [len_i]; omega)) (back_of hr))
  | succ d ih =>
    intro j hd hj r hr
    have hjl : j < l.length := by omega
    obtain ⟨v0, v1⟩ := hw _ (List.getElem_mem hjl)
    refine eH46_5 (bif_pos (dT (by rw [len_i]; omega)) (ck_pos (dT2 (by rw [len_i]; omega)) ?_))
    rw [i64_at hjl, S_int]
    refine ck_pos (dT2 (by rw [len_i]; omega)) ?_
    rw [getD_I v1, S_int]
    refine ck_pos (decide_eq_true (by rw [len_i, List.length_map, List.length_take]; simp only [List.length_singleton]; omega)) (back_of ?_)
    rw [inc64 hjl (by omega)]
    have := ih (j + 1) (by omega) (by omega) r hr
    rw [List.take_add_one, List.getElem?_eq_getElem hjl, List.map_append, List.map_append] at this
    exact this
/-- What is kept where all ends. -/
theorem keep46 {n last t : Int} {e : Int} {w : List Int} {x : Sx} (l : List Int) (h3 : l.length = 3) (hw : ∀ v ∈ l, 0 ≤ v ∧ v.toNat < w.length) (h8 : x.loc.length = 8) : ∀ (d j : Nat), l.length - j = d → j ≤ l.length →
    S cx 46 (H46_4 (((l.take j).map (rdV w) ++ x.loc.drop j).map i64) (x.mem.map i64) (x.told.map i64) e n (w.map i64) last t (l.map i64) (j : Int)) = some ([eR ⟨{ x with loc := l.map (rdV w) ++ x.loc.drop 3 }, w, 1, n, last, t⟩], []) := by
  intro d
  induction d with
  | zero =>
    intro j hd hj
    obtain rfl : j = l.length := by omega
    rw [List.take_length, h3]
    refine eH46_4 (bif_neg (dF (by rw [len_i]; omega)) rfl)
  | succ d ih =>
    intro j hd hj
    have hjl : j < l.length := by omega
    obtain ⟨v0, v1⟩ := hw _ (List.getElem_mem hjl)
    have hlen : ((l.take j).map (rdV w) ++ x.loc.drop j).length = 8 := by rw [List.length_append, List.length_map, List.length_take, List.length_drop]; omega
    refine eH46_4 (bif_pos (dT (by rw [len_i]; omega)) (ck_pos (dT2 (by rw [len_i]; omega)) ?_))
    rw [i64_at hjl, S_int]
    refine ck_pos (dT2 (by rw [len_i]; omega)) ?_
    rw [getD_I v1, S_int]
    refine ck_pos (dT2 (by rw [len_i]; omega)) (back_of ?_)
    rw [set_i, inc64 hjl (by omega)]
    have e1 : ((l.take j).map (rdV w) ++ x.loc.drop j).set j (rdV w l[j]) = (l.take (j + 1)).map (rdV w) ++ x.loc.drop (j + 1) := by
      rw [List.set_append_right _ _ (by rw [List.length_map, List.length_take]; omega), List.length_map, List.length_take, show j - min j l.length = 0 by omega, List.drop_eq_getElem_cons (show j < x.loc.length by omega), List.set_cons_zero, List.take_add_one, List.getElem?_eq_getElem hjl, List.map_append, List.append_assoc]
      rfl
    rw [e1]
    exact ih (j + 1) (by omega) (by omega)
end
section
variable {s : Sa} {D A : List Int} (gd : Gd s D A)
include gd
theorem run46 (hs : smallA s) (fuel : Nat) (hf : fuel ≤ 2000) : ∀ (k n at' : Nat) (h w : List Int) (x : Sx) (last t : Int), n + k = fuel → Pre s D A at' h w x → w.length = s.values.toNat → 0 ≤ t → t ≤ 60 * n →
    S cx 46 (H46_0 (fuel : Int) (ps s) s.values (x.loc.map i64) (x.mem.map i64) (x.told.map i64) 0 (n : Int) (w.map i64) last t (h.map i64) (at' : Int)) = some ([eR (runS s k at' h w x n last t)], []) := by
  intro k
  induction k with
  | zero =>
    intro n at' h w x last t hn hp hw ht0 ht
    obtain rfl : n = fuel := by omega
    exact eH46_0 (bif_pos (by rw [beq_iff_eq]) rfl)
  | succ k ih =>
    intro n at' h w x last t hn hp hw ht0 ht
    have hk := hp.hk
    have h60 := (gd.G _ (List.getElem_mem hk)).1.1
    have e0 : s.parts.getD at' default = s.parts[at'] := by rw [List.getD_eq_getElem?_getD, List.getElem?_eq_getElem hk]; rfl
    obtain ⟨z1, z2, z3, z4⟩ := Okw.blk gd hk _ 0 (setPs s.parts[at'].params h w) x t rfl (Nat.zero_le _) hp.ok
    obtain ⟨q1, q2⟩ := code46 gd hk (fuel := (fuel : Int)) (n := (n : Int) + 1) (last := (at' : Int)) (e := 0) _ 0 (setPs s.parts[at'].params h w) x t rfl (Nat.zero_le _) hp.ok ht0 (by omega)
    rw [List.drop_zero] at z1 z2 z3 z4 q1 q2
    rw [runS, e0]
    have start : ∀ r, S cx 46 (H46_2 (fuel : Int) (ps s) s.values (x.loc.map i64) (x.mem.map i64) (x.told.map i64) 0 ((n : Int) + 1) ((setPs s.parts[at'].params h w).map i64) (at' : Int) t (s.parts[at'].params.map i64) (s.parts[at'].code.map eF) s.parts[at'].go s.parts[at'].test (s.parts[at'].next.map i64) (s.parts[at'].args.map (rI false)) 0) = some r →
        S cx 46 (H46_0 (fuel : Int) (ps s) s.values (x.loc.map i64) (x.mem.map i64) (x.told.map i64) 0 (n : Int) (w.map i64) last t (h.map i64) (at' : Int)) = some r := fun r hr => by
      refine eH46_0 (bif_neg (by rw [beq_eq_false_iff_ne]; omega) (ck_pos (dT2 (by rw [len_p]; omega)) ?_))
      rw [pt_at hk, V6_S, w64_id (by omega) (by omega)]
      exact params46 gd hk hs h hp.hl _ 0 w rfl (Nat.zero_le _) hw r (by rw [List.drop_zero, List.drop_zero]; exact hr)
    generalize hb : blkW s.parts[at'].code (setPs s.parts[at'].params h w) x t = R at *
    obtain ⟨ok, w', x', t'⟩ := R
    cases ok with
    | false => exact start _ (q2 rfl)
    | true =>
      have ho : Okw s D A at' s.parts[at'].code.length w' x' := z2 rfl
      dsimp only at z1 z3 z4 q1 ⊢
      refine start _ (q1 rfl _ (eH46_2 (bif_neg (dF (by rw [len_f]; omega)) ?_)))
      by_cases c3 : s.parts[at'].go = 3
      · rw [if_pos rfl, if_pos c3]
        have ha := (gd.G _ (List.getElem_mem hk)).2.2.2
        unfold argM at ha
        rw [if_pos c3] at ha
        have e1 : s.parts[at'].args.getD 0 [] = s.parts[at'].args[0]'(by omega) := by rw [List.getD_eq_getElem?_getD, List.getElem?_eq_getElem (by omega)]; rfl
        rw [e1] at ha
        have hr := row_at (l := s.parts[at'].args) (q := false) (show 0 < s.parts[at'].args.length by omega)
        rw [show (0 + ((0 : Nat) : Int).toNat) = 0 from rfl] at hr
        refine bif_pos (by rw [beq_iff_eq]; exact c3) (ck_pos (dT (by rw [len_r]; omega)) ?_)
        rw [hr, S_slR, endLoc, e1]
        have := keep46 gd (n := (n : Int) + 1) (last := (at' : Int)) (t := t') (e := 0) (s.parts[at'].args[0]'(by omega)) ha.2 (fun v hv => (gd.arg hk ho (by omega) v hv).2) ho.ll _ 0 rfl (Nat.zero_le _)
        rw [List.take_zero, List.drop_zero] at this
        exact this
      · rw [if_pos rfl, if_neg c3]
        refine bif_neg (by rw [beq_eq_false_iff_ne]; exact c3) ?_
        by_cases c4 : s.parts[at'].go = 4
        · rw [if_pos c4]
          exact bif_pos (by rw [beq_iff_eq]; exact c4) rfl
        · rw [if_neg c4]
          have h34 : ¬ (s.parts[at'].go = 3 ∨ s.parts[at'].go = 4) := by omega
          obtain ⟨w0, w1, w2⟩ := gd.way hk ho h34
          obtain ⟨n1, np⟩ := gd.next hk ho h34
          have hwl : (wayV s.parts[at'] w').toNat < s.parts[at'].args.length := by omega
          have hr := row_at (l := s.parts[at'].args) (q := false) hwl
          rw [show (((wayV s.parts[at'] w').toNat : Nat) : Int) = wayV s.parts[at'] w' by omega] at hr
          have e2 : s.parts[at'].args.getD (wayV s.parts[at'] w').toNat [] = s.parts[at'].args[(wayV s.parts[at'] w').toNat] := by rw [List.getD_eq_getElem?_getD, List.getElem?_eq_getElem hwl]; rfl
          refine bif_neg (by rw [beq_eq_false_iff_ne]; exact c4) ?_
          rw [C92_S (t92 gd hk ho hs false)]
          refine ck_pos (dT2 (by rw [len_i]; omega)) ?_
          rw [getD_I (by omega), S_int]
          refine ck_pos (dT2 (by rw [len_r]; omega)) ?_
          rw [hr, S_slR]
          have hlen := (gd.small hs hk).2.2.2.2 _ (List.getElem_mem hwl)
          have := hand46 gd (fuel := (fuel : Int)) (s := s) (n := (n : Int) + 1) (last := (at' : Int)) (t := t') (at' := rdV s.parts[at'].next (wayV s.parts[at'] w')) (e := 0) (w := w') (x := x') (s.parts[at'].args[(wayV s.parts[at'] w').toNat]) hlen (fun v hv => (gd.arg hk ho hwl v hv).2) _ 0 rfl (Nat.zero_le _) _ (by
            have hi := ih (n + 1) (rdV s.parts[at'].next (wayV s.parts[at'] w')).toNat ((s.parts[at'].args.getD (wayV s.parts[at'] w').toNat []).map (rdV w')) w' x' (at' : Int) t' (by omega) np ho.wl (by omega) (by omega)
            rw [show (((rdV s.parts[at'].next (wayV s.parts[at'] w')).toNat : Nat) : Int) = rdV s.parts[at'].next (wayV s.parts[at'] w') by omega, e2, show ((n + 1 : Nat) : Int) = (n : Int) + 1 by omega] at hi
            exact hi)
          rw [List.take_zero] at this
          rw [e2]
          exact this
end
end Go.Tree.Q

/- Good states; states are copied; a run begins. -/
namespace Go.Tree.Q
open Go.Proofs Go.Tree.Cg
set_option linter.unusedVariables false
set_option linter.unusedSimpArgs false
theorem lim_ok {n : Nat} (h : n ≤ 1073741824) : decide ((0 + n) * 8 < lim) = true := by
  have hl : lim = 140737488355328 := rfl
  rw [hl]; exact dT (by omega)
theorem t152 (n : Int) : tw cx 152 [i64 n] = some ([tb (!decide (wordP n))], []) := by
  refine e152 ?_
  rw [N152, C153_S (t153 n), S_ret]; rfl
theorem t162 (xs : List Int) (hl : xs.length ≤ big) : ∃ r : Int, tw cx 162 [rI true xs, .cl 152 []] = some ([i64 r], []) ∧ decide (r ≥ 0) = xs.any fun x => !decide (wordP x) := by
  obtain ⟨r, h1, h2⟩ := find_list (xs := xs) (q := fun x => !decide (wordP x)) (H := fun i => S cx 162 (H162_0 (xs.map i64) i)) (fun j x hx => by
    have hj := lt_of_at hx
    have e1 : (xs.map i64).length = xs.length := List.length_map _
    have hb : xs.length ≤ 1073741824 := hl
    refine ⟨fun hq => ?_, fun hq r h => ?_⟩
    · refine eH162_0 (bif_pos (dT (by omega)) (ck_pos (dT2 (by omega)) ?_))
      rw [getD_at hx, S_int, C152_S (t152 x)]
      exact bif_pos hq rfl
    · refine eH162_0 (bif_pos (dT (by omega)) (ck_pos (dT2 (by omega)) ?_))
      rw [getD_at hx, S_int, C152_S (t152 x)]
      refine bif_neg hq (back_of ?_)
      rw [inc64 hj hb]
      exact h) (eH162_0 (bif_neg (dF (by simp)) rfl))
  exact ⟨r, e162 h1, h2⟩
theorem t126w (xs : List Int) (hl : xs.length ≤ big) : tw cx 126 [rI true xs, .cl 152 []] = some ([tb (xs.any fun x => !decide (wordP x))], []) := by
  obtain ⟨r, h1, h2⟩ := t162 xs hl
  refine e126 ?_
  rw [N126, C162_S h1, S_ret, h2]
theorem t105 (xs : List Int) (hl : xs.length ≤ big) : tw cx 105 [rI true xs] = some ([tb (decide (∀ x ∈ xs, wordP x))], []) := by
  refine e105 ?_
  rw [N105, C126_1_S (t126w xs hl), S_ret, not_any]
theorem t89 (xs : List Int) (many : Int) (hl : xs.length ≤ big) : tw cx 89 [rI true xs, i64 many] = some ([tb (decide ((∀ x ∈ xs, wordP x) ∧ (xs.length : Int) = many))], []) := by
  refine e89 ?_
  have := all_list (xs := xs) (q := fun x => decide (wordP x)) (H := fun i => S cx 89 (H89_0 (xs.map i64) many i)) (yes := fun _ => none) (no := ([tb false], [])) (fun j x hx => by
    have hj := lt_of_at hx
    have e1 : (xs.map i64).length = xs.length := List.length_map _
    have hb : xs.length ≤ 1073741824 := hl
    refine ⟨fun hq r h => ?_, fun hq => ?_⟩
    · refine eH89_0 (bif_pos (dT (by omega)) (ck_pos (dT2 (by omega)) ?_))
      rw [getD_at hx, S_int, C80_S (t80 ..)]
      refine bif_neg (by rw [show decide (0 ≤ x ∧ x ≤ 65535) = true from hq]; rfl) (back_of ?_)
      rw [inc64 hj hb]
      exact h
    · refine eH89_0 (bif_pos (dT (by omega)) (ck_pos (dT2 (by omega)) ?_))
      rw [getD_at hx, S_int, C80_S (t80 ..)]
      exact bif_pos (by rw [show decide (0 ≤ x ∧ x ≤ 65535) = false from hq]; rfl) rfl) (eH89_0 (bif_neg (dF (by simp)) rfl))
  refine Eq.trans this ?_
  rw [all_dec]
  by_cases c : ∀ x ∈ xs, wordP x
  · rw [if_pos (by simpa using c)]; exact leaf (by rw [List.length_map, beq_iff_eq]; exact ⟨fun h => ⟨c, h⟩, fun h => h.2⟩)
  · rw [if_neg (by simpa using c)]; exact leaf (by simp only [Bool.false_eq_true, false_iff]; exact fun h => c h.1)
theorem t44 (s : Sx) (h : smallS s) : tw cx 44 [eS true s] = some ([tb (decide (stateP s))], []) := by
  refine e44 ?_
  simp only [N44, C89_S (t89 _ _ h.1), C89_S (t89 _ _ h.2.1), List.length_map, C89_S (t89 _ _ h.2.2), S_bif, S_ret, decide_eq_true_eq]
  have e : ((s.told.length : Nat) : Int) ≤ 100 ↔ s.told.length ≤ 100 := by omega
  have e1 : ((s.loc.length : Nat) : Int) = 8 ↔ s.loc.length = 8 := by omega
  have e2 : ((s.mem.length : Nat) : Int) = 16 ↔ s.mem.length = 16 := by omega
  simp only [e, e1, e2]
  repeat' split
  all_goals exact leaf (by simp only [stateP, decide_eq_true_eq, Bool.false_eq_true, false_iff, true_iff, eq_self]; grind)
theorem t56 (s : Sx) (h : smallS s) : tw cx 56 [eS true s] = some ([tb (decide (stateP s))], []) := by
  refine e56 ?_
  simp only [N56, C105_S (t105 _ h.1), C105_S (t105 _ h.2.1), List.length_map, C105_S (t105 _ h.2.2), S_bif, S_ret, decide_eq_true_eq, beq_iff_eq]
  have e : ((s.told.length : Nat) : Int) ≤ 100 ↔ s.told.length ≤ 100 := by omega
  have e1 : ((s.loc.length : Nat) : Int) = 8 ↔ s.loc.length = 8 := by omega
  have e2 : ((s.mem.length : Nat) : Int) = 16 ↔ s.mem.length = 16 := by omega
  simp only [e, e1, e2]
  repeat' split
  all_goals exact leaf (by simp only [stateP, decide_eq_true_eq, Bool.false_eq_true, false_iff, true_iff, eq_self]; grind)
theorem t45 (n : Int) : tw cx 45 [i64 n] = some ([tb (decide (0 ≤ n ∧ n ≤ 2000))], []) := by
  refine e45 ?_
  rw [N45, C80_S (t80 ..), S_ret]
theorem t58 (s : Sx) (h : smallS s) : tw cx 58 [eS true s] = some ([eS false s], []) := by
  obtain ⟨h0, h1, h2⟩ := h
  have r0 : ∀ K, S cx 58 (C106 (s.loc.map i64) K) = S cx 58 (K (s.loc.map i64)) := fun K => C106_S (t106 _ h0)
  have r1 : ∀ K, S cx 58 (C106 (s.mem.map i64) K) = S cx 58 (K (s.mem.map i64)) := fun K => C106_S (t106 _ h1)
  have r2 : ∀ K, S cx 58 (C106 (s.told.map i64) K) = S cx 58 (K (s.told.map i64)) := fun K => C106_S (t106 _ h2)
  have a0 : S cx 58 (N58_s0 (s.mem.map i64) (s.told.map i64) (s.loc.map i64)) = some ([eS false s], []) := by
    rw [N58_s0, r1, r2, S_ret]
  have a1 : S cx 58 (N58_s1 (s.loc.map i64) (s.mem.map i64) (s.told.map i64)) = some ([eS false s], []) := by
    rw [N58_s1, r0]; exact S_amb2 a0 a0
  have a2 : S cx 58 (N58_s2 (s.loc.map i64) (s.mem.map i64) (s.told.map i64)) = some ([eS false s], []) := by
    rw [N58_s2, r0]; exact a0
  exact e58 (S_amb3 a1 (S_amb2 a1 a2) (S_amb2 a2 a2))
theorem all52 {s_0 : List TV} {s_1 : List TV} {s_2 : List TV} {X : Option Res} (h0 : (decide ((0 + s_0.length) * 8 < lim)) = true) (h1 : (decide ((0 + s_1.length) * 8 < lim)) = true) (h2 : (decide ((0 + s_2.length) * 8 < lim)) = true) (hX : some ([.st [sl false ⟨1, false⟩ (([]) ++ s_0), sl false ⟨1, false⟩ (([]) ++ s_1), sl false ⟨1, false⟩ (([]) ++ s_2)]], []) = X) : S cx 52 (N52 s_0 s_1 s_2) = X := by
  subst hX
  have rR52_33 : S cx 52 (R52_33 s_0 s_1 s_2) = _ := eR52_33 (ck_pos h2 rfl)
  have rR52_45 : S cx 52 (R52_45 s_0 s_1 s_2) = _ := eR52_45 (ck_pos h2 rfl)
  have rR52_46 : S cx 52 (R52_46 s_0 s_1 s_2) = _ := eR52_46 (ck_pos h1 (ck_pos h2 rfl))
  have rR52_34 : S cx 52 (R52_34 s_0 s_1 s_2) = _ := eR52_34 (S_amb2 (ck_pos h1 rR52_45) rR52_46)
  have rR52_47 : S cx 52 (R52_47 s_0 s_1 s_2) = _ := eR52_47 (ck_pos h2 rfl)
  have rR52_35 : S cx 52 (R52_35 s_0 s_1 s_2) = _ := eR52_35 (S_amb2 (ck_pos h1 rR52_47) rR52_46)
  have rR52_16 : S cx 52 (R52_16 s_0 s_1 s_2) = _ := eR52_16 (S_amb3 (ck_pos h1 rR52_33) rR52_34 rR52_35)
  have rR52_36 : S cx 52 (R52_36 s_0 s_1 s_2) = _ := eR52_36 (ck_pos h1 (ck_pos h2 rfl))
  have rR52_17 : S cx 52 (R52_17 s_0 s_1 s_2) = _ := eR52_17 (S_amb2 rR52_34 rR52_36)
  have rR52_18 : S cx 52 (R52_18 s_0 s_1 s_2) = _ := eR52_18 (S_amb2 rR52_35 rR52_36)
  have rR52_5 : S cx 52 (R52_5 s_0 s_1 s_2) = _ := eR52_5 (S_amb3 rR52_16 rR52_17 rR52_18)
  have rR52_19 : S cx 52 (R52_19 s_0 s_1 s_2) = _ := eR52_19 (S_amb3 (ck_pos h1 rR52_33) rR52_34 rR52_35)
  have rR52_48 : S cx 52 (R52_48 s_0 s_1 s_2) = _ := eR52_48 (ck_pos h0 (ck_pos h1 (ck_pos h2 rfl)))
  have rR52_37 : S cx 52 (R52_37 s_0 s_1 s_2) = _ := eR52_37 (S_amb2 (ck_pos h0 rR52_34) rR52_48)
  have rR52_38 : S cx 52 (R52_38 s_0 s_1 s_2) = _ := eR52_38 (S_amb2 (ck_pos h0 rR52_35) rR52_48)
  have rR52_20 : S cx 52 (R52_20 s_0 s_1 s_2) = _ := eR52_20 (S_amb3 (ck_pos h0 rR52_16) rR52_37 rR52_38)
  have rR52_39 : S cx 52 (R52_39 s_0 s_1 s_2) = _ := eR52_39 (S_amb2 (ck_pos h1 rR52_45) rR52_46)
  have rR52_49 : S cx 52 (R52_49 s_0 s_1 s_2) = _ := eR52_49 (ck_pos h1 (ck_pos h2 rfl))
  have rR52_40 : S cx 52 (R52_40 s_0 s_1 s_2) = _ := eR52_40 (S_amb2 (ck_pos h0 rR52_49) rR52_48)
  have rR52_21 : S cx 52 (R52_21 s_0 s_1 s_2) = _ := eR52_21 (S_amb3 (ck_pos h0 rR52_39) rR52_37 rR52_40)
  have rR52_41 : S cx 52 (R52_41 s_0 s_1 s_2) = _ := eR52_41 (S_amb2 (ck_pos h1 rR52_47) rR52_46)
  have rR52_22 : S cx 52 (R52_22 s_0 s_1 s_2) = _ := eR52_22 (S_amb3 (ck_pos h0 rR52_41) rR52_38 rR52_40)
  have rR52_6 : S cx 52 (R52_6 s_0 s_1 s_2) = _ := eR52_6 (S_amb4 (ck_pos h0 rR52_19) rR52_20 rR52_21 rR52_22)
  have rR52_23 : S cx 52 (R52_23 s_0 s_1 s_2) = _ := eR52_23 (S_amb3 rR52_16 rR52_17 rR52_18)
  have rR52_42 : S cx 52 (R52_42 s_0 s_1 s_2) = _ := eR52_42 (S_amb2 (ck_pos h0 rR52_36) rR52_48)
  have rR52_24 : S cx 52 (R52_24 s_0 s_1 s_2) = _ := eR52_24 (S_amb3 (ck_pos h0 rR52_17) rR52_37 rR52_42)
  have rR52_25 : S cx 52 (R52_25 s_0 s_1 s_2) = _ := eR52_25 (S_amb3 (ck_pos h0 rR52_18) rR52_38 rR52_42)
  have rR52_7 : S cx 52 (R52_7 s_0 s_1 s_2) = _ := eR52_7 (S_amb4 (ck_pos h0 rR52_23) rR52_20 rR52_24 rR52_25)
  have rR52_26 : S cx 52 (R52_26 s_0 s_1 s_2) = _ := eR52_26 (S_amb2 rR52_34 rR52_36)
  have rR52_43 : S cx 52 (R52_43 s_0 s_1 s_2) = _ := eR52_43 (ck_pos h1 (ck_pos h2 rfl))
  have rR52_27 : S cx 52 (R52_27 s_0 s_1 s_2) = _ := eR52_27 (S_amb3 (ck_pos h0 rR52_43) rR52_40 rR52_42)
  have rR52_8 : S cx 52 (R52_8 s_0 s_1 s_2) = _ := eR52_8 (S_amb4 (ck_pos h0 rR52_26) rR52_21 rR52_24 rR52_27)
  have rR52_28 : S cx 52 (R52_28 s_0 s_1 s_2) = _ := eR52_28 (S_amb2 rR52_35 rR52_36)
  have rR52_9 : S cx 52 (R52_9 s_0 s_1 s_2) = _ := eR52_9 (S_amb4 (ck_pos h0 rR52_28) rR52_22 rR52_25 rR52_27)
  have rR52_0 : S cx 52 (R52_0 s_0 s_1 s_2) = _ := eR52_0 (S_amb5 (ck_pos h0 rR52_5) rR52_6 rR52_7 rR52_8 rR52_9)
  have rR52_44 : S cx 52 (R52_44 s_0 s_1 s_2) = _ := eR52_44 (ck_pos h0 (ck_pos h1 (ck_pos h2 rfl)))
  have rR52_29 : S cx 52 (R52_29 s_0 s_1 s_2) = _ := eR52_29 (S_amb2 rR52_37 rR52_44)
  have rR52_30 : S cx 52 (R52_30 s_0 s_1 s_2) = _ := eR52_30 (S_amb2 rR52_38 rR52_44)
  have rR52_10 : S cx 52 (R52_10 s_0 s_1 s_2) = _ := eR52_10 (S_amb3 rR52_20 rR52_29 rR52_30)
  have rR52_31 : S cx 52 (R52_31 s_0 s_1 s_2) = _ := eR52_31 (S_amb2 rR52_40 rR52_44)
  have rR52_11 : S cx 52 (R52_11 s_0 s_1 s_2) = _ := eR52_11 (S_amb3 rR52_21 rR52_29 rR52_31)
  have rR52_12 : S cx 52 (R52_12 s_0 s_1 s_2) = _ := eR52_12 (S_amb3 rR52_22 rR52_30 rR52_31)
  have rR52_1 : S cx 52 (R52_1 s_0 s_1 s_2) = _ := eR52_1 (S_amb4 rR52_6 rR52_10 rR52_11 rR52_12)
  have rR52_32 : S cx 52 (R52_32 s_0 s_1 s_2) = _ := eR52_32 (S_amb2 rR52_42 rR52_44)
  have rR52_13 : S cx 52 (R52_13 s_0 s_1 s_2) = _ := eR52_13 (S_amb3 rR52_24 rR52_29 rR52_32)
  have rR52_14 : S cx 52 (R52_14 s_0 s_1 s_2) = _ := eR52_14 (S_amb3 rR52_25 rR52_30 rR52_32)
  have rR52_2 : S cx 52 (R52_2 s_0 s_1 s_2) = _ := eR52_2 (S_amb4 rR52_7 rR52_10 rR52_13 rR52_14)
  have rR52_15 : S cx 52 (R52_15 s_0 s_1 s_2) = _ := eR52_15 (S_amb3 rR52_27 rR52_31 rR52_32)
  have rR52_3 : S cx 52 (R52_3 s_0 s_1 s_2) = _ := eR52_3 (S_amb4 rR52_8 rR52_11 rR52_13 rR52_15)
  have rR52_4 : S cx 52 (R52_4 s_0 s_1 s_2) = _ := eR52_4 (S_amb4 rR52_9 rR52_12 rR52_14 rR52_15)
  exact (S_amb5 rR52_0 rR52_1 rR52_2 rR52_3 rR52_4)

theorem t52 (s : Sx) (h : smallS s) : tw cx 52 [eS true s] = some ([eS false s], []) := by
  refine e52 ((all52 (lim_ok (by rw [List.length_map]; exact h.1)) (lim_ok (by rw [List.length_map]; exact h.2.1)) (lim_ok (by rw [List.length_map]; exact h.2.2)) rfl).trans ?_)
  rfl
/-- Words when a run begins. -/
abbrev initW (m : Int) (loc : List Int) : List Int := loc ++ (List.replicate 4 0 ++ List.replicate (m.toNat - 12) (-1))
theorem t90 (s : Sa) (hv : 12 ≤ s.values ∧ s.values ≤ 250) (x : Sx) (h8 : x.loc.length = 8) (hx : smallS x) : tw cx 90 [eSa true false false s, eS true x] = some ([eR ⟨⟨List.replicate 8 0, x.mem, x.told⟩, initW s.values x.loc, 0, 0, -1, 0⟩], []) := by
  have lim0 : lim = 140737488355328 := rfl
  have hl : (initW s.values x.loc).length = s.values.toNat := by simp [initW, h8]; omega
  have hat : ∀ (j : Nat) (h : j < (initW s.values x.loc).length), (initW s.values x.loc)[j] = if h : j < 8 then x.loc[j]'(by omega) else if j < 12 then 0 else -1 := fun j h => by
    by_cases c : j < 8
    · rw [dif_pos c]
      exact List.getElem_append_left (by omega)
    · rw [dif_neg c]
      show (x.loc ++ _)[j] = _
      rw [List.getElem_append_right (by omega)]
      by_cases c2 : j < 12
      · rw [if_pos c2, List.getElem_append_left (by simp; omega), List.getElem_replicate]
      · rw [if_neg c2, List.getElem_append_right (by simp; omega), List.getElem_replicate]
  have key : ∀ d j, s.values.toNat - j = d → j ≤ s.values.toNat → S cx 90 (H90_0 (ps s) s.values (x.loc.map i64) (x.mem.map i64) (x.told.map i64) (x.mem.map i64) (x.told.map i64) (((initW s.values x.loc).take j).map i64) (j : Int)) = some ([eR ⟨⟨List.replicate 8 0, x.mem, x.told⟩, initW s.values x.loc, 0, 0, -1, 0⟩], []) := by
    intro d
    induction d with
    | zero =>
      intro j hd hj
      obtain rfl : j = s.values.toNat := by omega
      rw [List.take_of_length_le (by omega)]
      exact eH90_0 (bif_neg (dF (by omega)) rfl)
    | succ d ih =>
      intro j hd hj
      have hjl : j < (initW s.values x.loc).length := by omega
      have := ih (j + 1) (by omega) (by omega)
      rw [List.take_add_one, List.getElem?_eq_getElem hjl, List.map_append, hat j hjl] at this
      have hlen : (((initW s.values x.loc).take j).map i64).length = j := by rw [len_i, List.length_take]; omega
      refine eH90_0 (bif_pos (dT (by omega)) ?_)
      by_cases c : j < 8
      · rw [dif_pos c] at this
        refine bif_pos (dT (by omega)) (ck_pos (dT2 (by rw [len_i]; omega)) ?_)
        rw [i64_at (by omega), S_int]
        refine ck_pos (decide_eq_true (by rw [hlen]; simp; omega)) (back_of ?_)
        rw [inc64 (n := 250) (by omega) (by omega)]
        exact this
      · rw [dif_neg c] at this
        refine bif_neg (dF (by omega)) ?_
        by_cases c2 : j < 12
        · rw [if_pos c2] at this
          refine bif_pos (dT (by omega)) (ck_pos (decide_eq_true (by rw [hlen]; simp; omega)) (back_of ?_))
          rw [inc64 (n := 250) (by omega) (by omega)]
          exact this
        · rw [if_neg c2] at this
          refine bif_neg (dF (by omega)) (ck_pos (decide_eq_true (by rw [hlen]; simp; omega)) (back_of ?_))
          rw [inc64 (n := 250) (by omega) (by omega)]
          exact this
  refine e90 ?_
  rw [N90, C52_S (t52 x hx)]
  exact key _ 0 rfl (Nat.zero_le _)
theorem Gd.init {s : Sa} {D A : List Int} (gd : Gd s D A) {x : Sx} (hx : stateP x) : Pre s D A 0 [] (initW s.values x.loc) ⟨List.replicate 8 0, x.mem, x.told⟩ ∧ (initW s.values x.loc).length = s.values.toNat := by
  obtain ⟨h1, h2, h3, h4, h5, h6⟩ := hx
  have hv := gd.v
  have hl : (initW s.values x.loc).length = s.values.toNat := by simp [initW, h1]; omega
  have hp : s.parts[0]'gd.n1 = s.parts.getD 0 default := by rw [List.getD_eq_getElem?_getD, List.getElem?_eq_getElem gd.n1]; rfl
  refine ⟨⟨gd.n1, by rw [hp, gd.p0], ?_⟩, hl⟩
  rw [hp, gd.p0]
  show Okw s D A 0 0 (initW s.values x.loc) ⟨List.replicate 8 0, x.mem, x.told⟩
  refine Okw.init gd.df gd.n1 gd.p0 hl (fun v v0 v1 => ?_) h2 h5 h3 (by simp)
  have hvl : v.toNat < (initW s.values x.loc).length := by omega
  unfold rdV
  rw [List.getD_eq_getElem?_getD, List.getElem?_eq_getElem hvl, Option.getD_some]
  by_cases c : v.toNat < x.loc.length
  · have e : (initW s.values x.loc)[v.toNat] = x.loc[v.toNat] := List.getElem_append_left c
    rw [e]
    exact h4 _ (List.getElem_mem c)
  · have e : (initW s.values x.loc)[v.toNat] = 0 := by
      show (x.loc ++ _)[v.toNat] = _
      rw [List.getElem_append_right (by omega), List.getElem_append_left (by simp; omega), List.getElem_replicate]
    rw [e]
    exact ⟨by decide, by decide⟩
theorem t46 {s : Sa} {D A : List Int} (gd : Gd s D A) (hs : smallA s) (x : Sx) (hx : stateP x) (hx2 : smallS x) (fuel : Int) (hf : 0 ≤ fuel ∧ fuel ≤ 2000) : tw cx 46 [eSa true false false s, eS true x, i64 fuel] = some ([eR (runS s fuel.toNat 0 [] (initW s.values x.loc) ⟨List.replicate 8 0, x.mem, x.told⟩ 0 (-1) 0)], []) := by
  obtain ⟨h1, h2⟩ := gd.init hx
  refine e46 ?_
  rw [N46, C90_S (t90 s gd.v x hx.1 hx2)]
  have := run46 gd hs fuel.toNat (by omega) fuel.toNat 0 0 [] (initW s.values x.loc) ⟨List.replicate 8 0, x.mem, x.told⟩ (-1) 0 (by omega) h1 h2 (by omega) (by omega)
  rw [show ((fuel.toNat : Nat) : Int) = fuel by omega] at this
  exact this
end Go.Tree.Q

/- An ssa is run: the program. -/
namespace Go.Tree.Q
open Go.Proofs Go.Tree.Cg
set_option linter.unusedVariables false
set_option linter.unusedSimpArgs false
set_option linter.unusedSectionVars false
/-- What a run of the program has. -/
abbrev eQ (q : Bool) (x : Sx) (w : List Int) (e n last t : Int) : TV := .pt q () (.st [eS false x, rI false w, i64 e, i64 n, i64 last, i64 t])
theorem t171 (x : Sx) (w : List Int) (e n last t : Int) (l : List Int) (hl : l.length ≤ 1048576) (hw : ∀ v ∈ l, 0 ≤ v ∧ v.toNat < w.length) : tw cx 171 [eQ true x w e n last t, rI true l] = some ([rI false (l.map (rdV w))], []) := by
  have lim0 : (lim : Int) = 140737488355328 := rfl
  have key : ∀ d j (out : List Int), l.length - j = d → j ≤ l.length → out.length = l.length → out.take j = (l.take j).map (rdV w) → S cx 171 (H171_0 (x.loc.map i64) (x.mem.map i64) (x.told.map i64) (w.map i64) e n last t (out.map i64) (l.map i64) (j : Int)) = some ([rI false (l.map (rdV w))], []) := by
    intro d
    induction d with
    | zero =>
      intro j out hd hj ho h
      obtain rfl : j = l.length := by omega
      rw [List.take_length, List.take_of_length_le (by omega)] at h
      rw [h]
      exact eH171_0 (bif_neg (dF (by rw [len_i]; omega)) rfl)
    | succ d ih =>
      intro j out hd hj ho h
      have hjl : j < l.length := by omega
      obtain ⟨v0, v1⟩ := hw _ (List.getElem_mem hjl)
      refine eH171_0 (bif_pos (dT (by rw [len_i]; omega)) (ck_pos (dT2 (by rw [len_i]; omega)) ?_))
      rw [i64_at hjl, S_int]
      refine ck_pos (dT2 (by rw [len_i]; omega)) ?_
      rw [getD_I v1, S_int]
      refine ck_pos (dT2 (by rw [len_i]; omega)) (back_of ?_)
      rw [set_i, inc64 hjl (by omega)]
      refine ih (j + 1) _ (by omega) (by omega) (by rw [List.length_set]; exact ho) ?_
      rw [List.take_add_one, List.take_add_one, List.getElem?_set_self (by omega), List.getElem?_eq_getElem hjl, List.take_set_of_le (Nat.le_refl _), h, List.map_append]
      rfl
  refine e171 (ck_pos ?_ ?_)
  · rw [len_i]; exact mk_ok (by omega) (by omega)
  · have := key _ 0 (List.replicate l.length 0) rfl (Nat.zero_le _) (by simp) rfl
    rw [List.map_replicate] at this
    rw [len_i, show ((l.length : Nat) : Int).toNat = l.length by omega]
    exact this
section
variable {s : Sa} {D A : List Int} (gd : Gd s D A) {k : Nat} (hk : k < s.parts.length)
include gd
theorem t60 {w : List Int} {x : Sx} (h : Okw s D A k s.parts[k].code.length w x) (hs : smallA s) : tw cx 60 [i64 s.parts[k].go, i64 (rdV w s.parts[k].test), i64 (s.parts[k].next.length : Int)] = some ([i64 (wayV s.parts[k] w)], []) := by
  have hn := (gd.small hs hk).2.2.1
  refine e60 ?_
  by_cases c2 : s.parts[k].go = 2
  · refine bif_pos (by rw [beq_iff_eq]; exact c2) ?_
    rw [C111_S (t111 _), S_ret, wayV, if_pos c2]
    by_cases cz : rdV w s.parts[k].test = 0
    · rw [if_neg (by simpa using cz), cz]; rfl
    · rw [if_pos cz, bne_iff_ne.2 cz]; rfl
  · refine bif_neg (by rw [beq_eq_false_iff_ne]; exact c2) ?_
    by_cases c5 : s.parts[k].go = 5
    · obtain ⟨⟨r0, r1⟩, v0, v1⟩ := gd.test hk h (.inr c5)
      refine bif_pos (by rw [beq_iff_eq]; exact c5) ?_
      rw [S_ret, wayV, if_neg c2, if_pos c5, w64_id (by omega) (by omega)]
      by_cases cz : rdV w s.parts[k].test ≥ s.parts[k].next.length
      · rw [if_pos cz, if_pos (by omega)]
      · rw [if_neg cz, if_neg (by omega)]
    · refine bif_neg (by rw [beq_eq_false_iff_ne]; exact c5) ?_
      rw [S_ret, wayV, if_neg c2, if_neg c5]
/-- A part is left. -/
theorem t142 {w : List Int} {x : Sx} {e n last t : Int} (h : Okw s D A k s.parts[k].code.length w x) (hs : smallA s) (q : Bool) :
    tw cx 142 [eQ false x w e n last t, .pt true () (ePt true q s.parts[k])] = some (if s.parts[k].go = 3 then ([i64 0, rI false []], [eQ false { x with loc := endLoc s.parts[k] w x.loc } w 1 n last t]) else if s.parts[k].go = 4 then ([i64 0, rI false []], [eQ false x w 2 n last t])
      else ([i64 (rdV s.parts[k].next (wayV s.parts[k] w)), rI false ((s.parts[k].args.getD (wayV s.parts[k] w).toNat []).map (rdV w))], [eQ false x w e n last t])) := by
  have hp := gd.small hs hk
  refine e142 ?_
  by_cases c3 : s.parts[k].go = 3
  · rw [if_pos c3]
    have ha := (gd.G _ (List.getElem_mem hk)).2.2.2
    unfold argM at ha
    rw [if_pos c3] at ha
    have e1 : s.parts[k].args.getD 0 [] = s.parts[k].args[0]'(by omega) := by rw [List.getD_eq_getElem?_getD, List.getElem?_eq_getElem (by omega)]; rfl
    rw [e1] at ha
    have hr := row_at (l := s.parts[k].args) (q := q) (show 0 < s.parts[k].args.length by omega)
    rw [show (0 + ((0 : Nat) : Int).toNat) = 0 from rfl] at hr
    refine bif_pos (by rw [beq_iff_eq]; exact c3) (ck_pos (dT (by rw [len_r]; omega)) ?_)
    rw [hr, S_slR]
    have s0 : S cx 142 (N142_s0 (x.loc.map i64) (x.mem.map i64) (x.told.map i64) (w.map i64) n last t ((s.parts[k].args[0]'(by omega)).map i64)) = some ([i64 0, rI false []], [eQ false { x with loc := endLoc s.parts[k] w x.loc } w 1 n last t]) := by
      rw [N142_s0, C171_S (t171 x w 1 n last t _ (by omega) (fun v hv => (gd.arg hk h (by omega) v hv).2)), S_ret]
      have : cpyT (x.loc.map i64) (((s.parts[k].args[0]'(by omega)).map (rdV w)).map i64) = (endLoc s.parts[k] w x.loc).map i64 := by
        rw [cpyT_spec, endLoc, e1, List.map_append, List.length_map, List.length_map, List.length_map, ha.2, h.ll, List.take_of_length_le (by simp [ha.2]), List.map_drop]
        rfl
      rw [this]
      rfl
    exact S_amb2 s0 s0
  · rw [if_neg c3]
    refine bif_neg (by rw [beq_eq_false_iff_ne]; exact c3) ?_
    by_cases c4 : s.parts[k].go = 4
    · rw [if_pos c4]
      exact bif_pos (by rw [beq_iff_eq]; exact c4) rfl
    · rw [if_neg c4]
      have h34 : ¬ (s.parts[k].go = 3 ∨ s.parts[k].go = 4) := by omega
      obtain ⟨w0, w1, w2⟩ := gd.way hk h h34
      have hwl : (wayV s.parts[k] w).toNat < s.parts[k].args.length := by omega
      have hr := row_at (l := s.parts[k].args) (q := q) hwl
      rw [show (((wayV s.parts[k] w).toNat : Nat) : Int) = wayV s.parts[k] w by omega] at hr
      have e2 : s.parts[k].args.getD (wayV s.parts[k] w).toNat [] = s.parts[k].args[(wayV s.parts[k] w).toNat] := by rw [List.getD_eq_getElem?_getD, List.getElem?_eq_getElem hwl]; rfl
      -- the test's name is in range whatever the part does
      have htest : 0 ≤ s.parts[k].test ∧ s.parts[k].test.toNat < w.length := by
        by_cases ct : testP s.parts[k]
        · exact (gd.test hk h ct).2
        · have := (gd.G _ (List.getElem_mem hk)).2.2.1.2.1 ct
          rw [this, h.wl]
          have := gd.v
          exact ⟨Int.le_refl _, by omega⟩
      have h171 := t171 x w e n last t _ (hp.2.2.2.2 _ (List.getElem_mem hwl)) (fun v hv => (gd.arg hk h hwl v hv).2)
      have hnx : (s.parts[k].next.map i64).getD (0 + (wayV s.parts[k] w).toNat) (.dead ()) = i64 (rdV s.parts[k].next (wayV s.parts[k] w)) := getD_I (by omega)
      refine bif_neg (by rw [beq_eq_false_iff_ne]; exact c4) (ck_pos (dT2 (by rw [len_i]; omega)) ?_)
      rw [getD_I htest.2, S_int, len_i, C60_S (t60 gd hk h hs)]
      refine ck_pos (dT2 (by rw [len_r]; omega)) ?_
      rw [hr, S_slR, hnx, e2]
      refine S_amb2 (ck_pos (dT2 (by omega)) (S_amb2 ?_ ?_)) ?_
      · rw [S_int, C171_S h171, S_ret]
      · rw [C171_S h171, S_int, S_ret]
      · rw [C171_S h171]
        refine ck_pos (dT2 (by omega)) ?_
        rw [S_int, S_ret]
end
set_option maxHeartbeats 1000000 in
theorem st141 {x : Sx} {e n last t m : Int} {w : List Int} {code : List F} {y : F} {j : Int} (h : Stp1 m y w x) :
    ((stepV y w x).1 = true → ∀ r, S cx 141 (B141_0 (code.map eF) (w64 (j + 1)) (x.loc.map i64) ((stepV y w x).2.2.mem.map i64) ((stepV y w x).2.2.told.map i64) ((stepV y w x).2.1.map i64) e n last t) = some r →
      S cx 141 (G141_1 y.op y.fdo y.dst y.a y.b y.n (code.map eF) j (x.loc.map i64) (x.mem.map i64) (x.told.map i64) (w.map i64) e n last t) = some r) ∧
    ((stepV y w x).1 = false → S cx 141 (G141_1 y.op y.fdo y.dst y.a y.b y.n (code.map eF) j (x.loc.map i64) (x.mem.map i64) (x.told.map i64) (w.map i64) e n last t) = some ([tb false], [eQ false (stepV y w x).2.2 (stepV y w x).2.1 e n last t])) := by
  obtain ⟨op, fdo, dst, a, b, n'⟩ := y
  obtain ⟨loc, mem, told⟩ := x
  have hvl : w.length = m.toNat := h.wl
  have hml : mem.length = 16 := h.ml
  have htl : told.length ≤ 100 := h.tl
  have e1 : (w.map i64).length = m.toNat := by rw [List.length_map, hvl]
  have e2 : (mem.map i64).length = 16 := by rw [List.length_map, hml]
  have ha := h.a
  obtain ⟨_, _, hx⟩ := h.fm
  simp only at hx ha
  have lim0 : lim = 140737488355328 := rfl
  dsimp only
  rcases (show op = 1 ∨ op = 2 ∨ op = 3 ∨ op = 4 ∨ op = 5 ∨ op = 6 by omega) with rfl | rfl | rfl | rfl | rfl | rfl
  · refine ⟨fun _ r hr => eG141_1 (bif_pos rfl (ck_pos (dT2 (by omega)) ?_)), fun h => by cases h⟩
    rw [set_I]; exact hr
  · refine ⟨fun _ r hr => eG141_1 (bif_neg rfl (bif_pos rfl (ck_pos (dT2 (by omega)) ?_))), fun h => by cases h⟩
    rw [getD_I (by omega), S_int]
    refine ck_pos (dT2 (by omega)) ?_
    rw [set_I]; exact hr
  · have es : stepV ⟨3, fdo, dst, a, b, n'⟩ w ⟨loc, mem, told⟩ = (if (doV fdo (rdV w a) (rdV w b)).2 = true then (true, w.set dst.toNat (doV fdo (rdV w a) (rdV w b)).1, ⟨loc, mem, told⟩) else (false, w, ⟨loc, mem, told⟩)) := rfl
    rw [es]
    have h107 := t107 fdo (rdV w a) (rdV w b)
    cases hd : (doV fdo (rdV w a) (rdV w b)).2 with
    | true =>
      rw [hd] at h107
      refine ⟨fun _ r hr => eG141_1 (bif_neg rfl (bif_neg rfl (bif_pos rfl (ck_pos (dT2 (by omega)) ?_)))), fun h => by cases h⟩
      rw [getD_I (by omega), S_int]
      refine ck_pos (dT2 (by omega)) ?_
      rw [getD_I (by omega), S_int, C107_S h107]
      refine bif_pos rfl (ck_pos (dT2 (by omega)) (bif_neg rfl ?_))
      rw [set_I]; exact hr
    | false =>
      rw [hd] at h107
      refine ⟨fun h => (by cases h), fun _ => eG141_1 (bif_neg rfl (bif_neg rfl (bif_pos rfl (ck_pos (dT2 (by omega)) ?_))))⟩
      rw [getD_I (by omega), S_int]
      refine ck_pos (dT2 (by omega)) ?_
      rw [getD_I (by omega), S_int, C107_S h107]
      exact bif_neg rfl (bif_pos rfl rfl)
  · have es : stepV ⟨4, fdo, dst, a, b, n'⟩ w ⟨loc, mem, told⟩ = (if rdV w a ≥ 16 then (false, w, ⟨loc, mem, told⟩) else (true, w.set dst.toNat (rdV mem (rdV w a)), ⟨loc, mem, told⟩)) := rfl
    have ra := ha (by decide)
    obtain ⟨a0, a1⟩ := id ra
    have h108 := t108 ⟨loc, mem, told⟩ (rdV w a) hml ra
    rw [es]
    by_cases c : rdV w a ≥ 16
    · rw [if_pos c] at h108 ⊢
      refine ⟨fun h => (by cases h), fun _ => eG141_1 (bif_neg rfl (bif_neg rfl (bif_neg rfl (bif_pos rfl (ck_pos (dT2 (by omega)) ?_)))))⟩
      rw [getD_I (by omega), S_int, C108_S h108]
      exact bif_neg rfl (bif_pos rfl rfl)
    · rw [if_neg c] at h108 ⊢
      refine ⟨fun _ r hr => eG141_1 (bif_neg rfl (bif_neg rfl (bif_neg rfl (bif_pos rfl (ck_pos (dT2 (by omega)) ?_))))), fun h => by cases h⟩
      rw [getD_I (by omega), S_int, C108_S h108]
      refine bif_pos rfl (ck_pos (dT2 (by omega)) (bif_neg rfl ?_))
      rw [set_I]; exact hr
  · have es : stepV ⟨5, fdo, dst, a, b, n'⟩ w ⟨loc, mem, told⟩ = (if rdV w a ≥ 16 then (false, w, ⟨loc, mem, told⟩) else (true, w, ⟨loc, mem.set (rdV w a).toNat (rdV w b), told⟩)) := rfl
    obtain ⟨a0, a1⟩ := ha (by decide)
    rw [es]
    by_cases c : rdV w a ≥ 16
    · rw [if_pos c]
      refine ⟨fun h => (by cases h), fun _ => eG141_1 (bif_neg rfl (bif_neg rfl (bif_neg rfl (bif_neg rfl (bif_pos rfl (ck_pos (dT2 (by omega)) ?_))))))⟩
      rw [getD_I (by omega), S_int]
      refine ck_pos (dT2 (by omega)) ?_
      rw [getD_I (by omega), S_int]
      exact bif_pos (dT c) rfl
    · rw [if_neg c]
      refine ⟨fun _ r hr => eG141_1 (bif_neg rfl (bif_neg rfl (bif_neg rfl (bif_neg rfl (bif_pos rfl (ck_pos (dT2 (by omega)) ?_)))))), fun h => by cases h⟩
      rw [getD_I (by omega), S_int]
      refine ck_pos (dT2 (by omega)) ?_
      rw [getD_I (by omega), S_int]
      refine bif_neg (dF c) (ck_pos (dT2 (by omega)) ?_)
      rw [set_I]; exact hr
  · have es : stepV ⟨6, fdo, dst, a, b, n'⟩ w ⟨loc, mem, told⟩ = (if told.length = 100 then (false, w, ⟨loc, mem, told⟩) else (true, w, ⟨loc, mem, told ++ [rdV w a]⟩)) := rfl
    rw [es]
    have e3 : (told.map i64).length = told.length := List.length_map _
    by_cases c : told.length = 100
    · rw [if_pos c]
      refine ⟨fun h => (by cases h), fun _ => eG141_1 (bif_neg rfl (bif_neg rfl (bif_neg rfl (bif_neg rfl (bif_neg rfl (ck_pos (dT2 (by omega)) ?_))))))⟩
      rw [getD_I (by omega), S_int]
      exact bif_pos (by rw [e3, c]; rfl) rfl
    · rw [if_neg c]
      refine ⟨fun _ r hr => eG141_1 (bif_neg rfl (bif_neg rfl (bif_neg rfl (bif_neg rfl (bif_neg rfl (ck_pos (dT2 (by omega)) ?_)))))), fun h => by cases h⟩
      rw [getD_I (by omega), S_int]
      refine bif_neg (by rw [e3, beq_eq_false_iff_ne]; omega) (ck_pos (app_lim (ys := [rdV w a]) (by simp; omega)) ?_)
      rw [List.map_append] at hr
      exact hr
section
variable {s : Sa} {D A : List Int} (gd : Gd s D A) {k : Nat} (hk : k < s.parts.length)
include gd
theorem code141 {e n last : Int} : ∀ (d j : Nat) (w : List Int) (x : Sx) (t : Int), s.parts[k].code.length - j = d → j ≤ s.parts[k].code.length → Okw s D A k j w x → 0 ≤ t → t + ((s.parts[k].code.length - j : Nat) : Int) ≤ 1000000 →
    S cx 141 (H141_0 (s.parts[k].code.map eF) (j : Int) (x.loc.map i64) (x.mem.map i64) (x.told.map i64) (w.map i64) e n last t) = some ([tb (blkW (s.parts[k].code.drop j) w x t).1], [eQ false (blkW (s.parts[k].code.drop j) w x t).2.2.1 (blkW (s.parts[k].code.drop j) w x t).2.1 e n last (blkW (s.parts[k].code.drop j) w x t).2.2.2]) := by
  have h60 := (gd.G _ (List.getElem_mem hk)).1.1
  intro d
  induction d with
  | zero =>
    intro j w x t hd hj h ht0 ht
    obtain rfl : j = s.parts[k].code.length := by omega
    rw [List.drop_length]
    exact eH141_0 (bif_neg (dF (by rw [len_f]; omega)) rfl)
  | succ d ih =>
    intro j w x t hd hj h ht0 ht
    have hjl : j < s.parts[k].code.length := by omega
    obtain ⟨q1, q2⟩ := st141 (code := s.parts[k].code) (j := (j : Int)) (e := e) (n := n) (last := last) (t := twoV s.parts[k].code[j] t) (gd.stp hk hjl h)
    obtain ⟨m1, m2, m3, m4, m5⟩ := stepV_st (gd.flat hk hjl) (h.uses hk hjl (gd.us k hk)) h.ml h.mw h.tl
    have start : ∀ r, S cx 141 (G141_1 s.parts[k].code[j].op s.parts[k].code[j].fdo s.parts[k].code[j].dst s.parts[k].code[j].a s.parts[k].code[j].b s.parts[k].code[j].n (s.parts[k].code.map eF) (j : Int) (x.loc.map i64) (x.mem.map i64) (x.told.map i64) (w.map i64) e n last (twoV s.parts[k].code[j] t)) = some r →
        S cx 141 (H141_0 (s.parts[k].code.map eF) (j : Int) (x.loc.map i64) (x.mem.map i64) (x.told.map i64) (w.map i64) e n last t) = some r := fun r hr => by
      refine eH141_0 (bif_pos (dT (by rw [len_f]; omega)) (ck_pos (dT2 (by rw [len_f]; omega)) ?_))
      rw [cf_at hjl, V6_1_S]
      unfold twoV at hr
      by_cases c3 : s.parts[k].code[j].op = 3
      · rw [if_pos c3] at hr
        refine bif_pos (by rw [beq_iff_eq]; exact c3) ?_
        rw [w64_id (by omega) (by omega)]
        exact hr
      · rw [if_neg c3] at hr
        exact bif_neg (by rw [beq_eq_false_iff_ne]; exact c3) hr
    have ht2 : t ≤ twoV s.parts[k].code[j] t ∧ twoV s.parts[k].code[j] t ≤ t + 1 := by unfold twoV; split <;> omega
    rw [drop_f hjl, blkW]
    by_cases c : (stepV s.parts[k].code[j] w x).1 = true
    · rw [if_pos c]
      have i1 := ih (j + 1) _ _ (twoV s.parts[k].code[j] t) (by omega) (by omega) (h.step gd.df hk hjl (gd.flat hk hjl) (gd.us k hk) c) (by omega) (by omega)
      rw [m4] at i1
      refine start _ (q1 c _ (back_of ?_))
      rw [inc64 hjl (by omega)]
      exact i1
    · rw [if_neg c]
      exact start _ (q2 (by simpa using c))
theorem params95 (hs : smallA s) {n last t e fuel : Int} {x : Sx} {next dom : List TV} {st : St2} {at' : Int} {q : Nat} (hq : (ps s).getD q (.dead ()) = ePt false false s.parts[k]) (h : List Int) (hl : s.parts[k].params.length = h.length) : ∀ (d j : Nat) (w : List Int), s.parts[k].params.length - j = d → j ≤ s.parts[k].params.length → w.length = s.values.toNat → ∀ r,
    S cx 95 (C141 (x.loc.map i64) (x.mem.map i64) (x.told.map i64) ((setPs (s.parts[k].params.drop j) (h.drop j) w).map i64) e n last t (s.parts[k].params.map i64) (s.parts[k].code.map eF) s.parts[k].go s.parts[k].test (s.parts[k].next.map i64) (s.parts[k].args.map (rI false)) fun v_ab localss_c4 mems_8d tolds_9a wordss_71 end_52 begun_02 last_70 twos_d0 =>
    .bif (v_ab)
    (C142 localss_c4 mems_8d tolds_9a wordss_71 end_52 begun_02 last_70 twos_d0 (s.parts[k].params.map i64) (s.parts[k].code.map eF) s.parts[k].go s.parts[k].test (s.parts[k].next.map i64) (s.parts[k].args.map (rI false)) fun v_37 vs_4e localss_7a mems_79 tolds_9d wordss_ae end_67 begun_74 last_c0 twos_a2 =>
      B95_2 (ps s) s.values next dom (st.1.map i64) (st.2.map i64) fuel localss_7a mems_79 tolds_9d wordss_ae end_67 begun_74 last_c0 twos_a2 v_37 vs_4e)
    (B95_2 (ps s) s.values next dom (st.1.map i64) (st.2.map i64) fuel localss_c4 mems_8d tolds_9a wordss_71 2 begun_02 last_70 twos_d0 at' (h.map i64))) = some r →
    S cx 95 (H95_3 (ps s) s.values next dom (st.1.map i64) (st.2.map i64) fuel (x.loc.map i64) (x.mem.map i64) (x.told.map i64) (w.map i64) e n last t at' (h.map i64) q (s.parts[k].params.map i64) (j : Int)) = some r := by
  have hv := gd.v
  intro d
  induction d with
  | zero =>
    intro j w hd hj hw r hr
    obtain rfl : j = s.parts[k].params.length := by omega
    rw [List.drop_length] at hr
    refine eH95_3 (bif_neg (dF (by rw [len_i]; omega)) ?_)
    simp only [hq]
    exact hr
  | succ d ih =>
    intro j w hd hj hw r hr
    have hjl : j < s.parts[k].params.length := by omega
    obtain ⟨p1, p2, _⟩ := gd.df.ev k hk (s.parts[k].params[j], -1) (evP_mem.2 (.inl ⟨List.getElem_mem hjl, rfl⟩))
    simp only at p1 p2
    have hpl := (gd.small hs hk).1
    rw [List.drop_eq_getElem_cons hjl, List.drop_eq_getElem_cons (show j < h.length by omega), setPs] at hr
    refine eH95_3 (bif_pos (dT (by rw [len_i]; omega)) (ck_pos (dT2 (by rw [len_i]; omega)) ?_))
    rw [i64_at hjl, S_int]
    refine ck_pos (dT2 (by rw [len_i]; omega)) ?_
    rw [i64_at (show j < h.length by omega), S_int]
    refine ck_pos (dT2 (by rw [len_i]; omega)) (back_of ?_)
    rw [set_I, inc64 hjl (by omega)]
    exact ih (j + 1) _ (by omega) (by omega) (by rw [List.length_set]; exact hw) r hr
end
section
variable {s : Sa} {D A : List Int} (gd : Gd s D A)
include gd
/-- What the program's run comes to. -/
abbrev eQr (r : Rn) : TV := eQ false r.st r.w r.fin r.n r.last r.twos
theorem run95 (hs : smallA s) (fuel : Nat) (hf : fuel ≤ 2000) {next dom : List TV} {st : St2} : ∀ (k n at' : Nat) (h w : List Int) (x : Sx) (last t : Int), n + k = fuel → Pre s D A at' h w x → w.length = s.values.toNat → 0 ≤ t → t ≤ 60 * n →
    S cx 95 (H95_2 (ps s) s.values next dom (st.1.map i64) (st.2.map i64) (fuel : Int) (x.loc.map i64) (x.mem.map i64) (x.told.map i64) (w.map i64) 3 (n : Int) last t (at' : Int) (h.map i64)) = some ([eQr (runS s k at' h w x n last t)], []) := by
  intro k
  induction k with
  | zero =>
    intro n at' h w x last t hn hp hw ht0 ht
    obtain rfl : n = fuel := by omega
    exact eH95_2 (bif_pos rfl (bif_neg (dF (by omega)) rfl))
  | succ k ih =>
    intro n at' h w x last t hn hp hw ht0 ht
    have hk := hp.hk
    have h60 := (gd.G _ (List.getElem_mem hk)).1.1
    have e0 : s.parts.getD at' default = s.parts[at'] := by rw [List.getD_eq_getElem?_getD, List.getElem?_eq_getElem hk]; rfl
    obtain ⟨z1, z2, z3, z4⟩ := Okw.blk gd hk _ 0 (setPs s.parts[at'].params h w) x t rfl (Nat.zero_le _) hp.ok
    have q1 := code141 gd hk (e := 3) (n := (n : Int) + 1) (last := (at' : Int)) _ 0 (setPs s.parts[at'].params h w) x t rfl (Nat.zero_le _) hp.ok ht0 (by omega)
    rw [List.drop_zero] at z1 z2 z3 z4 q1
    rw [runS, e0]
    have c141 : tw cx 141 [eQ false x (setPs s.parts[at'].params h w) 3 ((n : Int) + 1) at' t, .pt true () (ePt true false s.parts[at'])] = some ([tb (blkW s.parts[at'].code (setPs s.parts[at'].params h w) x t).1], [eQ false (blkW s.parts[at'].code (setPs s.parts[at'].params h w) x t).2.2.1 (blkW s.parts[at'].code (setPs s.parts[at'].params h w) x t).2.1 3 ((n : Int) + 1) at' (blkW s.parts[at'].code (setPs s.parts[at'].params h w) x t).2.2.2]) := e141 q1
    have start : ∀ r, S cx 95 (C141 (x.loc.map i64) (x.mem.map i64) (x.told.map i64) ((setPs s.parts[at'].params h w).map i64) 3 ((n : Int) + 1) (at' : Int) t (s.parts[at'].params.map i64) (s.parts[at'].code.map eF) s.parts[at'].go s.parts[at'].test (s.parts[at'].next.map i64) (s.parts[at'].args.map (rI false)) fun v_ab localss_c4 mems_8d tolds_9a wordss_71 end_52 begun_02 last_70 twos_d0 =>
    .bif (v_ab)
    (C142 localss_c4 mems_8d tolds_9a wordss_71 end_52 begun_02 last_70 twos_d0 (s.parts[at'].params.map i64) (s.parts[at'].code.map eF) s.parts[at'].go s.parts[at'].test (s.parts[at'].next.map i64) (s.parts[at'].args.map (rI false)) fun v_37 vs_4e localss_7a mems_79 tolds_9d wordss_ae end_67 begun_74 last_c0 twos_a2 =>
      B95_2 (ps s) s.values next dom (st.1.map i64) (st.2.map i64) (fuel : Int) localss_7a mems_79 tolds_9d wordss_ae end_67 begun_74 last_c0 twos_a2 v_37 vs_4e)
    (B95_2 (ps s) s.values next dom (st.1.map i64) (st.2.map i64) (fuel : Int) localss_c4 mems_8d tolds_9a wordss_71 2 begun_02 last_70 twos_d0 (at' : Int) (h.map i64))) = some r →
        S cx 95 (H95_2 (ps s) s.values next dom (st.1.map i64) (st.2.map i64) (fuel : Int) (x.loc.map i64) (x.mem.map i64) (x.told.map i64) (w.map i64) 3 (n : Int) last t (at' : Int) (h.map i64)) = some r := fun r hr => by
      refine eH95_2 (bif_pos rfl (bif_pos (dT (by omega)) (ck_pos (dT2 (by rw [len_p]; omega)) ?_)))
      rw [pt_at hk, V6_S, w64_id (by omega) (by omega)]
      exact params95 gd hk hs (pt_at hk) h hp.hl _ 0 w rfl (Nat.zero_le _) hw r (by rw [List.drop_zero, List.drop_zero]; exact hr)
    rw [C141_S c141] at start
    generalize hb : blkW s.parts[at'].code (setPs s.parts[at'].params h w) x t = R at *
    obtain ⟨ok, w', x', t'⟩ := R
    cases ok with
    | false => exact start _ (bif_neg rfl (back_of (eH95_2 (bif_neg rfl rfl))))
    | true =>
      have ho : Okw s D A at' s.parts[at'].code.length w' x' := z2 rfl
      dsimp only at z1 z3 z4 start ⊢
      have h142 := t142 gd hk (e := 3) (n := (n : Int) + 1) (last := (at' : Int)) (t := t') ho hs false
      refine start _ (bif_pos rfl ?_)
      by_cases c3 : s.parts[at'].go = 3
      · rw [if_pos rfl, if_pos c3]
        rw [if_pos c3] at h142
        rw [C142_S h142]
        exact back_of (eH95_2 (bif_neg rfl rfl))
      · rw [if_pos rfl, if_neg c3]
        rw [if_neg c3] at h142
        by_cases c4 : s.parts[at'].go = 4
        · rw [if_pos c4]
          rw [if_pos c4] at h142
          rw [C142_S h142]
          exact back_of (eH95_2 (bif_neg rfl rfl))
        · rw [if_neg c4]
          rw [if_neg c4] at h142
          have h34 : ¬ (s.parts[at'].go = 3 ∨ s.parts[at'].go = 4) := by omega
          obtain ⟨n1, np⟩ := gd.next hk ho h34
          rw [C142_S h142]
          refine back_of ?_
          have hi := ih (n + 1) (rdV s.parts[at'].next (wayV s.parts[at'] w')).toNat ((s.parts[at'].args.getD (wayV s.parts[at'] w').toNat []).map (rdV w')) w' x' (at' : Int) t' (by omega) np ho.wl (by omega) (by omega)
          rw [show (((rdV s.parts[at'].next (wayV s.parts[at'] w')).toNat : Nat) : Int) = rdV s.parts[at'].next (wayV s.parts[at'] w') by omega, show ((n + 1 : Nat) : Int) = (n : Int) + 1 by omega] at hi
          exact hi
end
end Go.Tree.Q

/- What both programs answer of a run of an ssa. -/
namespace Go.Tree.Q
open Go.Proofs Go.Tree.Cg
set_option linter.unusedVariables false
set_option linter.unusedSimpArgs false
set_option linter.unusedSectionVars false
/-- The run. -/
abbrev runR (s : Sa) (x : Sx) (fuel : Int) : Rn := runS s fuel.toNat 0 [] (initW s.values x.loc) ⟨List.replicate 8 0, x.mem, x.told⟩ 0 (-1) 0
theorem t95 {s : Sa} {D A : List Int} (gd : Gd s D A) (hs : smallA s) (x : Sx) (hx : stateP x) (hx2 : smallS x) (fuel : Int) (hf : 0 ≤ fuel ∧ fuel ≤ 2000) {next dom : List TV} {st : St2} :
    tw cx 95 [eV true s.parts s.values next dom st, eS true x, i64 fuel] = some ([eQr (runR s x fuel)], []) := by
  obtain ⟨h1, h2⟩ := gd.init hx
  have hv := gd.v
  have lim0 : lim = 140737488355328 := rfl
  have h114 := t114 (-1) s.values.toNat (by show _ ≤ 1073741824; omega)
  rw [show ((s.values.toNat : Nat) : Int) = s.values by omega] at h114
  have h114 : tw cx 114 [sl true ⟨1, false⟩ [i64 (-1)], i64 s.values] = some ([rI false (List.replicate s.values.toNat (-1))], []) := h114
  have hrun := run95 gd hs fuel.toNat (by omega) (next := next) (dom := dom) (st := st) fuel.toNat 0 0 [] (initW s.values x.loc) ⟨List.replicate 8 0, x.mem, x.told⟩ (-1) 0 (by omega) h1 h2 (by omega) (by omega)
  rw [show ((fuel.toNat : Nat) : Int) = fuel by omega] at hrun
  have g1 : S cx 95 (G95_1 (ps s) s.values next dom (st.1.map i64) (st.2.map i64) fuel (x.loc.map i64) (x.mem.map i64) (x.told.map i64) ((initW s.values x.loc).map i64)) = some ([eQr (runR s x fuel)], []) := by
    refine eG95_1 ?_
    have e : cpyT (x.loc.map i64) (List.replicate (x.loc.map i64).length (i64 0)) = (List.replicate 8 (0 : Int)).map i64 := by
      rw [cpyT_spec, len_i, hx.1, List.length_replicate, List.map_replicate, List.take_of_length_le (by simp), List.drop_of_length_le (by rw [len_i, hx.1]; exact Nat.le_refl _), List.append_nil]
    rw [NG95_1, e]
    exact hrun
  have ew : cpyT ((List.replicate s.values.toNat (-1 : Int)).map i64) (x.loc.map i64 ++ List.replicate 4 (i64 0)) = (initW s.values x.loc).map i64 := by
    rw [cpyT_spec, List.length_append, len_i, hx.1, List.length_replicate, List.length_map, List.length_replicate, show min (8 + 4) s.values.toNat = 12 by omega, List.take_of_length_le (by simp [hx.1]), ← List.map_drop, List.drop_replicate, List.map_append, List.map_append, List.map_replicate, List.map_replicate, List.append_assoc]
  have g0 : S cx 95 (G95_0 (ps s) s.values next dom (st.1.map i64) (st.2.map i64) fuel (x.loc.map i64) (x.mem.map i64) (x.told.map i64) (x.loc.map i64) (x.mem.map i64) (x.told.map i64) ((List.replicate s.values.toNat (-1 : Int)).map i64)) = some ([eQr (runR s x fuel)], []) := by
    have c106 := t106 x.loc (by show _ ≤ 1073741824; exact hx2.1)
    have hck : decide (((x.loc.map i64).length + 4) * 8 < lim) = true := decide_eq_true (by rw [len_i, hx.1, lim0]; decide)
    refine eG95_0 (S_amb2 ?_ ?_)
    · rw [C106_S c106]
      refine ck_pos hck ?_
      rw [ew]
      exact g1
    · rw [C106_S c106]
      refine S_amb2 (ck_pos hck ?_) (ck_pos hck ?_) <;> rw [ew] <;> exact g1
  have s0 : S cx 95 (N95_s0 (ps s) s.values next dom (st.1.map i64) (st.2.map i64) (x.loc.map i64) (x.mem.map i64) (x.told.map i64) fuel) = some ([eQr (runR s x fuel)], []) := by
    rw [N95_s0, C58_S (t58 x hx2), C114_S h114]
    exact g0
  have s1 : S cx 95 (N95_s1 (ps s) s.values next dom (st.1.map i64) (st.2.map i64) (x.loc.map i64) (x.mem.map i64) (x.told.map i64) fuel) = some ([eQr (runR s x fuel)], []) := S_amb2 s0 s0
  exact e95 (S_amb3 s0 s1 s1)
/-- What is asked of a run. -/
def askP (s : Sa) (x : Sx) (fuel : Int) : Prop := goodS s ∧ stateP x ∧ 0 ≤ fuel ∧ fuel ≤ 2000
noncomputable instance (s : Sa) (x : Sx) (fuel : Int) : Decidable (askP s x fuel) := Classical.propDecidable _
theorem t49 (s : Sa) (x : Sx) (fuel : Int) (hs : smallA s) (hx2 : smallS x) : tw cx 49 [eSa true false false s, eS true x, i64 fuel] = some ([if askP s x fuel then eQr (runR s x fuel) else tnil], []) := by
  obtain ⟨a1, a2⟩ := t94 s hs
  by_cases cg : goodS s
  case neg =>
    rw [if_neg (fun h => cg h.1)]
    refine e49 ?_
    rw [N49]
    exact (S_call (a2 cg)).trans rfl
  obtain ⟨next, DB, st, h94⟩ := a1 cg
  obtain ⟨D, A, gd⟩ := gd_of cg
  refine e49 ?_
  rw [N49]
  refine (S_call h94).trans ?_
  show S cx 49 (C56 _ _ _ _) = _
  rw [C56_S (t56 x hx2)]
  by_cases cx' : stateP x
  case neg =>
    rw [if_neg (fun h => cx' h.2.1), dF cx']
    exact bif_pos rfl rfl
  rw [dT cx']
  refine bif_neg rfl ?_
  rw [C57_S (t57 _ _ _)]
  by_cases cf : 0 ≤ fuel ∧ fuel ≤ 2000
  case neg =>
    rw [if_neg (fun h => cf h.2.2), dF cf]
    exact bif_pos rfl rfl
  rw [if_pos ⟨cg, cx', cf⟩, dT cf]
  refine bif_neg rfl ?_
  exact (S_call (t95 gd hs x cx' hx2 fuel cf)).trans rfl
theorem t12 (s : Sa) (x : Sx) (fuel : Int) (hs : smallA s) (hx2 : smallS x) : tw cx 12 [eSa true false false s, eS true x, i64 fuel] = some (if askP s x fuel ∧ (runR s x fuel).fin ≠ 3 then ([i64 (runR s x fuel).twos, tb true], []) else ([i64 0, tb false], [])) := by
  have h49 := t49 s x fuel hs hx2
  refine e12 ?_
  rw [N12]
  by_cases c : askP s x fuel
  case neg =>
    rw [if_neg c] at h49
    rw [if_neg (fun h => c h.1)]
    exact (S_call h49).trans rfl
  rw [if_pos c] at h49
  refine (S_call h49).trans ?_
  show S cx 12 (.bif ((runR s x fuel).fin == 3) _ _) = _
  by_cases c3 : (runR s x fuel).fin = 3
  · rw [if_neg (fun h => h.2 c3)]
    exact bif_pos (by rw [beq_iff_eq]; exact c3) rfl
  · rw [if_pos ⟨c, c3⟩]
    exact bif_neg (by rw [beq_eq_false_iff_ne]; exact c3) rfl
theorem t16 (s : Sa) (x : Sx) (fuel : Int) (hs : smallA s) (hx2 : smallS x) : tw cx 16 [eSa true false false s, eS true x, i64 fuel] = some (if askP s x fuel then ([rI false (runR s x fuel).w, i64 (runR s x fuel).last, tb true], []) else ([rI false [], i64 0, tb false], [])) := by
  have h49 := t49 s x fuel hs hx2
  refine e16 ?_
  rw [N16]
  by_cases c : askP s x fuel
  · rw [if_pos c] at h49 ⊢
    exact (S_call h49).trans rfl
  · rw [if_neg c] at h49 ⊢
    exact (S_call h49).trans rfl
theorem ask_ref {f : FuncId} (s : Sa) (x : Sx) (fuel : Int) (hs : smallA s) (hx2 : smallS x) {R1 R2 R3 : Nd} {K : List TV → List TV → List TV → Int → Int → List TV → Int → Int → Nd} {no yes : Option Res} (h1 : S cx f R1 = no) (h2 : S cx f R2 = no) (h3 : S cx f R3 = no)
    (hy : askP s x fuel → S cx f (K ((runR s x fuel).st.loc.map i64) ((runR s x fuel).st.mem.map i64) ((runR s x fuel).st.told.map i64) (runR s x fuel).fin (runR s x fuel).n ((runR s x fuel).w.map i64) (runR s x fuel).last (runR s x fuel).twos) = yes) :
    S cx f (C43 (ps s) s.values fun v_12 => .bif (!v_12) R1 (C44 (x.loc.map i64) (x.mem.map i64) (x.told.map i64) fun v_6e => .bif (!v_6e) R2 (C45 fuel fun v_1f => .bif (!v_1f) R3 (C46 (ps s) s.values (x.loc.map i64) (x.mem.map i64) (x.told.map i64) fuel K)))) = if askP s x fuel then yes else no := by
  rw [C43_S (t43 s hs)]
  by_cases cg : goodS s
  case neg =>
    rw [if_neg (fun h => cg h.1), dF cg]
    exact bif_pos rfl h1
  rw [dT cg]
  refine bif_neg rfl ?_
  rw [C44_S (t44 x hx2)]
  by_cases cx' : stateP x
  case neg =>
    rw [if_neg (fun h => cx' h.2.1), dF cx']
    exact bif_pos rfl h2
  rw [dT cx']
  refine bif_neg rfl ?_
  rw [C45_S (t45 _)]
  by_cases cf : 0 ≤ fuel ∧ fuel ≤ 2000
  case neg =>
    rw [if_neg (fun h => cf h.2.2), dF cf]
    exact bif_pos rfl h3
  have hq : askP s x fuel := ⟨cg, cx', cf⟩
  rw [if_pos hq, dT cf]
  refine bif_neg rfl ?_
  obtain ⟨D, A, gd⟩ := gd_of cg
  rw [C46_S (t46 gd hs x cx' hx2 fuel cf)]
  exact hy hq
theorem t9 (s : Sa) (x : Sx) (fuel : Int) (hs : smallA s) (hx2 : smallS x) : tw cx 9 [eSa true false false s, eS true x, i64 fuel] = some (if askP s x fuel ∧ (runR s x fuel).fin ≠ 3 then ([i64 (runR s x fuel).twos, tb true], []) else ([i64 0, tb false], [])) := by
  have := ask_ref (f := 9) s x fuel hs hx2 (R1 := .ret [i64 0, tb false] []) (R2 := .ret [i64 0, tb false] []) (R3 := .ret [i64 0, tb false] []) (K := fun _ _ _ e _ _ _ t => .bif (e == 3) (.ret [i64 0, tb false] []) (.ret [i64 t, tb true] [])) (no := some ([i64 0, tb false], [])) (yes := some (if (runR s x fuel).fin ≠ 3 then ([i64 (runR s x fuel).twos, tb true], []) else ([i64 0, tb false], []))) rfl rfl rfl (fun _ => by
    by_cases c3 : (runR s x fuel).fin = 3
    · rw [if_neg (fun h => h c3)]
      exact bif_pos (by rw [beq_iff_eq]; exact c3) rfl
    · rw [if_pos c3]
      exact bif_neg (by rw [beq_eq_false_iff_ne]; exact c3) rfl)
  by_cases c : askP s x fuel
  · rw [if_pos c] at this
    by_cases c3 : (runR s x fuel).fin = 3
    · rw [if_neg (fun h => h c3)] at this
      rw [if_neg (fun h => h.2 c3)]
      exact e9 this
    · rw [if_pos c3] at this
      rw [if_pos ⟨c, c3⟩]
      exact e9 this
  · rw [if_neg c] at this
    rw [if_neg (fun h => c h.1)]
    exact e9 this
theorem t15 (s : Sa) (x : Sx) (fuel : Int) (hs : smallA s) (hx2 : smallS x) : tw cx 15 [eSa true false false s, eS true x, i64 fuel] = some (if askP s x fuel then ([rI false (runR s x fuel).w, i64 (runR s x fuel).last, tb true], []) else ([rI false [], i64 0, tb false], [])) := by
  have := ask_ref (f := 15) s x fuel hs hx2 (R1 := .ret [rI false [], i64 0, tb false] []) (R2 := .ret [rI false [], i64 0, tb false] []) (R3 := .ret [rI false [], i64 0, tb false] []) (K := fun _ _ _ _ _ w l _ => .ret [sl false ⟨1, false⟩ w, i64 l, tb true] []) (no := some ([rI false [], i64 0, tb false], [])) (yes := some ([rI false (runR s x fuel).w, i64 (runR s x fuel).last, tb true], [])) rfl rfl rfl (fun _ => rfl)
  by_cases c : askP s x fuel
  · rw [if_pos c] at this ⊢; exact e15 this
  · rw [if_neg c] at this ⊢; exact e15 this
end Go.Tree.Q

/- The laws' own: sizes, copies, what is alike. -/
namespace Go.Tree.Q
open Go.Proofs Go.Tree.Cg
set_option linter.unusedVariables false
set_option linter.unusedSimpArgs false
set_option linter.unusedSectionVars false
theorem t8 (s : Sx) (left : Int) (h1 : s.loc.length ≤ 9223372036854775807) (h2 : s.mem.length ≤ 9223372036854775807) (h3 : s.told.length ≤ 9223372036854775807) (h0 : 0 ≤ left ∧ left ≤ 1048576) :
    ∃ r : Int, tw cx 8 [eS true s, i64 left] = some ([i64 r], []) ∧ (0 ≤ r → s.loc.length ≤ 1048576 ∧ s.mem.length ≤ 1048576 ∧ s.told.length ≤ 1048576) := by
  have a1 := t42 s.loc left h1 h0
  by_cases c1 : left - (s.loc.length : Int) < 0
  · rw [if_pos c1] at a1
    refine ⟨-1, e8 ?_, fun h => by omega⟩
    rw [N8, C42_S a1]
    exact bif_pos rfl rfl
  · rw [if_neg c1] at a1
    have a2 := t42 s.mem (left - s.loc.length) h2 ⟨by omega, by omega⟩
    by_cases c2 : left - (s.loc.length : Int) - (s.mem.length : Int) < 0
    · rw [if_pos c2] at a2
      refine ⟨-1, e8 ?_, fun h => by omega⟩
      rw [N8, C42_S a1]
      refine bif_neg (dF c1) ?_
      rw [C42_S a2]
      exact bif_pos rfl rfl
    · rw [if_neg c2] at a2
      have a3 := t42 s.told (left - s.loc.length - s.mem.length) h3 ⟨by omega, by omega⟩
      by_cases c3 : left - (s.loc.length : Int) - (s.mem.length : Int) - (s.told.length : Int) < 0
      · rw [if_pos c3] at a3
        refine ⟨-1, e8 ?_, fun h => by omega⟩
        rw [N8, C42_S a1]
        refine bif_neg (dF c1) ?_
        rw [C42_S a2]
        refine bif_neg (dF c2) ?_
        rw [C42_S a3]
        exact bif_pos rfl rfl
      · rw [if_neg c3] at a3
        refine ⟨left - s.loc.length - s.mem.length - s.told.length, e8 ?_, fun h => ⟨by omega, by omega, by omega⟩⟩
        rw [N8, C42_S a1]
        refine bif_neg (dF c1) ?_
        rw [C42_S a2]
        refine bif_neg (dF c2) ?_
        rw [C42_S a3]
        exact bif_neg (dF c3) rfl
theorem t14 (s : Sx) (h : smallS s) : tw cx 14 [eS true s, eS true s] = some ([tb true], []) := by
  refine e14 ?_
  rw [N14, C17_S (t17 s.loc h.1)]
  refine bif_neg rfl ?_
  rw [C17_S (t17 s.mem h.2.1)]
  refine bif_neg rfl ?_
  rw [C17_S (t17 s.told h.2.2)]
  exact bif_neg rfl rfl
theorem t11 (x : Sx) (h0 : x.loc.length ≤ 1073741824) (h1 : x.mem.length ≤ 1073741824) (h2 : x.told.length ≤ 1073741824) : tw cx 11 [eS true x] = some ([eS false x], []) := by
  refine e11 ?_
  rw [N11, C48_S (t48 x.loc true h0), C48_S (t48 x.mem true h1), C48_S (t48 x.told true h2), S_ret]
/-- As many as a length may be. -/
def hugeP (p : Pt) : Prop := p.params.length ≤ 9223372036854775807 ∧ p.code.length ≤ 9223372036854775807 ∧ p.next.length ≤ 9223372036854775807 ∧ p.args.length ≤ 9223372036854775807 ∧ ∀ l ∈ p.args, l.length ≤ 9223372036854775807
def hugeA (s : Sa) : Prop := s.parts.length ≤ 9223372036854775807 ∧ ∀ p ∈ s.parts, hugeP p
theorem t129 (l : List (List Int)) (q : Bool) (left : Int) (h1 : l.length ≤ 9223372036854775807) (h2 : ∀ x ∈ l, x.length ≤ 9223372036854775807) (h0 : 0 ≤ left ∧ left ≤ 1048576) :
    ∃ r : Int, tw cx 129 [rII true q l, i64 left] = some ([i64 r], []) ∧ r ≤ 1048576 ∧ (0 ≤ r → l.length ≤ 1048576 ∧ ∀ x ∈ l, x.length ≤ 1048576) := by
  by_cases c : left - (l.length : Int) < 0
  · refine ⟨-1, e129 ?_, by omega, fun h => by omega⟩
    rw [N129, len_r, w64_id (by omega) (by omega)]
    exact bif_pos (dT c) rfl
  · have key : ∀ d j : Nat, l.length - j = d → j ≤ l.length → ∀ left : Int, 0 ≤ left ∧ left ≤ 1048576 →
        ∃ r : Int, S cx 129 (H129_0 (l.map (rI q)) left j) = some ([i64 r], []) ∧ r ≤ 1048576 ∧ (0 ≤ r → ∀ x ∈ l.drop j, x.length ≤ 1048576) := by
      intro d
      induction d with
      | zero =>
        intro j hd hj left hl
        obtain rfl : j = l.length := by omega
        exact ⟨left, eH129_0 (bif_neg (dF (by rw [len_r]; omega)) rfl), hl.2, fun _ b hb => by simp at hb⟩
      | succ d ih =>
        intro j hd hj left hl
        have hjl : j < l.length := by omega
        have hx := h2 _ (List.getElem_mem hjl)
        have h42 := t42 l[j] left hx hl
        by_cases c1 : left - (l[j].length : Int) < 0
        · rw [if_pos c1] at h42
          refine ⟨-1, eH129_0 (bif_pos (dT (by rw [len_r]; omega)) (ck_pos (dT2 (by rw [len_r]; omega)) ?_)), by omega, fun h => by omega⟩
          rw [row_at hjl, S_slR, C42_S h42]
          exact bif_pos rfl rfl
        · rw [if_neg c1] at h42
          obtain ⟨r, g1, g2, g3⟩ := ih (j + 1) (by omega) (by omega) (left - l[j].length) ⟨by omega, by omega⟩
          refine ⟨r, eH129_0 (bif_pos (dT (by rw [len_r]; omega)) (ck_pos (dT2 (by rw [len_r]; omega)) ?_)), g2, fun h => ?_⟩
          · rw [row_at hjl, S_slR, C42_S h42]
            refine bif_neg (dF c1) (back_of ?_)
            rw [inc64 (n := 1048576) (by omega) (by omega)]
            exact g1
          · rw [List.drop_eq_getElem_cons hjl]
            exact List.forall_mem_cons.2 ⟨by omega, g3 h⟩
    obtain ⟨r, g1, g2, g3⟩ := key l.length 0 (by omega) (by omega) (left - l.length) ⟨by omega, by omega⟩
    refine ⟨r, e129 ?_, g2, fun h => ⟨by omega, by simpa using g3 h⟩⟩
    rw [N129, len_r, w64_id (by omega) (by omega)]
    exact bif_neg (dF c) g1
theorem t79 (p : Pt) (q : Bool) (left : Int) (hp : hugeP p) (h0 : 0 ≤ left ∧ left ≤ 1048576) :
    ∃ r : Int, tw cx 79 [ePt true q p, i64 left] = some ([i64 r], []) ∧ r ≤ 1048576 ∧ (0 ≤ r → smallP p) := by
  obtain ⟨p1, p2, p3, p4, p5⟩ := hp
  have a1 := t42 p.params left p1 h0
  by_cases c1 : left - (p.params.length : Int) < 0
  · rw [if_pos c1] at a1
    refine ⟨-1, e79 ?_, by omega, fun h => by omega⟩
    rw [N79, C42_S a1]
    exact bif_pos rfl rfl
  rw [if_neg c1] at a1
  have a2 := t128 p.code (left - p.params.length) p2 ⟨by omega, by omega⟩
  by_cases c2 : left - (p.params.length : Int) - (p.code.length : Int) < 0
  · rw [if_pos c2] at a2
    refine ⟨-1, e79 ?_, by omega, fun h => by omega⟩
    rw [N79, C42_S a1]
    refine bif_neg (dF c1) ?_
    rw [C128_S a2]
    exact bif_pos rfl rfl
  rw [if_neg c2] at a2
  have a3 := t42 p.next (left - p.params.length - p.code.length) p3 ⟨by omega, by omega⟩
  by_cases c3 : left - (p.params.length : Int) - (p.code.length : Int) - (p.next.length : Int) < 0
  · rw [if_pos c3] at a3
    refine ⟨-1, e79 ?_, by omega, fun h => by omega⟩
    rw [N79, C42_S a1]
    refine bif_neg (dF c1) ?_
    rw [C128_S a2]
    refine bif_neg (dF c2) ?_
    rw [C42_S a3]
    exact bif_pos rfl rfl
  rw [if_neg c3] at a3
  obtain ⟨r, g1, g2, g3⟩ := t129 p.args q (left - p.params.length - p.code.length - p.next.length) p4 p5 ⟨by omega, by omega⟩
  have go : S cx 79 (.bif (decide (r < 0)) (.ret [i64 (-1)] []) (.ret [i64 r] [])) = some ([i64 (if r < 0 then -1 else r)], []) := by
    by_cases c : r < 0
    · rw [if_pos c]; exact bif_pos (dT c) rfl
    · rw [if_neg c]; exact bif_neg (dF c) rfl
  refine ⟨if r < 0 then -1 else r, e79 ?_, by split <;> omega, fun h => ?_⟩
  · rw [N79, C42_S a1]
    refine bif_neg (dF c1) ?_
    rw [C128_S a2]
    refine bif_neg (dF c2) ?_
    rw [C42_S a3]
    refine bif_neg (dF c3) ?_
    rw [C129_S g1]
    exact go
  · have hr : 0 ≤ r := by split at h <;> omega
    obtain ⟨q1, q2⟩ := g3 hr
    exact ⟨by omega, by omega, by omega, q1, q2⟩
theorem t7 (s : Sa) (q q' : Bool) (hs : hugeA s) : ∃ r : Int, tw cx 7 [eSa true q q' s, i64 1048576] = some ([i64 r], []) ∧ r ≤ 1048576 ∧ (0 ≤ r → smallA s) := by
  obtain ⟨h1, h2⟩ := hs
  have h41 : ∃ r : Int, tw cx 41 [rP true q q' s.parts, i64 1048576] = some ([i64 r], []) ∧ r ≤ 1048576 ∧ (0 ≤ r → smallA s) := by
    by_cases c : (1048576 : Int) - (s.parts.length : Int) < 0
    · refine ⟨-1, e41 ?_, by omega, fun h => by omega⟩
      rw [N41, len_p, w64_id (by omega) (by omega)]
      exact bif_pos (dT c) rfl
    · have key : ∀ d j : Nat, s.parts.length - j = d → j ≤ s.parts.length → ∀ left : Int, 0 ≤ left ∧ left ≤ 1048576 →
          ∃ r : Int, S cx 41 (H41_0 (s.parts.map (ePt q q')) left j) = some ([i64 r], []) ∧ r ≤ 1048576 ∧ (0 ≤ r → ∀ p ∈ s.parts.drop j, smallP p) := by
        intro d
        induction d with
        | zero =>
          intro j hd hj left hl
          obtain rfl : j = s.parts.length := by omega
          exact ⟨left, eH41_0 (bif_neg (dF (by rw [len_p]; omega)) rfl), hl.2, fun _ b hb => by simp at hb⟩
        | succ d ih =>
          intro j hd hj left hl
          have hjl : j < s.parts.length := by omega
          obtain ⟨r1, a1, a2, a3⟩ := t79 s.parts[j] q' left (h2 _ (List.getElem_mem hjl)) hl
          by_cases c1 : r1 < 0
          · refine ⟨-1, eH41_0 (bif_pos (dT (by rw [len_p]; omega)) (ck_pos (dT2 (by rw [len_p]; omega)) ?_)), by omega, fun h => by omega⟩
            rw [pt_at hjl, V6_S, C79_S a1]
            exact bif_pos (dT c1) rfl
          · obtain ⟨r, g1, g2, g3⟩ := ih (j + 1) (by omega) (by omega) r1 ⟨by omega, a2⟩
            refine ⟨r, eH41_0 (bif_pos (dT (by rw [len_p]; omega)) (ck_pos (dT2 (by rw [len_p]; omega)) ?_)), g2, fun h => ?_⟩
            · rw [pt_at hjl, V6_S, C79_S a1]
              refine bif_neg (dF c1) (back_of ?_)
              rw [inc64 (n := 1048576) (by omega) (by omega)]
              exact g1
            · rw [List.drop_eq_getElem_cons hjl]
              exact List.forall_mem_cons.2 ⟨a3 (by omega), g3 h⟩
      obtain ⟨r, g1, g2, g3⟩ := key s.parts.length 0 (by omega) (by omega) (1048576 - s.parts.length) ⟨by omega, by omega⟩
      refine ⟨r, e41 ?_, g2, fun h => ⟨by omega, by simpa using g3 h⟩⟩
      rw [N41, len_p, w64_id (by omega) (by omega)]
      exact bif_neg (dF c) g1
  obtain ⟨r, g1, g2, g3⟩ := h41
  refine ⟨if r < 0 then -1 else r, e7 ?_, by split <;> omega, fun h => g3 (by split at h <;> omega)⟩
  rw [N7, C41_S g1]
  by_cases c : r < 0
  · rw [if_pos c]; exact bif_pos (dT c) rfl
  · rw [if_neg c]; exact bif_neg (dF c) rfl
theorem t135 (l : List (List Int)) (q : Bool) (h1 : l.length ≤ 1048576) (h2 : ∀ x ∈ l, x.length ≤ 1048576) : tw cx 135 [rII true q l] = some ([rII false false l], []) := by
  have e1 := len_r (l := l) (q := q)
  have := copy_loop (H := fun out j => S cx 135 (H135_0 (l.map (rI q)) out j)) (l := l.map (rI false)) (fin := fun out => ([sl false ⟨1, true⟩ out], [])) (sl false ⟨1, false⟩ []) (fun j x out hx ho h => by
    obtain ⟨y, hy, rfl⟩ := map_at hx
    have hj := lt_of_at hy
    rw [List.length_map] at ho
    have ey : y = l[j] := by rw [List.getElem?_eq_getElem hj] at hy; exact (Option.some.inj hy).symm
    subst ey
    refine eH135_0 (bif_pos (dT (by rw [e1]; omega)) (ck_pos (dT2 (by rw [e1]; omega)) ?_))
    rw [row_at hj, S_slR, C48_S (t48 l[j] true (by have := h2 _ (List.getElem_mem hj); omega))]
    refine ck_pos (dT2 (by omega)) (back_of ?_)
    rw [zN, inc64 (n := 1048576) (by omega) (by omega)]
    exact h) (eH135_0 (bif_neg (dF (by rw [e1, len_r]; omega)) rfl))
  rw [len_r] at this
  refine e135 (ck_pos (by rw [e1]; exact mk_ok (by omega) (by omega)) ?_)
  rw [e1, Int.toNat_natCast]
  exact this
theorem t93 (p : Pt) (q : Bool) (hp : smallP p) : tw cx 93 [ePt true q p] = some ([ePt false false p], []) := by
  obtain ⟨p1, p2, p3, p4, p5⟩ := hp
  refine e93 ?_
  rw [N93, C48_S (t48 p.params true (by omega)), C134_S (t134 p.code (by omega)), C48_S (t48 p.next true (by omega)), C135_S (t135 p.args q p4 p5), S_ret]
theorem t10 (s : Sa) (q q' : Bool) (hs : smallA s) : tw cx 10 [eSa true q q' s] = some ([eSa false false false s], []) := by
  obtain ⟨h1, h2⟩ := hs
  have e1 := len_p (ps := s.parts) (q := q) (q' := q')
  have := copy_loop (H := fun out j => S cx 47 (H47_0 (s.parts.map (ePt q q')) out j)) (l := s.parts.map (ePt false false)) (fin := fun out => ([sl false ⟨6, true⟩ out], [])) (.st [sl false ⟨1, false⟩ [], sl false ⟨6, false⟩ [], i64 0, i64 0, sl false ⟨1, false⟩ [], sl false ⟨1, true⟩ []]) (fun j x out hx ho h => by
    obtain ⟨y, hy, rfl⟩ := map_at hx
    have hj := lt_of_at hy
    rw [List.length_map] at ho
    have ey : y = s.parts[j] := by rw [List.getElem?_eq_getElem hj] at hy; exact (Option.some.inj hy).symm
    subst ey
    refine eH47_0 (bif_pos (dT (by rw [e1]; omega)) (ck_pos (dT2 (by rw [e1]; omega)) ?_))
    rw [pt_at hj, V6_S, C93_S (t93 s.parts[j] q' (h2 _ (List.getElem_mem hj)))]
    refine ck_pos (dT2 (by omega)) (back_of ?_)
    rw [zN, inc64 (n := 1048576) (by omega) (by omega)]
    exact h) (eH47_0 (bif_neg (dF (by rw [e1, len_p]; omega)) rfl))
  rw [len_p] at this
  refine e10 ?_
  rw [N10, C47_S (e47 (ck_pos (by rw [e1]; exact mk_ok (by omega) (by omega)) (by rw [e1, Int.toNat_natCast]; exact this))), S_ret]
theorem t144 (l : List (List Int)) (q q' : Bool) (h1 : l.length ≤ 1048576) (h2 : ∀ x ∈ l, x.length ≤ 1048576) : tw cx 144 [rII true q l, rII true q' l] = some ([tb true], []) := by
  have key : ∀ d j, l.length - j = d → j ≤ l.length → S cx 144 (H144_0 (l.map (rI q)) (l.map (rI q')) (j : Int)) = some ([tb true], []) := by
    intro d
    induction d with
    | zero =>
      intro j hd hj
      exact eH144_0 (bif_neg (dF (by rw [len_r]; omega)) rfl)
    | succ d ih =>
      intro j hd hj
      have hjl : j < l.length := by omega
      refine eH144_0 (bif_pos (dT (by rw [len_r]; omega)) (ck_pos (dT2 (by rw [len_r]; omega)) ?_))
      rw [row_at hjl, S_slR]
      refine ck_pos (dT2 (by rw [len_r]; omega)) ?_
      rw [row_at hjl, S_slR, C17_S (t17 l[j] (by show _ ≤ 1073741824; have := h2 _ (List.getElem_mem hjl); omega))]
      refine bif_neg rfl (back_of ?_)
      rw [inc64 hjl (by omega)]
      exact ih (j + 1) (by omega) (by omega)
  refine e144 (bif_neg (by rw [len_r, len_r]; simp) (key _ 0 rfl (Nat.zero_le _)))
theorem t96 (p : Pt) (q q' : Bool) (hp : smallP p) : tw cx 96 [ePt true q p, ePt true q' p] = some ([tb true], []) := by
  obtain ⟨p1, p2, p3, p4, p5⟩ := hp
  refine e96 ?_
  rw [N96, C17_S (t17 p.params (by show _ ≤ 1073741824; omega))]
  refine bif_neg rfl ?_
  rw [C143_S (t143 p.code (by show _ ≤ 1073741824; omega))]
  refine bif_neg rfl (bif_neg (by simp) (bif_neg (by simp) ?_))
  rw [C17_S (t17 p.next (by show _ ≤ 1073741824; omega))]
  refine bif_neg rfl ?_
  rw [C144_S (t144 p.args q q' p4 p5)]
  exact bif_neg rfl rfl
theorem t13 (s : Sa) (q q' : Bool) (hs : smallA s) : tw cx 13 [eSa true false q s, eSa true false q' s] = some ([tb true], []) := by
  obtain ⟨h1, h2⟩ := hs
  have key : ∀ d j, s.parts.length - j = d → j ≤ s.parts.length → S cx 50 (H50_0 (s.parts.map (ePt false q)) (s.parts.map (ePt false q')) (j : Int)) = some ([tb true], []) := by
    intro d
    induction d with
    | zero =>
      intro j hd hj
      exact eH50_0 (bif_neg (dF (by rw [len_p]; omega)) rfl)
    | succ d ih =>
      intro j hd hj
      have hjl : j < s.parts.length := by omega
      refine eH50_0 (bif_pos (dT (by rw [len_p]; omega)) (ck_pos (dT2 (by rw [len_p]; omega)) ?_))
      rw [pt_at hjl, V6_S]
      refine ck_pos (dT2 (by rw [len_p]; omega)) ?_
      rw [pt_at hjl, V6_S, C96_S (t96 s.parts[j] q q' (h2 _ (List.getElem_mem hjl)))]
      refine bif_neg rfl (back_of ?_)
      rw [inc64 hjl (by omega)]
      exact ih (j + 1) (by omega) (by omega)
  refine e13 ?_
  rw [N13, C50_S (e50 (bif_neg (by rw [len_p, len_p]; simp) (key _ 0 rfl (Nat.zero_le _))))]
  exact bif_neg rfl (bif_neg (by simp) rfl)
def hugeS (x : Sx) : Prop := x.loc.length ≤ 9223372036854775807 ∧ x.mem.length ≤ 9223372036854775807 ∧ x.told.length ≤ 9223372036854775807
theorem t3 (s : Sa) (x : Sx) (fuel : Int) (hs : hugeA s) (hx : hugeS x) : tw cx 3 [eSa true true true s, eS true x, i64 fuel] = some ([tb true], []) := by
  obtain ⟨r1, a1, a2, a3⟩ := t7 s true true hs
  refine e3 ?_
  rw [N3, C7_S a1]
  by_cases c1 : r1 < 0
  · exact bif_pos (dT c1) rfl
  refine bif_neg (dF c1) ?_
  obtain ⟨r2, b1, b2⟩ := t8 x r1 hx.1 hx.2.1 hx.2.2 ⟨by omega, a2⟩
  rw [C8_S b1]
  by_cases c2 : r2 < 0
  · exact bif_pos (dT c2) rfl
  refine bif_neg (dF c2) ?_
  have hA := a3 (by omega)
  obtain ⟨x1, x2, x3⟩ := b2 (by omega)
  have hX : smallS x := ⟨by show _ ≤ 1073741824; omega, by show _ ≤ 1073741824; omega, by show _ ≤ 1073741824; omega⟩
  have c10 := t10 s true true hA
  have c11 := t11 x (by omega) (by omega) (by omega)
  have c13 := t13 s false false hA
  have c14 := t14 x hX
  have h9 := t9 s x fuel hA hX
  have h12 := t12 s x fuel hA hX
  have c0 : ∀ (v : Int) (b : Bool), tw cx 12 [eSa true false false s, eS true x, i64 fuel] = some ([i64 v, tb b], []) → S cx 3 (G3_0 fuel (s.parts.map (ePt true true)) s.values (x.loc.map i64) (x.mem.map i64) (x.told.map i64) v b) = some ([tb true], []) := fun v b h => by
    have z0 : S cx 3 (NG3_0_s0 (x.loc.map i64) (x.mem.map i64) (x.told.map i64) (x.loc.map i64) (x.mem.map i64) (x.told.map i64)) = some ([tb true], []) := by
      rw [NG3_0_s0, C11_S c11, C14_S c14]
      exact bif_neg rfl rfl
    have z1 : S cx 3 (NG3_0_s1 (s.parts.map (ePt true true)) s.values (x.loc.map i64) (x.mem.map i64) (x.told.map i64) (ps s) s.values (x.loc.map i64) (x.mem.map i64) (x.told.map i64)) = some ([tb true], []) := by
      rw [NG3_0_s1, C10_S c10, C13_S c13]
      exact bif_neg rfl (S_amb2 z0 z0)
    refine eG3_0 ?_
    rw [NG3_0, C10_S c10, C11_S c11, C12_S h]
    exact bif_neg (by simp) (bif_neg (by simp) (S_amb2 z1 z1))
  have s0 : S cx 3 (N3_s0 (s.parts.map (ePt true true)) s.values (x.loc.map i64) (x.mem.map i64) (x.told.map i64) fuel) = some ([tb true], []) := by
    rw [N3_s0, C10_S c10, C11_S c11]
    by_cases c : askP s x fuel ∧ (runR s x fuel).fin ≠ 3
    · rw [if_pos c] at h9 h12
      rw [C9_S h9]
      exact c0 _ _ h12
    · rw [if_neg c] at h9 h12
      rw [C9_S h9]
      exact c0 _ _ h12
  exact S_amb2 s0 s0
end Go.Tree.Q

/- How great what a run leaves is. -/
namespace Go.Tree.Q
open Go.Proofs Go.Tree.Cg
set_option linter.unusedVariables false
set_option linter.unusedSimpArgs false
set_option linter.unusedSectionVars false
theorem stepV_sz {x : F} {w : List Int} {s : Sx} (ht : s.told.length ≤ 100) :
    (stepV x w s).2.2.mem.length = s.mem.length ∧ (stepV x w s).2.2.told.length ≤ 100 ∧ (stepV x w s).2.2.loc = s.loc ∧ (stepV x w s).2.1.length = w.length := by
  unfold stepV
  split
  · exact ⟨rfl, ht, rfl, List.length_set⟩
  split
  · exact ⟨rfl, ht, rfl, List.length_set⟩
  split
  · split
    · exact ⟨rfl, ht, rfl, List.length_set⟩
    · exact ⟨rfl, ht, rfl, rfl⟩
  split
  · split
    · exact ⟨rfl, ht, rfl, rfl⟩
    · exact ⟨rfl, ht, rfl, List.length_set⟩
  split
  · split
    · exact ⟨rfl, ht, rfl, rfl⟩
    · exact ⟨List.length_set, ht, rfl, rfl⟩
  · split
    · exact ⟨rfl, ht, rfl, rfl⟩
    · refine ⟨rfl, ?_, rfl, rfl⟩
      rw [List.length_append, List.length_singleton]; omega
theorem blkW_sz : ∀ (xs : List F) (w : List Int) (s : Sx) (t : Int), s.told.length ≤ 100 →
    (blkW xs w s t).2.2.1.mem.length = s.mem.length ∧ (blkW xs w s t).2.2.1.told.length ≤ 100 ∧ (blkW xs w s t).2.2.1.loc = s.loc ∧ (blkW xs w s t).2.1.length = w.length
  | [], w, s, t, ht => ⟨rfl, ht, rfl, rfl⟩
  | x :: xs, w, s, t, ht => by
    obtain ⟨h1, h2, h3, h4⟩ := stepV_sz (x := x) (w := w) ht
    rw [blkW]
    split
    · obtain ⟨g1, g2, g3, g4⟩ := blkW_sz xs (stepV x w s).2.1 (stepV x w s).2.2 (twoV x t) h2
      exact ⟨g1.trans h1, g2, g3.trans h3, g4.trans h4⟩
    · exact ⟨h1, h2, h3, h4⟩
theorem runS_sz {s : Sa} (hs : smallA s) : ∀ (k at' : Nat) (h w : List Int) (x : Sx) (n last t : Int), x.told.length ≤ 100 → x.loc.length ≤ 8 →
    (runS s k at' h w x n last t).st.mem.length = x.mem.length ∧ (runS s k at' h w x n last t).st.told.length ≤ 100 ∧ (runS s k at' h w x n last t).st.loc.length ≤ 1048584 ∧ (runS s k at' h w x n last t).w.length = w.length
  | 0, at', h, w, x, n, last, t, ht, hl => ⟨rfl, ht, by show x.loc.length ≤ _; omega, rfl⟩
  | k + 1, at', h, w, x, n, last, t, ht, hl => by
    have hp : ∀ l, l ∈ (s.parts.getD at' default).args → l.length ≤ 1048576 := by
      intro l hm
      rw [List.getD] at hm
      cases e : s.parts[at']? with
      | none => rw [e] at hm; cases hm
      | some p =>
        rw [e] at hm
        exact (hs.2 p (List.mem_of_getElem? e)).2.2.2.2 l hm
    have ha : ((s.parts.getD at' default).args.getD 0 []).length ≤ 1048576 := by
      generalize (s.parts.getD at' default).args = ar at hp
      cases ar with
      | nil => exact Nat.zero_le _
      | cons a ar => exact hp a List.mem_cons_self
    obtain ⟨g1, g2, g3, g4⟩ := blkW_sz (s.parts.getD at' default).code (setPs (s.parts.getD at' default).params h w) x t ht
    rw [setPs_len] at g4
    have hl' : (blkW (s.parts.getD at' default).code (setPs (s.parts.getD at' default).params h w) x t).2.2.1.loc.length ≤ 8 := by rw [g3]; exact hl
    rw [runS]
    simp only
    split
    · split
      · refine ⟨g1, g2, ?_, g4⟩
        show (endLoc _ _ _).length ≤ _
        unfold endLoc
        rw [List.length_append, List.length_map, List.length_drop]
        omega
      · split
        · exact ⟨g1, g2, Nat.le_trans hl' (by decide), g4⟩
        · obtain ⟨r1, r2, r3, r4⟩ := runS_sz hs k (rdV (s.parts.getD at' default).next (wayV (s.parts.getD at' default) (blkW (s.parts.getD at' default).code (setPs (s.parts.getD at' default).params h w) x t).2.1)).toNat (((s.parts.getD at' default).args.getD (wayV (s.parts.getD at' default) (blkW (s.parts.getD at' default).code (setPs (s.parts.getD at' default).params h w) x t).2.1).toNat []).map (rdV (blkW (s.parts.getD at' default).code (setPs (s.parts.getD at' default).params h w) x t).2.1)) _ _ (n + 1) at' (blkW (s.parts.getD at' default).code (setPs (s.parts.getD at' default).params h w) x t).2.2.2 g2 hl'
          exact ⟨r1.trans g1, r2, r3, r4.trans g4⟩
    · exact ⟨g1, g2, Nat.le_trans hl' (by decide), g4⟩
theorem runR_sz {s : Sa} (hs : smallA s) {x : Sx} {fuel : Int} (ha : askP s x fuel) : smallS (runR s x fuel).st ∧ (runR s x fuel).w.length ≤ 300 := by
  obtain ⟨D, A, gd⟩ := gd_of ha.1
  have hx := ha.2.1
  have hv := gd.v
  obtain ⟨r1, r2, r3, r4⟩ := runS_sz hs fuel.toNat 0 [] (initW s.values x.loc) ⟨List.replicate 8 0, x.mem, x.told⟩ 0 (-1) 0 hx.2.2.1 (by simp)
  have hm : x.mem.length = 16 := hx.2.1
  refine ⟨⟨?_, ?_, ?_⟩, ?_⟩
  · exact Nat.le_trans r3 (by decide)
  · show _ ≤ 1073741824
    rw [r1]
    show x.mem.length ≤ _
    omega
  · exact Nat.le_trans r2 (by decide)
  · rw [r4]
    have : x.loc.length = 8 := hx.1
    simp [initW]
    omega
end Go.Tree.Q

/- What is asked of a trace and of a run, as one answer; marks. -/
namespace Go.Tree.Q
open Go.Proofs Go.Tree.Cg
set_option linter.unusedVariables false
set_option linter.unusedSimpArgs false
set_option linter.unusedSectionVars false
/-- The words of a run, and where it ends. -/
noncomputable def trA (s : Sa) (x : Sx) (fuel : Int) : List Int × Int × Bool := if askP s x fuel then ((runR s x fuel).w, (runR s x fuel).last, true) else ([], 0, false)
theorem trA_len {s : Sa} (hs : smallA s) (x : Sx) (fuel : Int) : (trA s x fuel).1.length ≤ 300 := by
  unfold trA
  split
  case isTrue h => exact (runR_sz hs h).2
  case isFalse h => exact Nat.zero_le _
section
variable (s : Sa) (x : Sx) (fuel : Int) (hs : smallA s) (hx2 : smallS x)
include hs hx2
theorem c15 : tw cx 15 [eSa true false false s, eS true x, i64 fuel] = some ([rI false (trA s x fuel).1, i64 (trA s x fuel).2.1, tb (trA s x fuel).2.2], []) := by
  rw [t15 s x fuel hs hx2]; unfold trA
  split <;> rfl
theorem c16 : tw cx 16 [eSa true false false s, eS true x, i64 fuel] = some ([rI false (trA s x fuel).1, i64 (trA s x fuel).2.1, tb (trA s x fuel).2.2], []) := by
  rw [t16 s x fuel hs hx2]; unfold trA
  split <;> rfl
end
def marksV (k : Int) (n : Nat) : List Int := (List.range n).map fun (i : Nat) => k + (i : Int)
theorem marks_eq (k : Int) (n : Nat) : marks k n = (marksV k n).map i64 := by
  unfold marks marksV
  rw [List.map_map]
  rfl
theorem marksV_len (k : Int) (n : Nat) : (marksV k n).length = n := by simp [marksV]
theorem marksV_at {k : Int} {n j : Nat} (h : j < n) : (marksV k n)[j]? = some (k + (j : Int)) := by
  simp [marksV, h]
theorem t21 (k : Int) (n : Nat) (hk : 0 ≤ k ∧ k ≤ 1152921504606846976) (hb : n ≤ 1073741824) : tw cx 21 [rI true (marksV k n), i64 k] = some ([i64 (k + n)], []) := by
  have e1 : ((marksV k n).map i64).length = n := by rw [List.length_map, marksV_len]
  have key : ∀ d j : Nat, n - j = d → j ≤ n → S cx 21 (H21_0 ((marksV k n).map i64) (k + j) j) = some ([i64 (k + n)], []) := by
    intro d
    induction d with
    | zero =>
      intro j hd hj
      have : j = n := by omega
      subst this
      exact eH21_0 (bif_neg (dF (by omega)) rfl)
    | succ d ih =>
      intro j hd hj
      refine eH21_0 (bif_pos (dT (by omega)) (ck_pos (dT2 (by omega)) ?_))
      rw [getD_at (marksV_at (show j < n by omega)), S_int]
      refine bif_neg (by simp) (back_of ?_)
      rw [inc64 (n := n) (by omega) hb, w64_id (by omega) (by omega), show k + (j : Int) + 1 = k + ((j + 1 : Nat) : Int) by omega]
      exact ih (j + 1) (by omega) (by omega)
  refine e21 ?_
  have := key n 0 (by omega) (by omega)
  simpa [N21] using this
theorem t20 (xs : List Int) (k : Int) (hk : 0 ≤ k ∧ k ≤ 1152921504606846976) (hb : xs.length ≤ 1073741824) : tw cx 20 [rI false xs, i64 k] = some ([i64 (k + xs.length)], [rI false (marksV k xs.length)]) := by
  have key : ∀ d j : Nat, xs.length - j = d → j ≤ xs.length → S cx 20 (H20_0 (k + j) j (((marksV k j) ++ xs.drop j).map i64)) = some ([i64 (k + xs.length)], [rI false (marksV k xs.length)]) := by
    intro d
    induction d with
    | zero =>
      intro j hd hj
      have : j = xs.length := by omega
      subst this
      rw [List.drop_length, List.append_nil]
      exact eH20_0 (bif_neg (dF (by rw [List.length_map, marksV_len]; omega)) rfl)
    | succ d ih =>
      intro j hd hj
      have e1 : (((marksV k j) ++ xs.drop j).map i64).length = xs.length := by
        rw [List.length_map, List.length_append, marksV_len, List.length_drop]; omega
      refine eH20_0 (bif_pos (dT (by omega)) (ck_pos (dT2 (by omega)) (back_of ?_)))
      rw [inc64 (n := xs.length) (by omega) hb, w64_id (by omega) (by omega)]
      have e2 : (((marksV k j) ++ xs.drop j).map i64).set (0 + ((j : Nat) : Int).toNat) (i64 (k + j)) = (marksV k (j + 1) ++ xs.drop (j + 1)).map i64 := by
        rw [zN, ← List.map_set, List.set_append_right _ _ (by rw [marksV_len]; exact Nat.le_refl _), marksV_len, Nat.sub_self, List.drop_eq_getElem_cons (show j < xs.length by omega), List.set_cons_zero]
        simp [marksV, List.range_succ]
      rw [e2, show k + (j : Int) + 1 = k + ((j + 1 : Nat) : Int) by omega]
      exact ih (j + 1) (by omega) (by omega)
  refine e20 ?_
  have := key xs.length 0 (by omega) (by omega)
  simpa [N20, marksV] using this
theorem t19 (x : Sx) (k : Int) (hk : 0 ≤ k ∧ k ≤ 2305843009213693952) (h : smallS x) : tw cx 19 [eS false x, i64 k] = some ([i64 (k + x.loc.length + x.mem.length + x.told.length)], [eS false ⟨marksV k x.loc.length, marksV (k + x.loc.length) x.mem.length, marksV (k + x.loc.length + x.mem.length) x.told.length⟩]) := by
  refine tw_given (g := g19) rfl ?_
  obtain ⟨h1, h2, h3⟩ := h
  have h1' : (x.loc.map i64).length ≤ 1073741824 := by rw [List.length_map]; exact h1
  have h2' : (x.mem.map i64).length ≤ 1073741824 := by rw [List.length_map]; exact h2
  have h3' : (x.told.map i64).length ≤ 1073741824 := by rw [List.length_map]; exact h3
  simp only [g19]
  rw [if_pos ⟨hk.1, hk.2, h1', h2', h3'⟩]
  simp only [marks_eq, List.length_map]
theorem t18 (s : Sa) (hs : smallA s) : ∃ (k2 : Int) (qs : List TV), 1 ≤ k2 ∧ k2 ≤ 2000000000000000000 ∧ tw cx 18 [eSa false false false s, i64 1] = some ([i64 k2], [.st [sl false ⟨6, true⟩ qs, i64 s.values]]) := by
  obtain ⟨qs, k2, a1, a2, a3⟩ := G.t51 s.parts 1 ⟨by decide, by decide⟩ hs.1 hs.2
  refine ⟨k2, qs.map (ePt false false), a1, a2, tw_given (g := g18) rfl ?_⟩
  have a3 : tw G.cx 51 [.sl false ⟨6, true⟩ () (s.parts.map (ePt false false)), .fl (.int .i64 1)] = some ([.fl (.int .i64 k2)], [.sl false ⟨6, true⟩ () (qs.map (ePt false false))]) := a3
  simp only [g18, a3]
end Go.Tree.Q

/- The laws TraceSsa and RunSsa answer true. -/
namespace Go.Tree.Q
open Go.Proofs Go.Tree.Cg
set_option linter.unusedVariables false
set_option linter.unusedSimpArgs false
set_option linter.unusedSectionVars false
theorem t4 (s : Sa) (x : Sx) (fuel : Int) (hs : hugeA s) (hx : hugeS x) : tw cx 4 [eSa true true true s, eS true x, i64 fuel] = some ([tb true], []) := by
  obtain ⟨r1, a1, a2, a3⟩ := t7 s true true hs
  refine e4 ?_
  rw [N4, C7_S a1]
  by_cases c1 : r1 < 0
  · exact bif_pos (dT c1) rfl
  refine bif_neg (dF c1) ?_
  obtain ⟨r2, b1, b2⟩ := t8 x r1 hx.1 hx.2.1 hx.2.2 ⟨by omega, a2⟩
  rw [C8_S b1]
  by_cases c2 : r2 < 0
  · exact bif_pos (dT c2) rfl
  refine bif_neg (dF c2) ?_
  have hA := a3 (by omega)
  obtain ⟨x1, x2, x3⟩ := b2 (by omega)
  have hX : smallS x := ⟨by show _ ≤ 1073741824; omega, by show _ ≤ 1073741824; omega, by show _ ≤ 1073741824; omega⟩
  have c10 := t10 s true true hA
  have c11 := t11 x (by omega) (by omega) (by omega)
  have c13 := t13 s false false hA
  have c14 := t14 x hX
  have h15 := c15 s x fuel hA hX
  have h16 := c16 s x fuel hA hX
  have hw := trA_len hA x fuel
  generalize trA s x fuel = A at h15 h16 hw
  obtain ⟨w, l, b⟩ := A
  simp only at h15 h16 hw
  have c17 := t17 w (by show _ ≤ 1073741824; omega)
  obtain ⟨k2, qs, k0, k1, c18⟩ := t18 s hA
  have c19 := t19 x k2 ⟨by omega, by omega⟩ hX
  have c20 := t20 w 1 ⟨by omega, by omega⟩ (by omega)
  have c21 := t21 1 w.length ⟨by omega, by omega⟩ (by omega)
  have z1 : S cx 4 (G4_1 (w.map i64) l b ((marksV 1 w.length).map i64) (1 + w.length) (w.map i64) l b) = some ([tb true], []) := by
    refine eG4_1 ?_
    rw [NG4_1, C17_S c17]
    refine bif_neg rfl (bif_neg (by simp) (bif_neg (by simp) ?_))
    rw [C21_S c21]
    exact bif_neg (dF (by omega)) (bif_neg (by simp) rfl)
  have z2 : S cx 4 (NG4_0_s0 fuel (s.parts.map (ePt true true)) s.values (x.loc.map i64) (x.mem.map i64) (x.told.map i64) (w.map i64) l b (1 + w.length) ((marksV 1 w.length).map i64)) = some ([tb true], []) := by
    rw [NG4_0_s0, C10_S c10, C11_S c11, C16_S h16]
    exact z1
  have z3 : S cx 4 (NG4_0_s1 fuel (s.parts.map (ePt true true)) s.values (x.loc.map i64) (x.mem.map i64) (x.told.map i64) (w.map i64) l b (ps s) s.values (x.loc.map i64) (x.mem.map i64) (x.told.map i64) (w.map i64) l b) = some ([tb true], []) := by
    rw [NG4_0_s1, C11_S c11, C14_S c14]
    refine bif_neg rfl ?_
    rw [C18_S c18, C19_S c19]
    refine bif_neg (dF (by omega)) ?_
    rw [C17_S c17]
    refine bif_neg rfl (bif_neg (by simp) (bif_neg (by simp) ?_))
    rw [C20_S c20, C21_S c21]
    exact bif_neg (dF (by omega)) (bif_neg (by simp) (S_amb2 z2 z2))
  have z4 : S cx 4 (NG4_0_s2 fuel (s.parts.map (ePt true true)) s.values (x.loc.map i64) (x.mem.map i64) (x.told.map i64) (w.map i64) l b (ps s) s.values (x.loc.map i64) (x.mem.map i64) (x.told.map i64) (w.map i64) l b) = some ([tb true], []) := by
    rw [NG4_0_s2, C10_S c10, C13_S c13]
    exact bif_neg rfl (S_amb2 z3 z3)
  have z5 : S cx 4 (G4_0 fuel (s.parts.map (ePt true true)) s.values (x.loc.map i64) (x.mem.map i64) (x.told.map i64) (w.map i64) l b) = some ([tb true], []) := by
    refine eG4_0 ?_
    rw [NG4_0, C10_S c10, C11_S c11, C16_S h16, C17_S c17]
    exact bif_neg rfl (bif_neg (by simp) (bif_neg (by simp) (S_amb2 z4 z4)))
  have z6 : S cx 4 (N4_s0 (s.parts.map (ePt true true)) s.values (x.loc.map i64) (x.mem.map i64) (x.told.map i64) fuel) = some ([tb true], []) := by
    rw [N4_s0, C10_S c10, C11_S c11, C15_S h15]
    exact z5
  exact S_amb2 z6 z6
end Go.Tree.Q
