/- Trees of values, second part: operations, calls, regions. Conditions: none. -/
import Derived.Test.YtipikejhchpfnaaTree1
import Derived.Laws.MakeOwn
import Derived.Great.BuildSlice
import Derived.Deep.AppendSrc
import Derived.Laws.Slices
import Derived.Laws.Strings
/- Trees of values: what the evaluator says of an operation is so. First part: operands, copies. -/
namespace Go.Tree
set_option linter.unusedSectionVars false
set_option linter.unusedVariables false
set_option linter.unusedSimpArgs false
variable {P : Program} {w0 : World} {F : Fm} {nt : Nat} {H : List Value} {L : List (AV Value)} {XD : List Nat} {X : List LT} {a : Act} {w : World} {α : Type} {res : α}
variable [Pol]

/-- What follows: some slots, told without addresses, from which the rest yields its answer. -/
def Nxt (P : Program) (w0 : World) (F : Fm) (nt : Nat) (H : List Value) (K : Env → Option α) (res : α) (a : Act) (w : World) : Prop := ∃ L, G P w0 F nt H L [] [] a w ∧ K (L.map erA) = some res
theorem wp_value {o : Oper} {next : Act → World → Prop} {Q : Exit → Act → World → Prop} {v : Value} {w' : World} (h : (execOp a.eval o).run P w = .ok (.value v) w') (hn : next (a.put o.dst v) w') : o.wp P a w next Q := by
  unfold Oper.wp
  rw [h]
  exact hn
theorem wp_skip' {o : Oper} {next : Act → World → Prop} {Q : Exit → Act → World → Prop} {w' : World} (h : (execOp a.eval o).run P w = .ok .skip w') (hn : next (a.put o.dst undef) w') : o.wp P a w next Q := by
  unfold Oper.wp
  rw [h]
  exact hn

/-! ### Constants -/
mutual
theorem ofCells_ok : ∀ (n : Nat) (ty : TypeId) (cs : List Value) (t : TV) (rest : List Value), ofCells P n ty cs = some (t, rest) → ∃ T, er T = t ∧ cs = cells T ++ rest ∧ Mem w T ∧ all T = []
  | 0, _, _, _, _, h => by simp [ofCells] at h
  | n + 1, ty, cs, t, rest, h => by
    simp only [ofCells] at h
    split at h
    · split at h
      · cases h; exact ⟨.fl _, rfl, rfl, rfl, rfl⟩
      · cases h
    · split at h
      · cases h; exact ⟨.fl _, rfl, rfl, rfl, rfl⟩
      · cases h
    · split at h
      · cases h; exact ⟨.fl _, rfl, rfl, rfl, rfl⟩
      · cases h
    · split at h
      · cases h
        exact ⟨.sl false _ (.slice none 0 0) [], by rw [er_sl]; rfl, rfl, ⟨⟨none, 0, rfl, Nat.le_refl _, by simp [cellsL], fun h => absurd rfl h⟩, by simp, trivial⟩, rfl⟩
      · cases h
    · split at h
      · cases h; exact ⟨.fl _, rfl, rfl, rfl, rfl⟩
      · cases h
    · obtain ⟨⟨ts, r⟩, h', e⟩ := Option.map_eq_some_iff.1 h
      cases e
      obtain ⟨Ts, h1, h2, h3, h4⟩ := ofCellsL_ok n _ cs ts r h'
      exact ⟨.st Ts, by rw [er_st, h1], h2, h3, h4⟩
    · cases h
theorem ofCellsL_ok : ∀ (n : Nat) (tys : List TypeId) (cs : List Value) (ts : List TV) (rest : List Value), ofCellsL P n tys cs = some (ts, rest) → ∃ Ts, Ts.map er = ts ∧ cs = cellsL Ts ++ rest ∧ MemL w Ts ∧ allL Ts = []
  | n, [], cs, ts, rest, h => by
    have e : ofCellsL P n [] cs = some ([], cs) := by cases n <;> rfl
    rw [e] at h
    cases h
    exact ⟨[], rfl, rfl, trivial, rfl⟩
  | 0, _ :: _, _, _, _, h => by simp [ofCellsL] at h
  | n + 1, ty :: tys, cs, ts, rest, h => by
    simp only [ofCellsL, Option.bind_eq_some_iff, Option.map_eq_some_iff] at h
    obtain ⟨⟨t, r⟩, h1, ⟨ts', r'⟩, h2, e⟩ := h
    cases e
    obtain ⟨T, e1, e2, e3, e4⟩ := ofCells_ok n ty cs t r h1
    obtain ⟨Ts, f1, f2, f3, f4⟩ := ofCellsL_ok n tys r ts' r' h2
    exact ⟨T :: Ts, by rw [List.map_cons, e1, f1], by rw [e2, f2, cellsL, List.append_assoc], ⟨e3, f3⟩, by rw [allL, e4, f4]; rfl⟩
end
theorem isSt_er (T : LT) : isStT (er T) = isSt T := by
  cases T with
  | st => rw [er_st]; rfl
  | sl => rw [er_sl]; rfl
  | cl => rw [er_cl]; rfl
  | _ => rfl
theorem cells_toList {T : LT} (h : Mem w T) : (valOf T).cells.toList = cells T := by
  cases T with
  | st => simp [valOf, Value.cells, cells]
  | fl v =>
    simp only [Mem] at h
    cases v <;> first | rfl | (simp [Value.oneCell'] at h)
  | sl ro k hd xs => obtain ⟨⟨A, c, rfl, _⟩, _⟩ := h; rfl
  | pt ro hd x => obtain ⟨⟨b, o, rfl, _⟩, _⟩ := h; rfl
  | cl => rfl
  | dead v =>
    simp only [Mem] at h
    cases v <;> first | rfl | (simp [Value.oneCell'] at h)
theorem isAgg_valOf {T : LT} (h : Mem w T) : isAgg (valOf T) = isSt T := by
  cases T with
  | st => rfl
  | fl v =>
    simp only [Mem] at h
    cases v <;> first | rfl | (simp [Value.oneCell'] at h)
  | sl ro k hd xs => obtain ⟨⟨A, c, rfl, _⟩, _⟩ := h; rfl
  | pt ro hd x => obtain ⟨⟨b, o, rfl, _⟩, _⟩ := h; rfl
  | cl => rfl
  | dead v =>
    simp only [Mem] at h
    cases v <;> first | rfl | (simp [Value.oneCell'] at h)
theorem value_of_cells {v u : Value} (h : v.cells.toList = u.cells.toList) (ha : isAgg v = isAgg u) : v = u := by
  have h := Array.toList_inj.1 h
  cases hu : isAgg u with
  | true =>
    rw [hu] at ha
    cases v <;> first | (simp [isAgg] at ha; done) | skip
    cases u <;> first | (simp [isAgg] at hu; done) | skip
    simp only [Value.cells] at h
    rw [h]
  | false =>
    rw [hu] at ha
    have e : ∀ x : Value, isAgg x = false → x.cells = #[x] := fun x hx => by cases x <;> first | rfl | (simp [isAgg] at hx)
    rw [e v ha, e u hu] at h
    simpa using h
theorem constT_ok {ty : TypeId} {v : Value} {t : TV} (h : constT P ty v = some t) : ∃ T, er T = t ∧ valOf T = v ∧ Mem w T ∧ all T = [] := by
  unfold constT at h
  split at h
  · rename_i t' he
    cases hb : (isAgg v == isStT t') with
    | false => rw [hb] at h; cases h
    | true =>
      rw [hb] at h
      cases h
      obtain ⟨T, h1, h2, h3, h4⟩ := ofCells_ok (w := w) _ _ _ _ _ he
      refine ⟨T, h1, ?_, h3, h4⟩
      refine (value_of_cells ?_ ?_).symm
      · rw [h2, cells_toList h3, List.append_nil]
      · rw [isAgg_valOf h3, ← isSt_er, h1]; simpa using hb
  · cases h
theorem noall {T : LT} (h : all T = []) : own T = [] ∧ shr T = [] := by
  constructor
  · refine List.eq_nil_iff_forall_not_mem.2 fun b hb => ?_
    have := own_all T hb
    rw [h] at this
    cases this
  · refine List.eq_nil_iff_forall_not_mem.2 fun b hb => ?_
    have := shr_all T hb
    rw [h] at this
    cases this

/-! ### Operands -/
theorem flatO_ok (g : G P w0 F nt H L XD X a w) {x : Operand} (hx : fitO nt x = true) {v : Value} (h : flatO (L.map erA) x = some v) : a.eval x = v := by
  cases x with
  | tmp s =>
    simp only [flatO, slot_er] at h
    split at h
    · rename_i d u hs
      cases h
      obtain ⟨T, e, e2⟩ := erA_val hs
      have := er_fl_inv e2.symm
      subst this
      have hso := g.slots s (by simpa [fitO] using hx)
      rw [e] at hso
      exact hso
    · cases h
  | const u => simp only [flatO, Option.some.injEq] at h; exact h
  | global => simp [flatO] at h
  | func => simp [flatO] at h
theorem lookO_ok (g : G P w0 F nt H L XD X a w) {ty : TypeId} {x : Operand} (hx : fitO nt x = true) {K : List Nat → TV → Option α} (h : lookO P (L.map erA) ty x K = some res) :
    ∃ D T, K D (er T) = some res ∧ Mem w T ∧ a.eval x = valOf T ∧ (∀ j b, b ∈ all T → b ∈ ownA (slot L j) → j ∈ reads.srcs (L.map erA) x ++ D) ∧ (∀ b ∈ all T, b ∉ ownL X) ∧ (∀ j b, b ∈ shr T → b ∈ ownA (slot L j) → j ∈ D) ∧ (∀ b ∈ all T, Bs F w0 b) := by
  cases x with
  | tmp s =>
    obtain ⟨D, T, h1, h2, h3, h4, h5, h6, h7, h8⟩ := look_ok g (by simpa [fitO] using hx) h
    refine ⟨D, T, h1, h2, h3, fun j b hb hj => ?_, h5, h6, h8⟩
    rcases all_of T hb with hb' | hb'
    · refine List.mem_append.2 (.inl ?_)
      have hj' := g.dj.dj j (rootS L s) b hj (h7 b hb')
      subst hj'
      simp only [reads.srcs, slot_er]
      have := h7 b hb'
      unfold rootS at this ⊢
      cases e : slot L s with
      | un => rw [e] at this; simp only [e] at this; cases this
      | val d t =>
        rw [e] at this
        simp only [e] at this
        simp only [erA, hasOwn_er]
        cases ho : hasOwn t with
        | true => simp
        | false =>
          have := own_nil t ho
          rename_i this'
          simp only [ownA, this] at this'
          cases this'
      | ref r p s' ty' sn => simp [erA]
      | adr r p => rw [e] at this; simp only [e] at this; cases this
      | tu d ts =>
        unfold lookO look at h
        simp only [slot_er, e, erA] at h
        cases h
    · exact List.mem_append.2 (.inr (h6 j b hb' hj))
  | const v =>
    simp only [lookO] at h
    split at h
    · rename_i t ht
      obtain ⟨T, h1, h2, h3, h4⟩ := constT_ok (w := w) ht
      refine ⟨[], T, by rw [h1]; exact h, h3, h2.symm, fun j b hb => (by rw [h4] at hb; cases hb), fun b hb => (by rw [h4] at hb; cases hb), fun j b hb => ?_, fun b hb => (by rw [h4] at hb; cases hb)⟩
      rw [(noall h4).2] at hb; cases hb
    · cases h
  | func f =>
    exact ⟨[], .cl f [], h, trivial, rfl, (fun j b hb => by cases hb), (fun b hb => by cases hb), (fun j b hb => by cases hb), (fun b hb => by cases hb)⟩
  | global => cases h
theorem takeO_ok (g : G P w0 F nt H L XD X a w) {ty : TypeId} {x : Operand} (hx : fitO nt x = true) (hX : ∀ s, x = .tmp s → rootS L s ∉ XD) {K : List Nat → TV → Env → Option α} (h : takeO P (L.map erA) ty x K = some res) :
    ∃ D T L', K D (er T) (L'.map erA) = some res ∧ G P w0 F nt H L' (XD ++ D) (X ++ [T]) a w ∧ a.eval x = valOf T := by
  cases x with
  | tmp s => exact take_ok g (by simpa [fitO] using hx) (hX s rfl) h
  | const v =>
    simp only [takeO] at h
    split at h
    · rename_i t ht
      obtain ⟨T, h1, h2, h3, h4⟩ := constT_ok (w := w) ht
      refine ⟨[], T, L, by rw [h1]; exact h, g.addRo h3 (noall h4).1 (fun j b hb => ?_) (fun b hb => ?_) (fun b hb => ?_), h2.symm⟩
      · rw [(noall h4).2] at hb; cases hb
      · rw [(noall h4).2] at hb; cases hb
      · rw [(noall h4).2] at hb; cases hb
    · cases h
  | func f => exact ⟨[], .cl f [], L, h, g.addRo (T := .cl f []) trivial rfl (fun j b hb => by cases hb) (fun b hb => by cases hb) (fun b hb => by cases hb), rfl⟩
  | global => cases h
/-- What has been taken out is let go. -/
theorem G.dropX (g : G P w0 F nt H L XD X a w) : G P w0 F nt H L [] [] a w :=
  ⟨g.defers, g.size, g.len, g.slots, g.hid, g.mem, trivial, ⟨g.dj.nd, g.dj.dj, g.dj.ss, g.dj.sh, List.nodup_nil, (fun i b hx => by cases hx), (fun i b _ hx => by cases hx), (fun b hx => by cases hx), (fun j b hx => by cases hx)⟩, g.mine, (fun b hb => by cases hb), g.fr, g.sees, (fun b hb => by cases hb)⟩
theorem G.undep (g : G P w0 F nt H L XD X a w) {XD' : List Nat} (h : ∀ j b, b ∈ shrL X → b ∈ ownA (slot L j) → j ∈ XD') : G P w0 F nt H L XD' X a w :=
  ⟨g.defers, g.size, g.len, g.slots, g.hid, g.mem, g.memX, ⟨g.dj.nd, g.dj.dj, g.dj.ss, g.dj.sh, g.dj.xn, g.dj.xo, g.dj.xs, g.dj.xx, h⟩, g.mine, g.mineX, g.fr, g.sees, g.seesX⟩
/-- One tree comes to stand in the place that an operation writes. -/
theorem landT {T : LT} {d : Option Tmp} {D : List Nat} (g : G P w0 F nt H L D [T] a w) (hd : fitD nt d = true) {v : Value} (hv : v = valOf T) {K : Env → Option α} (h : K (putD (L.map erA) d (.val D (er T))) = some res) : Nxt P w0 F nt H K res (a.put d v) w := by
  cases d with
  | none => exact ⟨L, g.dropX, h⟩
  | some d =>
    refine ⟨putS L d (.val D T), g.land (by simpa [fitD] using hd) (by simp [ownA, ownL]) (by simp [shrA, shrL]) rfl g.memX.1 (fun _ => hv), ?_⟩
    rw [← putS_er]; exact h
/-- A slot that leads elsewhere. -/
theorem landRef {d : Option Tmp} (g : G P w0 F nt H L [] [] a w) (hd : fitD nt d = true) {v : Value} {av : AV Value} (hn : ownA av = [] ∧ shrA av = [] ∧ depsA av = [] ∧ (∀ w, MemA w av) ∧ ∀ deps t, av ≠ .val deps t)
    (hv : ∀ L' d', d = some d' → (∀ r deps t, slot L' r = .val deps t → r ≠ d' → slot L r = .val deps t) → (∀ deps t, slot L' d' ≠ .val deps t) → SlotOk P L' v av) {K : Env → Option α} (h : K (putD (L.map erA) d (erA av)) = some res) : Nxt P w0 F nt H K res (a.put d v) w := by
  cases d with
  | none => exact ⟨L, g, h⟩
  | some d =>
    refine ⟨putS L d av, g.landR (by simpa [fitD] using hd) hn.1 hn.2.1 hn.2.2.1 (hn.2.2.2.1 w) (fun L' h1 h2 => ?_) (.inl hn.2.2.2.2), ?_⟩
    · rcases h2 with h2 | h2
      · exact hv L' d rfl h1 h2
      · exact h2 L'
    · rw [← putS_er]; exact h
/-- A slot is copied. -/
theorem copyS_ok (g : G P w0 F nt H L [] [] a w) {fn : Func} {ty : TypeId} {d s : Nat} (hd : d < nt) (hs : s < nt) {K : Env → Option α} (h : copyS P fn ty (L.map erA) d s K = some res) : Nxt P w0 F nt H K res (a.put (some d) (a.tmps.getD s undef)) w := by
  have hd' : fitD nt (some d) = true := by simpa [fitD] using hd
  have hso := g.slots s hs
  unfold copyS at h
  rw [slot_er] at h
  split at h
  · rename_i deps t ht
    obtain ⟨T, e, rfl⟩ := erA_val ht
    have hm := g.mem s
    rw [e] at hso hm
    split at h
    · rename_i ho
      rw [hasOwn_er] at ho
      split at h
      · have g1 := take_core (p := []) (u' := T) (T' := deaden T) g e (by simp) (Vk.refl T) hm trivial (Vk.refl T) hm rfl (by simp [Flt]) rfl
        have g2 : G P w0 F nt H (putS L s .un) ([] ++ deps) ([] ++ [T]) a w := g1.drop (by simp [putS]) (fun i => by
          have hsl : s < L.length := Nat.lt_of_lt_of_le hs g.len
          rw [putS, slot_set, slot_set, slot_map L _ (killS_un s), slot_map L _ (killC_un s [])]
          by_cases c : s = i
          · simp [c, hsl]; right; omega
          · simp only [c, false_and, if_false]
            exact killS_killC s _)
        refine landT (d := some d) (T := T) (D := deps) g2 hd' hso ?_
        have e1 : (putS L s .un).map erA = putS (L.map erA) s .un := (putS_er L s .un).symm
        rw [e1]; exact h
      · refine landRef (d := some d) g hd' (av := .ref s [] none ty (isSt T)) ⟨rfl, rfl, rfl, fun _ => trivial, fun _ _ => by simp⟩ (fun L' d' hdd hk hnv deps' t' ht' => ?_) (by rw [isSt_er] at h; exact h)
        by_cases c : s = d'
        · subst c; exact absurd ht' (hnv _ _)
        · have := hk s deps' t' ht' c
          rw [e] at this
          cases this
          exact ⟨trivial, hso, fun h => h⟩
    · rename_i ho
      rw [hasOwn_er] at ho
      have ho := own_nil T (by simpa using ho)
      have g1 := g.addRo (T := T) (D := deps) hm ho (fun j b hb hj => by
        have := g.dj.sh s j b (by rw [e]; exact hb) hj
        rwa [e] at this) (fun b _ => by simp [ownL]) (fun b hb => g.sees s b (by rw [e]; exact hb))
      exact landT (d := some d) (T := T) (D := deps) g1 hd' hso h
  · rename_i r p sub ty' sn ht
    have e := erA_ref ht
    split at h
    · obtain ⟨D, T, L', h, g', hv⟩ := take_ok g hs (by simp) h
      exact landT (d := some d) (T := T) (D := D) g' hd' hv h
    · rename_i hrd
      rw [e] at hso
      refine landRef (d := some d) g hd' (av := .ref r p sub ty' sn) ⟨rfl, rfl, rfl, fun _ => trivial, fun _ _ => by simp⟩ (fun L' d' hdd hk hnv deps' t' ht' => ?_) h
      by_cases c : r = d'
      · subst c; exact absurd ht' (hnv _ _)
      · exact hso deps' t' (hk r deps' t' ht' c)
  · rename_i r p ht
    have e := erA_adr ht
    split at h
    · cases h
    · rw [e] at hso
      refine landRef (d := some d) g hd' (av := .adr r p) ⟨rfl, rfl, rfl, fun _ => trivial, fun _ _ => by simp⟩ (fun L' d' hdd hk hnv deps' t' ht' => ?_) h
      by_cases c : r = d'
      · subst c; exact absurd ht' (hnv _ _)
      · exact hso deps' t' (hk r deps' t' ht' c)
  · rename_i deps ts ht
    obtain ⟨Ts, e, rfl⟩ := erA_tu ht
    have g1 := g.takeTu e
    rw [e] at hso
    refine ⟨putS (putS L s .un) d (.tu deps Ts), g1.land hd rfl rfl rfl g1.memX (fun _ => hso), ?_⟩
    rw [← putS_er, ← putS_er]
    exact h
  · cases h
end Go.Tree

/- Trees of values: what the evaluator says of an operation is so. Second part: places, loads, stores. -/
namespace Go.Tree
set_option linter.unusedSectionVars false
set_option linter.unusedVariables false
set_option linter.unusedSimpArgs false
variable {P : Program} {w0 : World} {F : Fm} {nt : Nat} {H : List Value} {L : List (AV Value)} {XD : List Nat} {X : List LT} {a : Act} {w : World} {α : Type} {res : α}
variable [Pol]

theorem addrS_f : ∀ (p : List Stp) (base : Option (Nat × Nat)) (T : LT) (s : TypeId) (i : Nat), addrS P base T (p ++ [.f s i]) = (addrS P base T p).map fun q => (q.1, q.2 + (offs P s i).getD 0)
  | [], base, T, s, i => by cases T <;> rfl
  | .f s' j :: p, base, .st xs, s, i => by simp only [List.cons_append, addrS]; exact addrS_f p _ _ s i
  | .d s' :: p, base, .pt _ hd x, s, i => by simp only [List.cons_append, addrS]; exact addrS_f p _ _ s i
  | .i s' n :: p, base, .sl _ k hd xs, s, i => by
    simp only [List.cons_append, addrS]
    split
    · exact addrS_f p _ _ s i
    · rfl
  | .f s' j :: p, base, .fl _, s, i | .f s' j :: p, base, .sl .., s, i | .f s' j :: p, base, .pt .., s, i | .f s' j :: p, base, .cl .., s, i | .f s' j :: p, base, .dead _, s, i => by simp only [List.cons_append, addrS]; exact addrS_f p _ _ s i
  | .d _ :: _, _, .fl _, _, _ | .d _ :: _, _, .sl .., _, _ | .d _ :: _, _, .st .., _, _ | .d _ :: _, _, .cl .., _, _ | .d _ :: _, _, .dead _, _, _ => rfl
  | .i _ _ :: _, _, .fl _, _, _ | .i _ _ :: _, _, .pt .., _, _ | .i _ _ :: _, _, .st .., _, _ | .i _ _ :: _, _, .cl .., _, _ | .i _ _ :: _, _, .dead _, _, _ => rfl
theorem addrS_app : ∀ (p : List Stp) (base : Option (Nat × Nat)) (ro : Bool) (T : LT) (q : List Stp), Valid T p → addrS P base T (p ++ q) = addrS P (addrS P base T p) (get default ro T p).2 q
  | [], base, ro, T, q, _ => rfl
  | .f s j :: p, base, ro, .st xs, q, hv => by simp only [List.cons_append, addrS, get]; exact addrS_app p _ _ _ q hv.2
  | .d s :: p, base, ro, .pt _ hd x, q, hv => by simp only [List.cons_append, addrS, get]; exact addrS_app p _ _ _ q hv
  | .i s n :: p, base, ro, .sl _ k hd xs, q, hv => by
    simp only [List.cons_append, addrS, get, if_pos hv.1]
    exact addrS_app p _ _ _ q hv.2
theorem eval_tmp (s : Nat) : a.eval (.tmp s) = a.tmps.getD s undef := rfl
theorem PtOk.plc {w : World} {ro : Bool} {h : Value} {cs : List Value} (hk : PtOk w ro h cs) : ∃ b o, h = .pointer (some ⟨b, o, none⟩) ∧ Tree.plc h = some (b, o) := by
  obtain ⟨b, o, rfl, _⟩ := hk
  exact ⟨b, o, rfl, rfl⟩
/-- The place that a pointer leads to. -/
theorem place_ok (g : G P w0 F nt H L XD X a w) {e : TypeId} {x : Operand} (hx : fitO nt x = true) {K : Nat → List Stp → Option α} (h : place P (L.map erA) e x K = some res) :
    ∃ r p deps T b o, K r p = some res ∧ slot L r = .val deps T ∧ addrS P none T p = some (b, o) ∧ a.eval x = .pointer (some ⟨b, o, none⟩) := by
  cases x with
  | tmp s =>
    have hs : s < nt := by simpa [fitO] using hx
    have hso := g.slots s hs
    simp only [place, slot_er] at h
    split at h
    · rename_i d ro hd y hv
      obtain ⟨T, e1, e2⟩ := erA_val hv
      obtain ⟨hd', z, rfl, rfl⟩ := er_pt_inv e2.symm
      have hm := g.mem s
      rw [e1] at hso hm
      obtain ⟨b, o, rfl, hp⟩ := hm.1.plc
      exact ⟨s, [.d e], d, _, b, o, h, e1, hp, hso⟩
    · rename_i r p hv
      have e1 := erA_adr hv
      rw [e1] at hso
      split at h
      · rename_i d t ht
        obtain ⟨T, e2, rfl⟩ := erA_val ht
        obtain ⟨b, o, h1, h2⟩ := hso d T e2
        exact ⟨r, p, d, T, b, o, h, e2, h1, h2⟩
      · cases h
    · rename_i r p ty sn hv
      have e1 := erA_ref hv
      unfold look at h
      rw [slot_er, hv] at h
      simp only [slot_er] at h
      split at h
      · rename_i d t ht
        obtain ⟨T, e2, rfl⟩ := erA_val ht
        rw [e1] at hso
        obtain ⟨h1, h2, h3⟩ := hso d T e2
        have hm := g.mem r
        rw [e2] at hm
        obtain ⟨_, _, opq, u, h, hlk, hmu, hvk⟩ := getK_ok p false false T _ hm h1.bd h
        obtain ⟨u', h, hv', hmu'⟩ := lay_ok hmu h
        simp only [subK] at h
        split at h
        · rename_i ro hd y hu
          obtain ⟨hd', z, rfl, rfl⟩ := er_pt_inv hu
          obtain ⟨b, o, rfl, hp⟩ := hmu'.1.plc
          have hnode : Lk (get default false T p).2 (.pt ro (.pointer (some ⟨b, o, none⟩)) z) := hlk.trans hv'.lk
          refine ⟨r, p ++ [.d e], d, T, b, o, h, e2, ?_, ?_⟩
          · rw [addrS_app p none false T _ h1, ← hnode.addrS]
            exact hp
          · rw [show a.eval (.tmp s) = _ from h2, ← hnode.valOf]; rfl
        · cases h
      · cases h
    · cases h
  | const => cases h
  | global => cases h
  | func => cases h
theorem fitsTy_spec {ty : TypeId} {T : LT} (h : fitsTy P ty (er T) = true) : okTy P ty = true ∧ isSt T = isAggT P ty ∧ (cells T).length = P.cellsOf ty ∧ P.cellsOf ty ≠ 0 := by
  unfold fitsTy at h
  simp only [Bool.and_eq_true, beq_iff_eq, isSt_er, csz_er, bne_iff_ne] at h
  exact ⟨h.1.1.1, h.1.1.2, h.1.2, by rw [← h.1.2]; exact h.2⟩
theorem info_size {ty : TypeId} {n : Nat} (h : P.cellsOf ty = n) (hn : n ≠ 0) : ∃ i, P.info? ty = some i ∧ i.size = n := by
  unfold Program.cellsOf at h
  cases e : P.info? ty with
  | none => rw [e] at h; simp at h; omega
  | some i => rw [e] at h; exact ⟨i, rfl, by simpa using h⟩
theorem cells_pos : ∀ {T : LT}, isSt T = false → (cells T).length = 1
  | T, h => by rw [cells_one h]; rfl
/-- A value that lies there is loaded. -/
theorem run_loadT {ty : TypeId} {b o : Nat} {T : LT} (hr : w.rangeAt b o (cells T)) (hf : okTy P ty = true ∧ isSt T = isAggT P ty ∧ (cells T).length = P.cellsOf ty ∧ P.cellsOf ty ≠ 0) : (Instr.loadAt ty (.pointer (some ⟨b, o, none⟩))).run P w = .ok (valOf T) w := by
  obtain ⟨h1, h2, h3, h0⟩ := hf
  cases hu : P.underlying ty with
  | none => unfold okTy at h1; rw [hu] at h1; cases h1
  | some d =>
  cases hst : isSt T with
  | false =>
    rw [hst] at h2
    have hc : w.cell? ⟨b, o, none⟩ = some (valOf T) := by
      have := hr 0 (valOf T) (by rw [cells_one hst]; rfl)
      simpa using this
    have hagg : (Go.isAgg ty).run P w = .ok false w := by
      unfold Go.isAgg
      rw [Sem.run_bind, run_underlying hu w]
      unfold okTy at h1
      unfold isAggT at h2
      rw [hu] at h1 h2
      cases d <;> first | rfl | (cases h1; done) | (cases h2; done)
    have hl : (load ⟨b, o, none⟩ : Sem Value).run P w = .ok (valOf T) w := by
      simp [hc]
    simp only [Instr.loadAt, Instr.sureAddr, Sem.run_bind, Sem.run_pure, Result.andThen_ok, loadVar, hagg, Bool.false_eq_true, if_false, hl]
  | true =>
    rw [hst] at h2
    unfold isAggT at h2
    rw [hu] at h2
    cases d <;> first | (cases h2; done) | skip
    rename_i fs
    cases T <;> first | (cases hst; done) | skip
    rename_i xs
    obtain ⟨i, hi, hs⟩ := info_size rfl h0
    exact run_loadAt_mid w b o ty (cellsL xs) (.struct fs) hr hu rfl (by rw [hi, Option.map_some, hs]; exact congrArg some h3.symm)
end Go.Tree

/- Trees of values: what the evaluator says of an operation is so. Third part: the operations but for literals, append and calls. -/
namespace Go.Tree
set_option linter.unusedSectionVars false
set_option linter.unusedVariables false
set_option linter.unusedSimpArgs false
variable {P : Program} {w0 : World} {F : Fm} {nt : Nat} {H : List Value} {L : List (AV Value)} {XD : List Nat} {X : List LT} {a : Act} {w : World} {α : Type} {res : α}
variable [Pol]

mutual
theorem cells_one' : ∀ (T : LT), Mem w T → ∀ v ∈ cells T, v.oneCell' = true
  | .fl v, h, u, hu => by simp only [cells, List.mem_singleton] at hu; rw [hu]; exact h
  | .st xs, h, u, hu => cellsL_one' xs h u hu
  | .sl ro k hd xs, h, u, hu => by simp only [cells, List.mem_singleton] at hu; obtain ⟨⟨A, c, rfl, _⟩, _⟩ := h; rw [hu]; rfl
  | .pt ro hd x, h, u, hu => by simp only [cells, List.mem_singleton] at hu; obtain ⟨⟨b, o, rfl, _⟩, _⟩ := h; rw [hu]; rfl
  | .cl f xs, h, u, hu => by simp only [cells, List.mem_singleton] at hu; rw [hu]; rfl
  | .dead v, h, u, hu => by simp only [cells, List.mem_singleton] at hu; rw [hu]; exact h
theorem cellsL_one' : ∀ (Ts : List LT), MemL w Ts → ∀ v ∈ cellsL Ts, v.oneCell' = true
  | [], _, u, hu => by cases hu
  | x :: xs, h, u, hu => by
    rcases List.mem_append.1 hu with hu | hu
    · exact cells_one' x h.1 u hu
    · exact cellsL_one' xs h.2 u hu
end
theorem run_storeT {ty : TypeId} {b o : Nat} {U : LT} (hm : Mem w U) (ht : w.there b o (cells U).length) (hs : (cells U).length = P.cellsOf ty) (h0 : P.cellsOf ty ≠ 0) :
    (Instr.storeAt ty (.pointer (some ⟨b, o, none⟩)) (valOf U)).run P w = .ok () (w.setCells b o (cells U)) := by
  obtain ⟨i, hi, hsz⟩ := info_size rfl h0
  have hc := cells_toList hm
  have hcs : (valOf U).cells.size = i.size := by rw [hsz, ← hs, ← hc, Array.length_toList]
  have := run_storeCells_cells (P := P) b o (cells U) 0 w (fun j hj => by simpa using (ht j hj).1) (fun j hj => by simpa using (ht j hj).2) (cells_one' U hm)
  simp only [Nat.add_zero] at this
  simp [Instr.storeAt, Instr.sureAddr, storeVar, sizeOf, typeInfo, hi, hcs, hc, this]
theorem dpOf_er (D : List Nat) (T : LT) : (dpOf D (er T) = D) ∨ (dpOf D (er T) = [] ∧ all T = []) := by
  unfold dpOf
  cases h : noMem (er T) with
  | true => exact .inr ⟨rfl, noMem_all T h⟩
  | false => exact .inl rfl
theorem undepT {T : LT} {D : List Nat} (g : G P w0 F nt H L D [T] a w) : G P w0 F nt H L (dpOf D (er T)) [T] a w := by
  rcases dpOf_er D T with h | ⟨h, h2⟩
  · rw [h]; exact g
  · rw [h]
    exact g.undep fun j b hb => by
      simp only [shrL, (noall h2).2, List.append_nil] at hb
      cases hb
/-- The blocks that are there stay as they are. -/
def Ext (w w' : World) : Prop := w.heap.size ≤ w'.heap.size ∧ ∀ k, k < w.heap.size → w'.heap[k]? = w.heap[k]?
theorem Ext.refl (w : World) : Ext w w := ⟨Nat.le_refl _, fun _ _ => rfl⟩
theorem Ext.trans {w w' w'' : World} (h : Ext w w') (h' : Ext w' w'') : Ext w w'' := ⟨Nat.le_trans h.1 h'.1, fun k hk => (h'.2 k (Nat.lt_of_lt_of_le hk h.1)).trans (h.2 k hk)⟩
theorem Ext.range {w w' : World} (h : Ext w w') {b o : Nat} {cs : List Value} (hr : w.rangeAt b o cs) : w'.rangeAt b o cs := fun j v hj => by
  have h1 := hr j v hj
  have hlt : b < w.heap.size := by
    rcases Nat.lt_or_ge b w.heap.size with h' | h'
    · exact h'
    · unfold World.cell? at h1
      simp [Array.getElem?_eq_none h'] at h1
  unfold World.cell? at h1 ⊢
  simp only [h.2 b hlt]
  exact h1
/-- A part is loaded. -/
theorem loadE_ok (g : G P w0 F nt H L [] [] a w) {ty : TypeId} {d : Option Tmp} (hd : fitD nt d = true) {r : Nat} {p : List Stp} {deps : List Nat} {T : LT} {b o : Nat} (hr : slot L r = .val deps T) (ha : addrS P none T p = some (b, o)) {K : Env → Option α}
    (h : loadE P ty (L.map erA) d r p K = some res) : ∃ v, (∀ w', Ext w w' → (Instr.loadAt ty (.pointer (some ⟨b, o, none⟩))).run P w' = .ok v w') ∧ Nxt P w0 F nt H K res (a.put d v) w := by
  have hm := g.mem r
  rw [hr] at hm
  unfold loadE at h
  rw [slot_er, hr] at h
  simp only [erA] at h
  obtain ⟨hv, had, opq, u, h, hlk, hmu, hvk⟩ := getK_ok p false false T _ hm (addrS_bd ha) h
  have hrange := range_get p false none T hm hv (fun q h => by cases h) (by rw [had]; exact ha)
  have key : ∀ U : LT, Vk (get default false T p).1 u U → Mem w U → fitsTy P ty (er U) = true → (∀ w', Ext w w' → (Instr.loadAt ty (.pointer (some ⟨b, o, none⟩))).run P w' = .ok (valOf U) w') ∧ valOf U = valOf (get default false T p).2 := by
    intro U hvU hmU hf
    have e : Lk (get default false T p).2 U := hlk.trans hvU.lk
    refine ⟨fun w' hw => run_loadT (by rw [e.cells]; exact hw.range hrange) (fitsTy_spec hf), e.valOf⟩
  have copy : ∀ U : LT, Vk (get default false T p).1 u U → Mem w U → own U = [] → fitsTy P ty (er U) = true → K (putD (L.map erA) d (.val (dpOf deps (er U)) (er U))) = some res → ∃ v, (∀ w', Ext w w' → (Instr.loadAt ty (.pointer (some ⟨b, o, none⟩))).run P w' = .ok v w') ∧ Nxt P w0 F nt H K res (a.put d v) w := by
    intro U hvU hmU hoU hf h
    obtain ⟨h1, h2⟩ := key U hvU hmU hf
    have hsh : ∀ k ∈ shr U, k ∈ shr T := fun k hk => by
      cases hro : (get default false T p).1 with
      | true =>
        rw [hro] at hvU
        rw [hvU.rd.2, hlk.all] at hk
        exact shr_get p T hv hro k hk
      | false =>
        rw [hro] at hvU
        rw [hvU.wr.2, (hvk hro).wr.2] at hk
        obtain ⟨_, ⟨l, rr, h3, _⟩⟩ := own_get p T hv hro
        rw [h3]; simp [hk]
    have g1 := g.addRo (T := U) (D := deps) hmU hoU (fun j k hk hj => by
      have := g.dj.sh r j k (by rw [hr]; exact hsh k hk) hj
      rwa [hr] at this) (fun k _ => by simp [ownL]) (fun k hk => g.sees r k (by rw [hr]; exact hsh k hk))
    exact ⟨_, h1, landT (T := U) (undepT g1) hd rfl h⟩
  cases hb : (!(get default false T p).1 && ownTy P fuelT ty) with
  | true =>
    rw [hb] at h
    simp only [Bool.and_eq_true, Bool.not_eq_true'] at hb
    obtain ⟨U, h, hvU, hmU⟩ := lay_ok hmu h
    cases ho : hasOwn (er U) with
    | true =>
      rw [ho] at h
      cases hf : fitsTy P ty (er U) with
      | false => rw [hf] at h; cases h
      | true =>
        rw [hf] at h
        obtain ⟨h1, h2⟩ := key U hvU hmU hf
        refine ⟨_, h1, landRef g hd (av := .ref r p none ty (isSt U)) ⟨rfl, rfl, rfl, fun _ => trivial, fun _ _ => by simp⟩ (fun L' d' hdd hk hnv deps' t' ht' => ?_) (by rw [isSt_er] at h; exact h)⟩
        by_cases c : r = d'
        · subst c; exact absurd ht' (hnv _ _)
        · have := hk r deps' t' ht' c
          rw [hr] at this
          cases this
          exact ⟨hv, h2, fun h0 => by rw [← (hlk.trans hvU.lk).isSt]; exact h0⟩
    | false =>
      rw [ho] at h
      cases hf : fitsTy P ty (er U) with
      | false => rw [hf] at h; cases h
      | true =>
        rw [hf] at h
        rw [hasOwn_er] at ho
        exact copy U hvU hmU (own_nil U ho) hf h
  | false =>
    rw [hb] at h
    obtain ⟨U, h, hvU, hmU⟩ := view_ok _ hmu h
    cases hf : (fitsTy P ty (er U) && !hasOwn (er U)) with
    | false => rw [hf] at h; cases h
    | true =>
      rw [hf] at h
      simp only [Bool.and_eq_true, Bool.not_eq_true', hasOwn_er] at hf
      exact copy U hvU hmU (own_nil U hf.2) hf.1 h
/-- The slots that are read when an operand is taken. -/
theorem rootOf_spec {x : Operand} {s : Nat} (hx : x = .tmp s) {D : List Nat} (h : D.any (rootOf (L.map erA) x) = false) : rootS L s ∉ D := by
  subst hx
  intro hm
  have := List.any_eq_false.1 h (rootS L s) hm
  simp only [rootOf, slot_er] at this
  unfold rootS at this
  cases e : slot L s <;> simp [e, erA] at this
theorem killW_map_er (L : List (AV Value)) (r : Nat) (p : List Stp) (d : List Nat) (T : LT) : ((L.map erA).map (killW r p)).set r (.val d (er T)) = ((L.map (killW r p)).set r (.val d T)).map erA := by
  rw [map_er L (killW r p) (killW_er r p), List.map_set]
  rfl
/-- A part is stored. -/
theorem storeE_ok (g : G P w0 F nt H L [] [] a w) {ty : TypeId} {p x : Operand} (hp : fitO nt p = true) (hx : fitO nt x = true) {K : Env → Option α} (h : storeE P ty (L.map erA) p x K = some res) :
    ∃ w' L', (Instr.storeAt ty (a.eval p) (a.eval x)).run P w = .ok () w' ∧ G P w0 F nt H L' [] [] a w' ∧ K (L'.map erA) = some res := by
  obtain ⟨D, U, L1, h, g1, hv⟩ := takeO_ok g hx (fun s hs => by simp) h
  simp only [List.nil_append] at g1
  obtain ⟨r, q, deps, T, b, o, h, hr, ha, hpv⟩ := place_ok g1 hp h
  rw [slot_er, hr] at h
  simp only [erA] at h
  cases hb : (D.contains r || !fitsTy P ty (er U)) with
  | true => rw [hb] at h; cases h
  | false =>
    rw [hb] at h
    simp only [Bool.or_eq_false_iff, Bool.not_eq_false'] at hb
    have hf := fitsTy_spec hb.2
    have hrD : r ∉ D := by simpa using hb.1
    have hm := g1.mem r
    rw [hr] at hm
    obtain ⟨T2, T', h, h2, h3, h4, h5, h6, h7, h8, h9⟩ := putK_ok U q false T _ hm (addrS_bd ha) (fun h => by cases h) h
    have g2 := undepT g1
    have hrD' : r ∉ dpOf D (er U) := by
      rcases dpOf_er D U with h' | ⟨h', _⟩
      · rw [h']; exact hrD
      · rw [h']; simp
    obtain ⟨hth, g3⟩ := store_core g2 hr hrD' h2 h3 h4 h5 h7 h9 (by rw [h8, h2.lk.addrS]; exact ha) h6
    refine ⟨_, _, ?_, g3, ?_⟩
    · rw [hpv, hv]
      exact run_storeT g1.memX.1 hth hf.2.2.1 hf.2.2.2
    · rw [← killW_map_er]; exact h
/-- A slot of which nothing is known. -/
theorem landU {d : Option Tmp} (g : G P w0 F nt H L [] [] a w) (hd : fitD nt d = true) (v : Value) {K : Env → Option α} (h : K (putD (L.map erA) d .un) = some res) : Nxt P w0 F nt H K res (a.put d v) w :=
  landRef g hd (av := .un) ⟨rfl, rfl, rfl, fun _ => trivial, fun _ _ => by simp⟩ (fun _ _ _ _ _ => trivial) h
/-- A flat value. -/
theorem landV {d : Option Tmp} (g : G P w0 F nt H L [] [] a w) (hd : fitD nt d = true) {v : Value} (hv : v.oneCell' = true) {K : Env → Option α} (h : K (putD (L.map erA) d (.val [] (.fl v))) = some res) : Nxt P w0 F nt H K res (a.put d v) w :=
  landT (T := .fl v) (D := []) (g.addRo (T := .fl v) (D := []) hv rfl (fun _ _ hb => by cases hb) (fun _ hb => by cases hb) (fun _ hb => by cases hb)) hd rfl h
/-- Where a slice's elements lie. -/
theorem row_ok (g : G P w0 F nt H L XD X a w) {e : TypeId} {x : Operand} (hx : fitO nt x = true) {K : Nat → List Stp → Nat → Nat → Option α} (h : row P (L.map erA) e x K = some res) :
    P.cellsOf e ≠ 0 ∧ ∃ r p lo n deps T A c, K r p lo n = some res ∧ slot L r = .val deps T ∧ Valid T p ∧ a.eval x = .slice A n c ∧ n ≤ c ∧
      ∃ ro hd xs, Lk (get default false T p).2 (.sl ro (ekOf P e) hd xs) ∧ lo + n ≤ xs.length ∧ (n ≠ 0 → ∃ b o, A = some ⟨b, o, none⟩ ∧ (plc hd).map (fun q => (q.1, q.2 + lo * P.cellsOf e)) = some (b, o)) := by
  unfold row at h
  cases h0 : decide (P.cellsOf e = 0) with
  | true => rw [h0] at h; cases h
  | false =>
    rw [h0] at h
    refine ⟨of_decide_eq_false h0, ?_⟩
    have slk : ∀ {ro : Bool} {hd : Value} {xs : List LT} {w : World}, Mem w (.sl ro (ekOf P e) hd xs) → ∃ A c, hd = .slice A xs.length c ∧ xs.length ≤ c ∧ (xs.length ≠ 0 → ∃ b o, A = some ⟨b, o, none⟩ ∧ plc hd = some (b, o)) := by
      intro ro hd xs w hm
      obtain ⟨⟨A, c, rfl, hc, _, hx⟩, _⟩ := hm
      refine ⟨A, c, rfl, hc, fun hn => ?_⟩
      obtain ⟨b, o, rfl, _⟩ := hx (by omega)
      exact ⟨b, o, rfl, by simp [plc, show c ≠ 0 by omega]⟩
    cases x with
    | tmp s =>
      have hs : s < nt := by simpa [fitO] using hx
      have hso := g.slots s hs
      simp only [cond_false, slot_er] at h
      split at h
      · rename_i d t hv
        obtain ⟨T, e1, rfl⟩ := erA_val hv
        have hm := g.mem s
        rw [e1] at hso hm
        obtain ⟨r', hd, xs, e', h⟩ := mSl_some h
        obtain ⟨hd, ys, rfl, rfl⟩ := er_sl_inv e'
        obtain ⟨A, c, h1, h2, h3⟩ := slk hm
        refine ⟨s, [], 0, ys.length, d, _, A, c, by simpa using h, e1, trivial, ?_, h2, r', hd, ys, Lk.refl _, by omega, fun hn => ?_⟩
        · rw [eval_tmp, hso]; exact h1
        · obtain ⟨b, o, h4, h5⟩ := h3 hn
          exact ⟨b, o, h4, by rw [h5]; simp⟩
      · rename_i r p sub ty sn hv
        have e1 := erA_ref hv
        rw [e1] at hso
        split at h
        · rename_i d t hv'
          obtain ⟨T, e2, rfl⟩ := erA_val hv'
          obtain ⟨h1, h2, h3⟩ := hso d T e2
          have hm := g.mem r
          rw [e2] at hm
          obtain ⟨_, _, opq, u, h, hlk, hmu, hvk⟩ := getK_ok p false false T _ hm h1.bd h
          obtain ⟨r', hd, xs, e', h⟩ := mSl_some h
          obtain ⟨hd, ys, rfl, rfl⟩ := er_sl_inv e'
          obtain ⟨A, c, h4, h5, h6⟩ := slk hmu
          have hvo : valOf (get default false T p).2 = hd := (hlk.valOf).symm
          rw [hvo] at h2
          cases sub with
          | none =>
            refine ⟨r, p, 0, ys.length, d, T, A, c, by simpa using h, e2, h1, ?_, h5, r', hd, ys, hlk, by omega, fun hn => ?_⟩
            · rw [eval_tmp, show _ = hd from h2]; exact h4
            · obtain ⟨b, o, h7, h8⟩ := h6 hn
              exact ⟨b, o, h7, by rw [h8]; simp⟩
          | some q =>
            obtain ⟨lo, n⟩ := q
            obtain ⟨A2, len, c2, k, A', k1, k2, k3, k4, k5⟩ := h2
            rw [h4] at k1
            simp only [Value.slice.injEq] at k1
            obtain ⟨rfl, rfl, rfl⟩ := k1
            simp only at h
            cases hb : (elemSz P ty == some (ekOf P e)) with
            | false => rw [hb] at h; cases h
            | true =>
              rw [hb] at h
              have hk : k = ekOf P e := by
                have := eq_of_beq hb
                rw [k3] at this
                exact Option.some.inj this
              refine ⟨r, p, lo, n, d, T, A', c - lo, h, e2, h1, ?_, by omega, r', hd, ys, hlk, by omega, fun hn => ?_⟩
              · rw [eval_tmp]; exact k4
              · obtain ⟨b, o, h7, h8⟩ := h6 (by omega)
                refine ⟨b, o + lo * P.cellsOf e, ?_, by rw [h8]; rfl⟩
                rw [k5 (by omega), h7, hk]
                simp [Addr.add_mid, ekOf]
        · cases h
      · cases h
    | const => cases h
    | global => cases h
    | func => cases h
end Go.Tree

/- Trees of values: what the evaluator says of an operation is so. Fourth part: flat operations, addresses. -/
namespace Go.Tree
set_option linter.unusedSectionVars false
set_option linter.unusedVariables false
set_option linter.unusedSimpArgs false
variable {P : Program} {w0 : World} {F : Fm} {nt : Nat} {H : List Value} {L : List (AV Value)} {XD : List Nat} {X : List LT} {a : Act} {w : World} {α : Type} {res : α}
variable [Pol]

theorem pureOf_ok {β : Type} : ∀ (s : Sem β) (v : β), pureOf P s = some v → s.run P w = .ok v w
  | .pure a, v, h => by simp only [pureOf, Option.some.injEq] at h; rw [h]; rfl
  | .program k, v, h => by simp only [pureOf] at h; exact pureOf_ok (k P) v h
  | .load .., _, h => by cases h
  | .store .., _, h => by cases h
  | .new .., _, h => by cases h
  | .shape .., _, h => by cases h
  | .freeze .., _, h => by cases h
  | .frozen .., _, h => by cases h
  | .getObj .., _, h => by cases h
  | .setObj .., _, h => by cases h
  | .choose .., _, h => by cases h
  | .sys .., _, h => by cases h
  | .mark .., _, h => by cases h
  | .halt .., _, h => by cases h
theorem oneB_eq (v : Value) : oneB v = v.oneCell' := by cases v <;> rfl
theorem pureV_ok {s : Sem Value} {K : Value → Option α} (h : pureV P s K = some res) : ∃ v, (∀ w, s.run P w = .ok v w) ∧ v.oneCell' = true ∧ K v = some res := by
  unfold pureV at h
  split at h
  · rename_i v hv
    cases hb : oneB v with
    | false => rw [hb] at h; cases h
    | true => rw [hb] at h; exact ⟨v, fun w => pureOf_ok s v hv, by rw [← oneB_eq]; exact hb, h⟩
  · cases h
theorem eqGuard_plain {op : BinOp} {t : TypeId} {x y : Operand} {u v : Value} (h : ∀ (us vs : Array Value), u = .agg us → v = .agg vs → False) (h2 : u = .nilIface → v = .nilIface → False) : (eqGuard op t x y u v).run P w = .ok () w := by
  unfold eqGuard
  by_cases hop : (op matches .eql | .neq) = true
  · cases u <;> cases v <;> simp_all
  · simp [hop]
theorem binF_ok {op : BinOp} {t : TypeId} {x y : Operand} {u v : Value} {K : Value → Option α} (h : binF P op t x y u v K = some res) :
    ∃ z, (∀ w, (do eqGuard op t x y u v; binOp op t u v : Sem Value).run P w = .ok z w) ∧ z.oneCell' = true ∧ K z = some res := by
  unfold binF at h
  split at h
  · rename_i s s'
    cases hb : decide (s.size + s'.size < 140737488355328) with
    | false => rw [hb] at h; cases h
    | true =>
      rw [hb] at h
      have hb := of_decide_eq_true hb
      refine ⟨_, fun w => ?_, rfl, h⟩
      rw [Sem.run_bind, eqGuard_plain (fun _ _ h => by cases h) (fun h => by cases h)]
      have : ¬ (((s.size + s'.size : Nat) : Int) > IntKind.i64.max) := by
        have : (IntKind.i64.max : Int) = 9223372036854775807 := rfl
        omega
      simp only [Result.andThen_ok, binOp, Op.stringOp, if_neg this]
      rfl
  · rename_i k m k' n
    cases hb : (decide (k = k') && !decide (n = 0)) with
    | false => rw [hb] at h; cases h
    | true =>
      rw [hb] at h
      simp only [Bool.and_eq_true, decide_eq_true_eq, Bool.not_eq_true', decide_eq_false_iff_not] at hb
      obtain ⟨rfl, hn⟩ := hb
      refine ⟨_, fun w => ?_, rfl, h⟩
      rw [Sem.run_bind, eqGuard_plain (fun _ _ h => by cases h) (fun h => by cases h)]
      simp only [Result.andThen_ok, binOp, Op.intDiv, if_neg hn, ne_eq, not_true_eq_false, if_false]
      rfl
  · rename_i k m k' n
    cases hb : (decide (k = k') && !decide (n = 0)) with
    | false => rw [hb] at h; cases h
    | true =>
      rw [hb] at h
      simp only [Bool.and_eq_true, decide_eq_true_eq, Bool.not_eq_true', decide_eq_false_iff_not] at hb
      obtain ⟨rfl, hn⟩ := hb
      refine ⟨_, fun w => ?_, rfl, h⟩
      rw [Sem.run_bind, eqGuard_plain (fun _ _ h => by cases h) (fun h => by cases h)]
      simp only [Result.andThen_ok, binOp, Op.intDiv, if_neg hn, ne_eq, not_true_eq_false, if_false]
      rfl
  · rename_i k m k' n
    cases hb : (!decide (n < 0)) with
    | false => rw [hb] at h; cases h
    | true =>
      rw [hb] at h
      simp only [Bool.not_eq_true', decide_eq_false_iff_not] at hb
      refine ⟨_, fun w => ?_, rfl, h⟩
      rw [Sem.run_bind, eqGuard_plain (fun _ _ h => by cases h) (fun h => by cases h)]
      simp only [Result.andThen_ok, binOp, Op.shift, if_neg hb]
      rfl
  · rename_i k m k' n
    cases hb : (!decide (n < 0)) with
    | false => rw [hb] at h; cases h
    | true =>
      rw [hb] at h
      simp only [Bool.not_eq_true', decide_eq_false_iff_not] at hb
      refine ⟨_, fun w => ?_, rfl, h⟩
      rw [Sem.run_bind, eqGuard_plain (fun _ _ h => by cases h) (fun h => by cases h)]
      simp only [Result.andThen_ok, binOp, Op.shift, if_neg hb]
      rfl
  · obtain ⟨z, h1, h2, h3⟩ := pureV_ok h
    exact ⟨z, h1, h2, h3⟩
theorem run_equalIn_ptr_nil (w : World) (d : Nat) (t e : TypeId) (a : Option Addr) (h : P.underlying t = some (.pointer e)) : (Op.equalIn (d + 1) t (.pointer a) (.pointer none)).run P w = .ok a.isNone w := by
  cases a <;> simp [Op.equalIn, run_underlying h]
theorem run_equal_ptr_nil (w : World) (t e : TypeId) (a : Option Addr) (h : P.underlying t = some (.pointer e)) : (Op.equal t (.pointer a) (.pointer none)).run P w = .ok a.isNone w := run_equalIn_ptr_nil w 9999 t e a h
theorem run_eql_ptr_nil (w : World) (t e : TypeId) (a : Option Addr) (h : P.underlying t = some (.pointer e)) : (binOp .eql t (.pointer a) (.pointer none)).run P w = .ok (.bool a.isNone) w := by
  simp only [binOp]
  simp [run_equal_ptr_nil w t e a h]
theorem run_neq_ptr_nil (w : World) (t e : TypeId) (a : Option Addr) (h : P.underlying t = some (.pointer e)) : (binOp .neq t (.pointer a) (.pointer none)).run P w = .ok (.bool (!a.isNone)) w := by
  simp only [binOp]
  simp [run_equal_ptr_nil w t e a h]
theorem amb_spec {xs : List (Option α)} {r : α} (h : amb xs = some r) : ∀ x ∈ xs, x = some r := by
  unfold amb at h
  split at h
  · cases h
  · intro x hx; rw [List.mem_singleton.1 hx]; exact h
  · rename_i x xs _
    classical
    split at h
    · rename_i hall
      intro y hy
      rcases List.mem_cons.1 hy with hy | hy
      · rw [hy]; exact h
      · rw [hall y hy]; exact h
    · cases h
theorem run_equalIn_sl_nil (w : World) (d : Nat) (t e : TypeId) (A : Option Addr) (n c : Nat) (h : P.underlying t = some (.slice e)) : (Op.equalIn (d + 1) t (.slice A n c) (.slice none 0 0)).run P w = .ok A.isNone w := by
  cases A <;> simp [Op.equalIn, run_underlying h]
theorem run_equal_sl_nil (w : World) (t e : TypeId) (A : Option Addr) (n c : Nat) (h : P.underlying t = some (.slice e)) : (Op.equal t (.slice A n c) (.slice none 0 0)).run P w = .ok A.isNone w := run_equalIn_sl_nil w 9999 t e A n c h
theorem run_eql_sl_nil (w : World) (t e : TypeId) (A : Option Addr) (n c : Nat) (hu : P.underlying t = some (.slice e)) : (binOp .eql t (.slice A n c) (.slice none 0 0)).run P w = .ok (.bool A.isNone) w := by
  simp only [binOp]
  simp [run_equal_sl_nil w t e A n c hu]
theorem run_neq_sl_nil (w : World) (t e : TypeId) (A : Option Addr) (n c : Nat) (hu : P.underlying t = some (.slice e)) : (binOp .neq t (.slice A n c) (.slice none 0 0)).run P w = .ok (.bool (!A.isNone)) w := by
  simp only [binOp]
  simp [run_equal_sl_nil w t e A n c hu]
/-- A pointer or a slice is compared with nil. -/
theorem nilAsk_ok (g : G P w0 F nt H L XD X a w) {t : TypeId} {x y : Operand} (hx : fitO nt x = true) {K : Bool → Option α} (h : nilAsk P (L.map erA) t x y K = some res) :
    ∃ b, K b = some res ∧ (∀ w, (binOp .eql t (a.eval x) (a.eval y)).run P w = .ok (.bool b) w) ∧ (∀ w, (binOp .neq t (a.eval x) (a.eval y)).run P w = .ok (.bool (!b)) w) ∧ ∀ op w, (eqGuard op t x y (a.eval x) (a.eval y)).run P w = .ok () w := by
  unfold nilAsk at h
  split at h
  · rename_i e s hu
    obtain ⟨D, T, h, hm, hv, _⟩ := look_ok g (by simpa [fitO] using hx) h
    have hy : a.eval (.const (.pointer none)) = .pointer none := rfl
    rw [eval_tmp, hv, hy]
    split at h
    · rename_i ro hd z hT
      obtain ⟨hd', z', rfl, rfl⟩ := er_pt_inv hT
      obtain ⟨b, o, rfl, _⟩ := hm.1.plc
      refine ⟨false, h, fun w => ?_, fun w => ?_, fun op w => eqGuard_plain (fun _ _ h => by cases h) (fun h => by cases h)⟩
      · exact run_eql_ptr_nil w t e _ hu
      · exact run_neq_ptr_nil w t e _ hu
    · rename_i hT
      have := er_fl_inv hT
      subst this
      refine ⟨true, h, fun w => ?_, fun w => ?_, fun op w => eqGuard_plain (fun _ _ h => by cases h) (fun h => by cases h)⟩
      · exact run_eql_ptr_nil w t e _ hu
      · exact run_neq_ptr_nil w t e _ hu
    · cases h
  · rename_i e s hu
    obtain ⟨D, T, h, hm, hv, _⟩ := look_ok g (by simpa [fitO] using hx) h
    have hy : a.eval (.const (.slice none 0 0)) = .slice none 0 0 := rfl
    rw [eval_tmp, hv, hy]
    split at h
    · rename_i ro k hd hT
      obtain ⟨hd', xs, rfl, hxs⟩ := er_sl_inv hT
      obtain ⟨A, c, rfl, _⟩ := hm.1
      have hall := amb_spec h
      refine ⟨A.isNone, ?_, fun w => run_eql_sl_nil w t e A _ c hu, fun w => run_neq_sl_nil w t e A _ c hu, fun op w => eqGuard_plain (fun _ _ h => by cases h) (fun h => by cases h)⟩
      cases A with
      | none => exact hall _ (by simp)
      | some _ => exact hall _ (by simp)
    · rename_i ro k hd y ys hT
      obtain ⟨hd', xs, rfl, hxs⟩ := er_sl_inv hT
      obtain ⟨⟨A, c, rfl, hc, hl, hx'⟩, _⟩ := hm
      have hne : xs ≠ [] := fun h0 => by subst h0; cases hxs
      have hc0 : c ≠ 0 := fun h0 => hne (List.length_eq_zero_iff.1 (by omega))
      obtain ⟨b, o, rfl, _⟩ := hx' hc0
      exact ⟨false, h, fun w => run_eql_sl_nil w t e _ _ c hu, fun w => run_neq_sl_nil w t e _ _ c hu, fun op w => eqGuard_plain (fun _ _ h => by cases h) (fun h => by cases h)⟩
    · cases h
  · cases h
/-- A field's address. -/
theorem run_fieldAt {s : TypeId} {f : Nat} {off b o : Nat} (h : offs P s f = some off) : (Instr.fieldAt s (.pointer (some ⟨b, o, none⟩)) f).run P w = .ok (.pointer (some ⟨b, o + off, none⟩)) w := by
  unfold offs at h
  split at h
  · rename_i fs hu
    obtain ⟨fd, hf, h⟩ := Option.bind_eq_some_iff.1 h
    split at h
    · cases h
    · rename_i hc
      cases h
      obtain ⟨i, hi, hs⟩ := info_size (n := P.cellsOf fd.type) rfl hc
      have hs' : ¬ i.size = 0 := by rw [hs]; exact hc
      simp [Instr.fieldAt, run_underlying hu, hf, Instr.sureAddr, fieldPlace, sizeOf, typeInfo, hi, hs', Addr.add_mid]
  · cases h
/-- An element's address. -/
theorem run_indexAt {t e : TypeId} {k : IntKind} {i : Int} {n c b o : Nat} (hu : P.underlying t = some (.slice e)) (h0 : 0 ≤ i) (hi : i < n) (hc : P.cellsOf e ≠ 0) :
    (Instr.indexAt t (.slice (some ⟨b, o, none⟩) n c) (.int k i)).run P w = .ok (.pointer (some ⟨b, o + i.toNat * P.cellsOf e, none⟩)) w := by
  obtain ⟨inf, hin, hs⟩ := info_size (n := P.cellsOf e) rfl hc
  simp [Instr.indexAt, asIntOf, run_underlying hu, h0, hi, sizeOf, typeInfo, hin, hs, Addr.add_mid]
/-- A new block for a tree. -/
theorem boxed {T : LT} {D : List Nat} (g : G P w0 F nt H L D [T] a w) (e : TypeId) :
    G P w0 F nt H L D [.pt false (.pointer (some ⟨w.heap.size, 0, none⟩)) T] a (w.alloc (.cells (cells T).toArray e)) := by
  have hlt : ∀ b ∈ all T, b < w.heap.size := fun b hb => all_lt T g.memX.1 hb
  have hmT : Mem (w.alloc (.cells (cells T).toArray e)) T := Mem.congr T (fun b hb => Go.RowKit.Below.heap_alloc _ _ _ (hlt b hb)) g.memX.1
  refine g.flight (X' := [_]) ⟨⟨⟨w.heap.size, 0, rfl, by simp, fun j v hj => ?_, fun _ j hj => ?_⟩, hmT⟩, trivial⟩ ?_ (fun b hb => ?_) (fun b hb => ?_) (fun b hb hb' => ?_) (fun k hk _ => Go.RowKit.Below.heap_alloc _ _ _ hk) (by simp) rfl rfl rfl
  · rw [Nat.zero_add, World.cell?_alloc_new]
    simpa using hj
  · rw [Nat.zero_add, World.cell?_alloc_new, World.frozen?_alloc_new]
    exact ⟨by simp [hj], rfl⟩
  · have := g.dj.xn
    simp only [ownL, own, Bool.false_eq_true, if_false, blk, plc, List.append_nil] at this ⊢
    refine List.nodup_append.2 ⟨by simp, this, fun x hx y hy hxy => ?_⟩
    simp only [List.mem_singleton] at hx
    subst hxy hx
    have := hlt _ (own_all T hy); omega
  · simp only [ownL, own, Bool.false_eq_true, if_false, blk, plc, List.append_nil, List.mem_append, List.mem_singleton] at hb ⊢
    rcases hb with hb | hb
    · right; omega
    · exact .inl hb
  · simp only [shrL, shr, Bool.false_eq_true, if_false, List.append_nil] at hb ⊢
    exact .inl hb
  · simp only [ownL, shrL, own, shr, Bool.false_eq_true, if_false, blk, plc, List.append_nil, List.mem_append, List.mem_singleton] at hb hb'
    rcases hb' with hb' | hb'
    · have := hlt _ (shr_all T hb); omega
    · exact g.dj.xx b (by simpa [shrL] using hb) (by simpa [ownL] using hb')
end Go.Tree

/- Trees of values: what the evaluator says of an operation is so. Fifth part: rows. -/
namespace Go.Tree
set_option linter.unusedSectionVars false
set_option linter.unusedVariables false
set_option linter.unusedSimpArgs false
variable {P : Program} {w0 : World} {F : Fm} {nt : Nat} {H : List Value} {L : List (AV Value)} {XD : List Nat} {X : List LT} {a : Act} {w : World} {α : Type} {res : α}
variable [Pol]

/-- What has been taken out, taken apart. -/
theorem G.swap (g : G P w0 F nt H L XD X a w) {Ts : List LT} (hm : MemL w Ts) (hnd : (ownL Ts).Nodup) (ho : ∀ b ∈ ownL Ts, b ∈ ownL X) (hs : ∀ b ∈ shrL Ts, b ∈ shrL X) : G P w0 F nt H L XD Ts a w :=
  g.flight hm hnd (fun b hb => .inl (ho b hb)) (fun b hb => .inl (hs b hb)) (fun b hb hb' => g.dj.xx b (hs b hb) (ho b hb')) (fun _ _ _ => rfl) (Nat.le_refl _) rfl rfl rfl
theorem blk_row (b o n c : Nat) : blk (.slice (some ⟨b, o, none⟩) n c) = if c = 0 then [] else [b] := by
  by_cases h : c = 0 <;> simp [blk, plc, h]
/-- A new row for the trees that have been taken out. -/
theorem rowed {Ts : List LT} {D : List Nat} (g : G P w0 F nt H L D Ts a w) {k : Ek} {c : Nat} {rest : List Value} {e : TypeId} {w1 : World} (h1 : w1.heap = w.heap) (h2 : w1.os = w.os) (h3 : w1.tape = w.tape) (h4 : w1.output = w.output)
    (hk : ∀ x ∈ Ts, (cells x).length = k.n ∧ (k.m = false → all x = [])) (hc : Ts.length ≤ c) (hl : (cellsL Ts ++ rest).length = c * k.n) :
    G P w0 F nt H L D [.sl false k (.slice (some ⟨w1.heap.size, 0, none⟩) Ts.length c) Ts] a (w1.alloc (.cells (cellsL Ts ++ rest).toArray e)) := by
  have hlt : ∀ b ∈ allL Ts, b < w.heap.size := fun b hb => all_ltL Ts g.memX hb
  have hheap : ∀ k, k < w.heap.size → (w1.alloc (.cells (cellsL Ts ++ rest).toArray e)).heap[k]? = w.heap[k]? := fun k hk => by
    rw [← h1] at hk
    rw [Go.RowKit.Below.heap_alloc _ _ _ hk, h1]
  have hmT : MemL (w1.alloc (.cells (cellsL Ts ++ rest).toArray e)) Ts := MemL.congr Ts (fun b hb => hheap b (hlt b hb)) g.memX
  have hsz : w1.heap.size = w.heap.size := by rw [h1]
  refine g.flight (X' := [_]) ⟨⟨⟨_, c, rfl, hc, cellsL_len fun x hx => (hk x hx).1, fun _ => ⟨w1.heap.size, 0, rfl, by simp, fun j v hj => ?_, fun _ j hj => ?_⟩⟩, hk, hmT⟩, trivial⟩ ?_ (fun b hb => ?_) (fun b hb => ?_) (fun b hb hb' => ?_) (fun k hk _ => hheap k hk) (by simp [h1]) h2 h3 h4
  · rw [Nat.zero_add, World.cell?_alloc_new]
    have hj' : j < (cellsL Ts).length := by
      rcases Nat.lt_or_ge j (cellsL Ts).length with h | h
      · exact h
      · rw [List.getElem?_eq_none h] at hj; cases hj
    simpa [List.getElem?_append_left hj'] using hj
  · rw [Nat.zero_add, World.cell?_alloc_new, World.frozen?_alloc_new]
    refine ⟨?_, rfl⟩
    rw [← hl] at hj
    have : j < (cellsL Ts ++ rest).toArray.size := by simpa using hj
    simp [Array.getElem?_eq_getElem this]
  · simp only [ownL, own, Bool.false_eq_true, if_false, List.append_nil, blk_row]
    by_cases hc0 : c = 0
    · simpa [hc0] using g.dj.xn
    · simp only [hc0, if_false, List.singleton_append, List.nodup_cons]
      refine ⟨fun hb => ?_, g.dj.xn⟩
      have := hlt _ (own_allL Ts hb)
      omega
  · simp only [ownL, own, Bool.false_eq_true, if_false, List.append_nil, List.mem_append, blk_row] at hb
    rcases hb with hb | hb
    · right
      by_cases hc0 : c = 0
      · simp [hc0] at hb
      · simp [hc0] at hb; omega
    · exact .inl hb
  · simp only [shrL, shr, Bool.false_eq_true, if_false, List.append_nil] at hb
    exact .inl hb
  · simp only [shrL, shr, ownL, own, Bool.false_eq_true, if_false, List.append_nil, List.mem_append, blk_row] at hb hb'
    rcases hb' with hb' | hb'
    · by_cases hc0 : c = 0
      · simp [hc0] at hb'
      · simp [hc0] at hb'
        have := hlt _ (shr_allL Ts hb)
        omega
    · exact g.dj.xx b hb hb'
theorem rangeAt_there {b o : Nat} {vs : List Value} (h : w.there b o vs.length) : (w.setCells b o vs).rangeAt b o vs := by
  refine rangeAt_setCells_in (cs := (List.range vs.length).map fun j => (w.cell? ⟨b, o + j, none⟩).getD undef) (fun j v hj => ?_) (by simp)
  simp only [List.getElem?_map, Option.map_eq_some_iff] at hj
  obtain ⟨i, hi, rfl⟩ := hj
  obtain ⟨hlt, rfl⟩ := List.getElem?_eq_some_iff.1 hi
  simp only [List.length_range] at hlt
  simp only [List.getElem_range]
  have := (h j hlt).1
  cases e : w.cell? ⟨b, o + j, none⟩ with
  | none => rw [e] at this; cases this
  | some v => rfl
theorem setCells_os' (b : Nat) : ∀ (vs : List Value) (o : Nat) (w : World), (w.setCells b o vs).os = w.os ∧ (w.setCells b o vs).tape = w.tape ∧ (w.setCells b o vs).output = w.output
  | [], o, w => ⟨rfl, rfl, rfl⟩
  | v :: r, o, w => by
    rw [World.setCells]
    obtain ⟨h1, h2, h3⟩ := setCells_os' b r (o + 1) (w.setCell ⟨b, o, none⟩ v)
    exact ⟨h1.trans rfl, h2.trans rfl, h3.trans rfl⟩
/-- A row grows where it stands. -/
theorem roomed {D : List Nat} {xs ys : List LT} (g : G P w0 F nt H L D X a w) {k : Ek} {b o c : Nat} (hb : b ∈ ownL X) (hnd : (b :: ownL (xs ++ ys)).Nodup) (ho : ∀ x ∈ ownL (xs ++ ys), x ∈ ownL X) (hs : ∀ x ∈ shrL (xs ++ ys), x ∈ shrL X) (hm : MemL w (xs ++ ys))
    (hk : ∀ x ∈ xs ++ ys, (cells x).length = k.n ∧ (k.m = false → all x = [])) (hr : w.rangeAt b o (cellsL xs)) (ht : w.there b o (c * k.n)) (hlt : b < w.heap.size) (hc : (xs ++ ys).length ≤ c) :
    G P w0 F nt H L D [.sl false k (.slice (some ⟨b, o, none⟩) (xs ++ ys).length c) (xs ++ ys)] a (w.setCells b (o + xs.length * k.n) (cellsL ys)) := by
  have hba : b ∉ allL (xs ++ ys) := fun h => by
    rcases all_ofL _ h with h | h
    · exact (List.nodup_cons.1 hnd).1 h
    · exact g.dj.xx b (hs b h) hb
  have hm' : MemL (w.setCells b (o + xs.length * k.n) (cellsL ys)) (xs ++ ys) := MemL.congr _ (fun x hx => setCells_heap _ _ _ _ _ (fun e => hba (e ▸ hx))) hm
  have hlx : (cellsL xs).length = xs.length * k.n := cellsL_len fun x hx => (hk x (List.mem_append.2 (.inl hx))).1
  have hly : (cellsL ys).length = ys.length * k.n := cellsL_len fun x hx => (hk x (List.mem_append.2 (.inr hx))).1
  have hle : xs.length * k.n + ys.length * k.n ≤ c * k.n := by
    rw [← Nat.add_mul]
    exact Nat.mul_le_mul_right _ (by simpa using hc)
  have hsc := setCells_size b (cellsL ys) (o + xs.length * k.n) w
  refine g.flight (X' := [_]) ⟨⟨⟨_, c, rfl, hc, cellsL_len fun x hx => (hk x hx).1, fun _ => ⟨b, o, rfl, by rw [hsc]; exact hlt, ?_, fun _ => there_setCells ht⟩⟩, hk, hm'⟩, trivial⟩ ?_ (fun x hx => ?_) (fun x hx => ?_) (fun x hx hx' => ?_) (fun i hi hX => setCells_heap _ _ _ _ _ (fun e => hX (e ▸ hb))) (by rw [hsc]; exact Nat.le_refl _) (setCells_os' _ _ _ _).1 (setCells_os' _ _ _ _).2.1 (setCells_os' _ _ _ _).2.2
  · rw [cellsL_append, rangeAt_append]
    refine ⟨rangeAt_setCells_out hr (.inr (.inl (by rw [hlx]; exact Nat.le_refl _))), ?_⟩
    rw [hlx]
    refine rangeAt_there (there_sub ht (by omega) (by rw [hly]; omega))
  · simp only [ownL, own, Bool.false_eq_true, if_false, List.append_nil, blk_row]
    by_cases hc0 : c = 0
    · simpa [hc0] using (List.nodup_cons.1 hnd).2
    · simpa [hc0] using hnd
  · simp only [ownL, own, Bool.false_eq_true, if_false, List.append_nil, List.mem_append, blk_row] at hx
    rcases hx with hx | hx
    · by_cases hc0 : c = 0
      · simp [hc0] at hx
      · simp [hc0] at hx; subst hx; exact .inl hb
    · exact .inl (ho x hx)
  · simp only [shrL, shr, Bool.false_eq_true, if_false, List.append_nil] at hx
    exact .inl (hs x hx)
  · simp only [shrL, shr, ownL, own, Bool.false_eq_true, if_false, List.append_nil, List.mem_append, blk_row] at hx hx'
    rcases hx' with hx' | hx'
    · by_cases hc0 : c = 0
      · simp [hc0] at hx'
      · simp [hc0] at hx'; subst hx'; exact g.dj.xx x (hs x hx) hb
    · exact g.dj.xx x (hs x hx) (ho x hx')
end Go.Tree

/- Trees of values: what the evaluator says of an operation is so. Sixth part: literals. -/
namespace Go.Tree
set_option linter.unusedSectionVars false
set_option linter.unusedVariables false
set_option linter.unusedSimpArgs false
variable {P : Program} {w0 : World} {F : Fm} {nt : Nat} {H : List Value} {L : List (AV Value)} {XD : List Nat} {X : List LT} {a : Act} {w : World} {α : Type} {res : α}
variable [Pol]

theorem fillT_map {β γ : Type} (f : β → γ) : ∀ (ps : List (Nat × β)) (zs : List β), (fillT zs ps).map f = fillT (zs.map f) (ps.map fun q => (q.1, f q.2))
  | [], zs => rfl
  | (i, t) :: ps, zs => by rw [fillT, fillT_map f ps, List.map_set]; rfl
theorem fillT_len {β : Type} : ∀ (ps : List (Nat × β)) (zs : List β), (fillT zs ps).length = zs.length
  | [], zs => rfl
  | (i, t) :: ps, zs => by rw [fillT, fillT_len ps, List.length_set]
theorem fillT_mem {β : Type} {x : β} : ∀ (ps : List (Nat × β)) (zs : List β), x ∈ fillT zs ps → x ∈ zs ∨ x ∈ ps.map (·.2)
  | [], zs, h => .inl h
  | (i, t) :: ps, zs, h => by
    rcases fillT_mem ps _ h with h | h
    · rcases List.mem_or_eq_of_mem_set h with h | h
      · exact .inl h
      · exact .inr (by simp [h])
    · exact .inr (List.mem_cons_of_mem _ h)
theorem fillT_own : ∀ (ps : List (Nat × LT)) (zs : List LT), (ownL zs ++ ownL (ps.map (·.2))).Nodup → (ownL (fillT zs ps)).Nodup
  | [], zs, h => by simpa [ownL, fillT] using h
  | (i, t) :: ps, zs, h => by
    refine fillT_own ps _ ?_
    rw [List.set_eq_take_append_cons_drop]
    split
    · rename_i hi
      have e : zs = zs.take i ++ zs[i] :: zs.drop (i + 1) := by simp
      rw [e] at h
      simp only [List.map_cons, ownL, ownL_append] at h ⊢
      simp only [List.append_assoc] at h ⊢
      have hp : (ownL (zs.take i) ++ (own zs[i] ++ (ownL (zs.drop (i + 1)) ++ (own t ++ ownL (ps.map (·.2)))))).Perm (own zs[i] ++ (ownL (zs.take i) ++ (own t ++ (ownL (zs.drop (i + 1)) ++ ownL (ps.map (·.2)))))) := by
        refine (List.perm_append_comm_assoc _ _ _).trans (.append_left _ (.append_left _ ?_))
        exact List.perm_append_comm_assoc _ _ _
      exact (List.nodup_append.1 (hp.nodup_iff.1 h)).2.1
    · simp only [List.map_cons, ownL] at h
      rw [← List.append_assoc] at h
      obtain ⟨h1, h2, h3⟩ := List.nodup_append.1 h
      obtain ⟨h4, h5, h6⟩ := List.nodup_append.1 h1
      exact List.nodup_append.2 ⟨h4, h2, fun x hx y hy => h3 x (List.mem_append.2 (.inl hx)) y hy⟩
def len (x : LT) : Nat := (cells x).length
theorem cellsL_sum : ∀ (zs : List LT), (cellsL zs).length = (zs.map len).sum
  | [] => rfl
  | z :: zs => by rw [cellsL, List.length_append, cellsL_sum zs, List.map_cons, List.sum_cons]; rfl
theorem set_len {zs : List LT} {i : Nat} {t : LT} {n : Nat} (h : (zs.map len)[i]? = some n) (ht : len t = n) : (zs.set i t).map len = zs.map len := by
  rw [List.map_set, ht]
  obtain ⟨hi, h⟩ := List.getElem?_eq_some_iff.1 h
  rw [← h, List.set_getElem_self]
theorem fill_ok (place : Nat → Option (Nat × Nat)) (ls : List Nat) : ∀ (ps : List (Nat × LT)) (zs : List LT), zs.map len = ls → (∀ q ∈ ps, place q.1 = some ((ls.take q.1).sum, len q.2) ∧ ls[q.1]? = some (len q.2) ∧ Mem w q.2) →
    Instr.fill place (cellsL zs).toArray (ps.map fun q => (q.1, valOf q.2)) = some (cellsL (fillT zs ps)).toArray ∧ (fillT zs ps).map len = ls
  | [], zs, hz, h => ⟨rfl, hz⟩
  | (i, t) :: ps, zs, hz, h => by
    obtain ⟨h1, h2, h3⟩ := h _ List.mem_cons_self
    have hc := cells_toList h3
    have hi : i < zs.length := by
      obtain ⟨hi, _⟩ := List.getElem?_eq_some_iff.1 h2
      rw [← hz] at hi
      simpa using hi
    have hs : (zs.set i t).map len = ls := by rw [set_len (by rw [hz]; exact h2) rfl, hz]
    have ih := fill_ok place ls ps (zs.set i t) hs (fun q hq => h q (List.mem_cons_of_mem _ hq))
    refine ⟨?_, ih.2⟩
    have hsz : (valOf t).cells.size = len t := by rw [← Array.length_toList, hc]; rfl
    have hoff : ((cellsL (zs.take i)).length) = (ls.take i).sum := by rw [cellsL_sum, ← hz, List.map_take]
    have hdec : cellsL zs = cellsL (zs.take i) ++ (cells zs[i] ++ cellsL (zs.drop (i + 1))) := by
      have e : zs = zs.take i ++ zs[i] :: zs.drop (i + 1) := by simp
      conv => lhs; rw [e]
      rw [cellsL_append]; rfl
    have hlen : (cells zs[i]).length = len t := by
      rw [← hz] at h2
      simp only [List.getElem?_map, List.getElem?_eq_getElem hi, Option.map_some, Option.some.injEq] at h2
      exact h2
    have htot : ¬ ((valOf t).cells.size ≠ len t || decide ((ls.take i).sum + (valOf t).cells.size > (cellsL zs).toArray.size)) = true := by
      simp only [hsz, List.size_toArray, hdec, List.length_append, hoff, hlen]
      simp
    have hnew : ((valOf t).cells.zipIdx.foldl (fun cs (x : Value × Nat) => cs.setIfInBounds ((ls.take i).sum + x.2) x.1) (cellsL zs).toArray) = (cellsL (zs.set i t)).toArray := by
      have hz2 : (valOf t).cells.zipIdx = ((cells t).zipIdx 0).toArray := by
        rw [← hc, ← Array.toList_zipIdx, Array.toArray_toList]
      rw [hz2, List.foldl_toArray]
      obtain ⟨k1, k2⟩ := Go.Great.foldl_set (ls.take i).sum (cells t) 0 (cellsL zs).toArray
      refine Array.ext_getElem? fun j => ?_
      rw [k2 j, List.set_eq_take_append_cons_drop, if_pos hi, cellsL_append, cellsL]
      have e2 : (cellsL zs).toArray[j]? = (cellsL (zs.take i) ++ (cells zs[i] ++ cellsL (zs.drop (i + 1))))[j]? := by rw [List.getElem?_toArray, hdec]
      have e3 : (cellsL zs).toArray.size = (ls.take i).sum + len t + (cellsL (zs.drop (i + 1))).length := by
        rw [List.size_toArray, hdec, List.length_append, List.length_append, hoff, hlen]; omega
      rw [e2, e3, List.getElem?_toArray]
      have hlt : (cells t).length = len t := rfl
      by_cases c1 : j < (ls.take i).sum
      · rw [if_neg (by omega), List.getElem?_append_left (by omega), List.getElem?_append_left (by omega)]
      · have app : ∀ B : List Value, (cellsL (zs.take i) ++ B)[j]? = B[j - (ls.take i).sum]? := fun B => by rw [List.getElem?_append_right (by omega), hoff]
        rw [app, app]
        by_cases c2 : j < (ls.take i).sum + len t
        · rw [if_pos (by omega), List.getElem?_append_left (by omega)]; rfl
        · have h5 : (cells zs[i] ++ cellsL (zs.drop (i + 1)))[j - (ls.take i).sum]? = (cellsL (zs.drop (i + 1)))[j - (ls.take i).sum - len t]? := by
            rw [List.getElem?_append_right (by omega), hlen]
          have h6 : (cells t ++ cellsL (zs.drop (i + 1)))[j - (ls.take i).sum]? = (cellsL (zs.drop (i + 1)))[j - (ls.take i).sum - len t]? := by
            rw [List.getElem?_append_right (by omega)]; rfl
          rw [if_neg (by omega), h5, h6]
    simp only [List.map_cons, Instr.fill, h1]
    rw [if_neg htot]
    rw [hnew]
    exact ih.1
/-- Operands are taken out, one after the other. -/
theorem takeAll_ok : ∀ (ps : List (TypeId × Operand)) {XD : List Nat} {X : List LT} {L : List (AV Value)} (g : G P w0 F nt H L XD X a w) {K : List Nat → List TV → Env → Option α}, ps.all (fun q => fitO nt q.2) = true → takeAll P XD (L.map erA) ps K = some res →
    ∃ D Ts L', K D (Ts.map er) (L'.map erA) = some res ∧ G P w0 F nt H L' D (X ++ Ts) a w ∧ ps.map (fun q => a.eval q.2) = Ts.map valOf
  | [], XD, X, L, g, K, _, h => ⟨XD, [], L, h, by simpa using g, rfl⟩
  | (ty, x) :: ps, XD, X, L, g, K, hf, h => by
    simp only [takeAll] at h
    cases hb : XD.any (rootOf (L.map erA) x) with
    | true => rw [hb] at h; cases h
    | false =>
      rw [hb] at h
      simp only [List.all_cons, Bool.and_eq_true] at hf
      obtain ⟨D, T, L1, h, g1, hv⟩ := takeO_ok g hf.1 (fun s hs => rootOf_spec hs hb) h
      obtain ⟨D2, Ts, L2, h, g2, hvs⟩ := takeAll_ok ps g1 hf.2 h
      exact ⟨D2, T :: Ts, L2, by rw [List.map_cons]; exact h, by simpa using g2, by rw [List.map_cons, List.map_cons, hvs, hv]⟩
end Go.Tree

/- Trees of values: what the evaluator says of an operation is so. Seventh part: literals, makes, append. -/
namespace Go.Tree
set_option linter.unusedSectionVars false
set_option linter.unusedVariables false
set_option linter.unusedSimpArgs false
variable {P : Program} {w0 : World} {F : Fm} {nt : Nat} {H : List Value} {L : List (AV Value)} {XD : List Nat} {X : List LT} {a : Act} {w : World} {α : Type} {res : α}
variable [Pol]

theorem places_ok : ∀ (fs : List Field), fs.all (fun f => (P.info? f.type).isSome) = true → fs.mapM (fun f => (P.info? f.type).map fun i => (f.offset, i.size)) = some (fs.map fun f => (f.offset, P.cellsOf f.type))
  | [], _ => rfl
  | f :: fs, h => by
    simp only [List.all_cons, Bool.and_eq_true] at h
    obtain ⟨i, hi⟩ := Option.isSome_iff_exists.1 h.1
    rw [List.mapM_cons, places_ok fs h.2, hi]
    simp [Program.cellsOf, hi]
theorem zeroT_ok {ty : TypeId} {t : TV} (h : zeroT P ty = some t) : ∃ i z T, P.info? ty = some i ∧ i.zero = some z ∧ er T = t ∧ valOf T = z ∧ Mem w T ∧ all T = [] := by
  unfold zeroT at h
  obtain ⟨z, h1, h2⟩ := Option.bind_eq_some_iff.1 h
  obtain ⟨i, h3, h4⟩ := Option.bind_eq_some_iff.1 h1
  obtain ⟨T, h5, h6, h7, h8⟩ := constT_ok (w := w) h2
  exact ⟨i, z, T, h3, h4, h5, h6, h7, h8⟩
theorem zip_parts {parts : Array (Nat × Operand)} {ρ : Operand → Value} {Ts : List LT} {g : Nat × Operand → TypeId} (h : (parts.toList.map fun q => (g q, q.2)).map (fun q => ρ q.2) = Ts.map valOf) :
    (parts.map fun (i, x) => (i, ρ x)).toList = ((parts.toList.map (·.1)).zip Ts).map fun q => (q.1, valOf q.2) := by
  rw [Array.toList_map]
  simp only [List.map_map] at h
  generalize parts.toList = ps at *
  induction ps generalizing Ts with
  | nil => rfl
  | cons p ps ih =>
    cases Ts with
    | nil => cases h
    | cons T Ts =>
      simp only [List.map_cons, List.cons.injEq, Function.comp] at h
      simp only [List.map_cons, List.zip_cons_cons, ih h.2]
      rw [← h.1]
theorem len_er (T : LT) : csz (er T) = len T := csz_er T
theorem all_nilL {Ts : List LT} (h : ∀ x ∈ Ts, all x = []) : ownL Ts = [] ∧ shrL Ts = [] := by
  constructor
  · rw [ownL_eq]; exact List.flatMap_eq_nil_iff.2 fun x hx => (noall (h x hx)).1
  · rw [shrL_eq]; exact List.flatMap_eq_nil_iff.2 fun x hx => (noall (h x hx)).2
/-- Trees that have been taken out are put into a list that leads to no memory. -/
theorem filled {is : List Nat} {Ts Zs : List LT} (g : G P w0 F nt H L XD Ts a w) (hl : Ts.length ≤ is.length) (hz : ∀ x ∈ Zs, all x = []) (hm : MemL w Zs) : G P w0 F nt H L XD (fillT Zs (is.zip Ts)) a w := by
  have hsnd : (is.zip Ts).map (·.2) = Ts := List.map_snd_zip hl
  obtain ⟨h1, h2⟩ := all_nilL hz
  refine g.swap (memL_iff.2 fun x hx => ?_) (fillT_own _ _ (by rw [h1, hsnd]; exact g.dj.xn)) (fun b hb => ?_) (fun b hb => ?_)
  · rcases fillT_mem _ _ hx with h | h
    · exact memL_iff.1 hm x h
    · rw [hsnd] at h; exact memL_iff.1 g.memX x h
  · rw [ownL_eq] at hb
    obtain ⟨x, hx, hb⟩ := List.mem_flatMap.1 hb
    rcases fillT_mem _ _ hx with h | h
    · rw [(noall (hz x h)).1] at hb; cases hb
    · rw [hsnd] at h; exact ownL_mem h b hb
  · rw [shrL_eq] at hb
    obtain ⟨x, hx, hb⟩ := List.mem_flatMap.1 hb
    rcases fillT_mem _ _ hx with h | h
    · rw [(noall (hz x h)).2] at hb; cases hb
    · rw [hsnd] at h; exact shrL_mem h b hb
theorem zip_er (is : List Nat) (Ts : List LT) : is.zip (Ts.map er) = (is.zip Ts).map fun q => (q.1, er q.2) := by
  rw [List.zip_map_right]; rfl
/-- A struct is built. -/
theorem build_ok (g : G P w0 F nt H L [] [] a w) {d : Option Tmp} (hd : fitD nt d = true) {t : TypeId} {parts : Array (Nat × Operand)} {ty : Nat × Operand → TypeId} (hf : parts.toList.all (fun q => fitO nt q.2) = true) {fs : Array Field} {zs : List TV} (hu : P.underlying t = some (.struct fs)) (hz : zeroT P t = some (.st zs)) {K : Env → Option α}
    (h : takeAll P [] (L.map erA) (parts.toList.map fun q => (ty q, q.2)) (fun deps ts env => bif fs.toList.all (fun f => (P.info? f.type).isSome) && ((parts.toList.map (·.1)).zip ts).all fun q => fieldOk P t q.1 zs && csz q.2 == csz (zs.getD q.1 (.dead ())) && (fs[q.1]?).any fun f => P.cellsOf f.type == csz q.2 then
          K (putD env d (.val deps (.st (fillT zs ((parts.toList.map (·.1)).zip ts))))) else none) = some res) :
    ∃ v, (Instr.build t (parts.map fun (i, x) => (i, a.eval x))).run P w = .ok v w ∧ Nxt P w0 F nt H K res (a.put d v) w := by
  obtain ⟨i, z, Z, hi, hiz, eZ, vZ, hmZ, haZ⟩ := zeroT_ok (w := w) hz
  obtain ⟨Zs, rfl, rfl⟩ := er_st_inv eZ
  obtain ⟨D, Ts, L', h, g', hv⟩ := takeAll_ok _ g (by simpa using hf) h
  rw [List.nil_append] at g'
  generalize hps : (parts.toList.map (·.1)).zip Ts = ps at *
  have hlen : Ts.length ≤ (parts.toList.map (·.1)).length := by
    have := congrArg List.length hv
    simp at this
    simp [this]
  cases hb : (fs.toList.all (fun f => (P.info? f.type).isSome) && ((parts.toList.map (·.1)).zip (Ts.map er)).all fun q => fieldOk P t q.1 (Zs.map er) && csz q.2 == csz ((Zs.map er).getD q.1 (.dead ())) && (fs[q.1]?).any fun f => P.cellsOf f.type == csz q.2) with
  | false => rw [hb] at h; cases h
  | true =>
    rw [hb] at h
    rw [zip_er, hps] at h hb
    simp only [Bool.and_eq_true] at hb
    have hmT : ∀ q ∈ ps, Mem w q.2 := fun q hq => memL_iff.1 g'.memX q.2 (by rw [← hps] at hq; exact (List.of_mem_zip hq).2)
    obtain ⟨k1, k2⟩ := fill_ok (w := w) (fun x => (fs.toList.map fun f => (f.offset, P.cellsOf f.type)).toArray[x]?) (Zs.map len) ps Zs rfl (fun q hq => by
      have := List.all_eq_true.1 hb.2 (q.1, er q.2) (List.mem_map.2 ⟨q, hq, rfl⟩)
      simp only [Bool.and_eq_true, beq_iff_eq, len_er, getD_er] at this
      obtain ⟨⟨h1, h2⟩, h3⟩ := this
      obtain ⟨h4, h5⟩ := fieldOk_spec h1
      simp only [offs, hu] at h5
      obtain ⟨fd, hfd, h5⟩ := Option.bind_eq_some_iff.1 h5
      split at h5
      · cases h5
      · simp only [Option.some.injEq] at h5
        rw [hfd] at h3
        simp only [Option.any_some, beq_iff_eq] at h3
        refine ⟨?_, ?_, hmT q hq⟩
        · have : fs.toList[q.1]? = some fd := by simpa using hfd
          simp [this, h3, h5, cellsL_sum, List.map_take]
        · rw [List.getElem?_map, List.getElem?_eq_getElem h4, Option.map_some, h2]
          simp [len, h4])
    refine ⟨.agg (cellsL (fillT Zs ps)).toArray, run_build w t _ _ ?_, ?_⟩
    · rw [zip_parts hv, hps]
      unfold Program.built
      simp only [hi, hu, hiz, places_ok _ hb.1]
      rw [← vZ]
      exact k1
    · have g2 := filled (is := parts.toList.map (·.1)) g' hlen (Zs := Zs) (fun x hx => List.eq_nil_iff_forall_not_mem.2 fun b hb' => by
        have : b ∈ all (.st Zs : LT) := allL_mem hx b hb'
        rw [haZ] at this; cases this) hmZ
      rw [hps] at g2
      have g3 : G P w0 F nt H L' D [.st (fillT Zs ps)] a w := g2.swap ⟨g2.memX, trivial⟩ (by simpa [ownL, own] using g2.dj.xn) (fun b hb => by simpa [ownL, own] using hb) (fun b hb => by simpa [shrL, shr] using hb)
      refine landT g3 hd rfl ?_
      rw [er_st, fillT_map]
      exact h
theorem repl_get {Z : LT} {s : Nat} (hs : len Z = s) (h0 : s ≠ 0) : ∀ n j, (cellsL (List.replicate n Z))[j]? = if j < n * s then (cells Z)[j % s]? else none
  | 0, j => by simp [cellsL]
  | n + 1, j => by
    have hs' : (cells Z).length = s := hs
    rw [List.replicate_succ, cellsL]
    by_cases c : j < s
    · rw [List.getElem?_append_left (by omega), Nat.mod_eq_of_lt c, if_pos (by rw [Nat.add_mul]; omega)]
    · have hm : j % s = (j - s) % s := Nat.mod_eq_sub_mod (by omega)
      rw [List.getElem?_append_right (by omega), repl_get hs h0 n, hs', hm]
      have : (j - s < n * s) ↔ (j < (n + 1) * s) := by rw [Nat.add_mul]; omega
      simp only [this]
theorem made_repl {Z : LT} {s : Nat} (hs : len Z = s) (h0 : s ≠ 0) (n : Nat) : (Array.range (n * s)).map ((cells Z).toArray[· % (cells Z).toArray.size]!) = (cellsL (List.replicate n Z)).toArray := by
  have hs' : (cells Z).length = s := hs
  refine Array.ext_getElem? fun j => ?_
  have e1 : (cellsL (List.replicate n Z)).toArray[j]? = (cellsL (List.replicate n Z))[j]? := List.getElem?_toArray ..
  rw [e1, repl_get hs h0]
  simp only [Array.getElem?_map, Array.getElem?_range, List.size_toArray, hs']
  split
  · have hj : j % s < (cells Z).length := by rw [hs']; exact Nat.mod_lt _ (Nat.pos_of_ne_zero h0)
    simp [hj]
  · rfl
theorem memL_repl {Z : LT} (h : Mem w Z) (n : Nat) : MemL w (List.replicate n Z) := memL_iff.2 fun x hx => by rw [(List.mem_replicate.1 hx).2]; exact h
/-- A slice is built. -/
theorem buildSlice_ok (g : G P w0 F nt H L [] [] a w) {d : Option Tmp} (hd : fitD nt d = true) {t e : TypeId} {n : Nat} {parts : Array (Nat × Operand)} (hf : parts.toList.all (fun q => fitO nt q.2) = true) {z : TV} (hu : P.underlying t = some (.slice e)) (hz : zeroT P e = some z) {K : Env → Option α}
    (h : (if n * P.cellsOf e ≤ 16777216 ∧ P.cellsOf e ≠ 0 ∧ csz z = P.cellsOf e then takeAll P [] (L.map erA) (parts.toList.map fun q => (e, q.2)) (fun deps ts env => bif ((parts.toList.map (·.1)).zip ts).all fun q => decide (q.1 < n) && csz q.2 == P.cellsOf e && ((ekOf P e).m || noMem q.2) then
          K (putD env d (.val deps (.sl false (ekOf P e) () (fillT (List.replicate n z) ((parts.toList.map (·.1)).zip ts))))) else none) else none) = some res) :
    ∃ v w', (Instr.buildSlice t n (parts.map fun (i, x) => (i, a.eval x))).run P w = .ok v w' ∧ Nxt P w0 F nt H K res (a.put d v) w' := by
  obtain ⟨i, zv, Z, hi, hiz, rfl, vZ, hmZ, haZ⟩ := zeroT_ok (w := w) hz
  split at h
  · rename_i hc
    obtain ⟨hc1, hc0, hcz⟩ := hc
    rw [len_er] at hcz
    have hsz : i.size = P.cellsOf e := by simp [Program.cellsOf, hi]
    obtain ⟨D, Ts, L', h, g', hv⟩ := takeAll_ok _ g (by simpa using hf) h
    rw [List.nil_append] at g'
    have hlen : Ts.length = (parts.toList.map (·.1)).length := by
      have := congrArg List.length hv
      simp at this
      simp [this]
    rw [zip_er] at h
    have hzp := zip_parts hv
    generalize hps : (parts.toList.map (·.1)).zip Ts = ps at *
    cases hb : ((ps.map fun q => (q.1, er q.2)).all fun q => decide (q.1 < n) && csz q.2 == P.cellsOf e && ((ekOf P e).m || noMem q.2)) with
    | false => rw [hb] at h; cases h
    | true =>
      rw [hb] at h
      have hq : ∀ q ∈ ps, q.1 < n ∧ len q.2 = P.cellsOf e ∧ ((ekOf P e).m = false → all q.2 = []) := fun q hq => by
        have := List.all_eq_true.1 hb (q.1, er q.2) (List.mem_map.2 ⟨q, hq, rfl⟩)
        simp only [Bool.and_eq_true, decide_eq_true_eq, beq_iff_eq, len_er] at this
        refine ⟨this.1.1, this.1.2, fun hm => noMem_all _ ?_⟩
        have h3 := this.2
        rw [hm] at h3
        simpa using h3
      have hmT : ∀ q ∈ ps, Mem w q.2 := fun q hq => memL_iff.1 g'.memX q.2 (by rw [← hps] at hq; exact (List.of_mem_zip hq).2)
      obtain ⟨k1, k2⟩ := fill_ok (w := w) (fun j => some (j * P.cellsOf e, P.cellsOf e)) (List.replicate n (P.cellsOf e)) ps (List.replicate n Z) (by rw [List.map_replicate, hcz]) (fun q hq' => by
        obtain ⟨h1, h2, _⟩ := hq q hq'
        refine ⟨?_, by rw [h2]; simp [h1], hmT q hq'⟩
        rw [h2, List.take_replicate, List.sum_replicate_nat, Nat.min_eq_left (by omega)])
      have g2 := filled (is := parts.toList.map (·.1)) g' (by omega) (Zs := List.replicate n Z) (fun x hx => by rw [(List.mem_replicate.1 hx).2]; exact haZ) (memL_repl hmZ n)
      rw [hps] at g2
      have hfl : (fillT (List.replicate n Z) ps).length = n := by rw [fillT_len]; simp
      have hk : ∀ x ∈ fillT (List.replicate n Z) ps, (cells x).length = (ekOf P e).n ∧ ((ekOf P e).m = false → all x = []) := fun x hx => by
        constructor
        · have : len x ∈ (fillT (List.replicate n Z) ps).map len := List.mem_map.2 ⟨x, hx, rfl⟩
          rw [k2] at this
          exact (List.mem_replicate.1 this).2
        · intro hm
          rcases fillT_mem _ _ hx with h' | h'
          · rw [(List.mem_replicate.1 h').2]; exact haZ
          · obtain ⟨q, hq', rfl⟩ := List.mem_map.1 h'
            exact (hq q hq').2.2 hm
      have g3 := rowed (w1 := w) (rest := []) (c := n) (e := e) g2 rfl rfl rfl rfl hk (by omega) (by rw [List.append_nil, cellsL_len fun x hx => (hk x hx).1, hfl])
      rw [List.append_nil, hfl] at g3
      refine ⟨.slice (some ⟨w.heap.size, 0, none⟩) n n, w.alloc (.cells (cellsL (fillT (List.replicate n Z) ps)).toArray e), ?_, landT g3 hd rfl ?_⟩
      · have hzc : zv.cells = (cells Z).toArray := by rw [← vZ, ← cells_toList hmZ]
        by_cases hn : n = 0
        · subst hn
          have hps0 : ps = [] := List.eq_nil_iff_forall_not_mem.2 fun q hq' => by have := (hq q hq').1; omega
          have hp0 : (parts.map fun (i, x) => (i, a.eval x)).toList = [] := by rw [hzp, hps0]; rfl
          have hp1 : (parts.map fun (i, x) => (i, a.eval x)) = #[] := by simpa using hp0
          rw [hp1]
          subst hps0
          simp [Instr.buildSlice, run_underlying hu, sizeOf, typeInfo, hi, newRow, Instr.fill, fillT, cellsL, Array.range_zero']
        · refine run_buildSlice w t e n _ _ i zv hu hi hiz (by rw [hsz]; omega) (by rw [hsz]; exact Nat.mul_ne_zero hn hc0) ?_
          rw [hzp, hsz, hzc, made_repl hcz hc0]
          exact k1
      · rw [er_sl, fillT_map, List.map_replicate]
        exact h
  · cases h
/-- A slice is made. -/
theorem makeSlice_ok (g : G P w0 F nt H L [] [] a w) {d : Option Tmp} (hd : fitD nt d = true) {t e : TypeId} {kl kc : IntKind} {l c : Int} {z : TV} (hu : P.underlying t = some (.slice e)) (hz : zeroT P e = some z) {K : Env → Option α}
    (h : (bif decide (0 ≤ l) && decide (l ≤ c) && decide (c * bytesOf P e < lim) && decide (c < 9223372036854775807) && decide (P.cellsOf e ≠ 0) && csz z == P.cellsOf e then K (putD (L.map erA) d (.val [] (.sl false (ekOf P e) () (List.replicate l.toNat z)))) else none) = some res) :
    ∃ v w', (Instr.makeSlice t (.int kl l) (.int kc c)).run P w = .ok v w' ∧ Nxt P w0 F nt H K res (a.put d v) w' := by
  obtain ⟨i, zv, Z, hi, hiz, rfl, vZ, hmZ, haZ⟩ := zeroT_ok (w := w) hz
  cases hb : (decide (0 ≤ l) && decide (l ≤ c) && decide (c * bytesOf P e < lim) && decide (c < 9223372036854775807) && decide (P.cellsOf e ≠ 0) && csz (er Z) == P.cellsOf e) with
  | false => rw [hb] at h; cases h
  | true =>
    rw [hb] at h
    simp only [Bool.and_eq_true, decide_eq_true_eq, beq_iff_eq, len_er] at hb
    obtain ⟨⟨⟨⟨⟨b1, b2⟩, b3⟩, b4⟩, b5⟩, b6⟩ := hb
    have hsz : i.size = P.cellsOf e := by simp [Program.cellsOf, hi]
    have hby : bytesOf P e = i.bytes := by simp [bytesOf, hi]
    have hzc : zv.cells = (cells Z).toArray := by rw [← vZ, ← cells_toList hmZ]
    have g0 : G P w0 F nt H L [] (List.replicate l.toNat Z) a w := by
      obtain ⟨h1, h2⟩ := all_nilL (Ts := List.replicate l.toNat Z) fun x hx => by rw [(List.mem_replicate.1 hx).2]; exact haZ
      exact g.swap (memL_repl hmZ _) (by rw [h1]; exact List.nodup_nil) (fun b hb => by rw [h1] at hb; cases hb) (fun b hb => by rw [h2] at hb; cases hb)
    have hsplit : cellsL (List.replicate c.toNat Z) = cellsL (List.replicate l.toNat Z) ++ cellsL (List.replicate (c.toNat - l.toNat) Z) := by
      rw [← cellsL_append, List.replicate_append_replicate]
      congr 2
      omega
    have hcl : (cellsL (List.replicate c.toNat Z)).length = c.toNat * P.cellsOf e := by
      rw [cellsL_len (k := P.cellsOf e) fun x hx => by rw [(List.mem_replicate.1 hx).2]; exact b6, List.length_replicate]
    have g3 := rowed (w1 := w) (rest := cellsL (List.replicate (c.toNat - l.toNat) Z)) (c := c.toNat) (e := e) (k := ekOf P e) g0 rfl rfl rfl rfl (fun x hx => by rw [(List.mem_replicate.1 hx).2]; exact ⟨b6, fun _ => haZ⟩) (by simp; omega) (by rw [← hsplit]; exact hcl)
    rw [← hsplit] at g3
    rw [List.length_replicate] at g3
    have b3' : (i.bytes : Int) * c ≤ 281474976710656 := by
      rw [hby, Int.mul_comm] at b3
      have : (lim : Int) = 140737488355328 := rfl
      omega
    have hrun := run_make w t e i zv hu hi hiz kl kc l c b1 b2 b3' (by omega)
    rw [show madeCells zv.cells (c.toNat * i.size) = (cellsL (List.replicate c.toNat Z)).toArray by rw [hzc, hsz]; exact made_repl b6 b5 _] at hrun
    refine ⟨_, _, hrun, landT g3 hd rfl ?_⟩
    rw [er_sl, List.map_replicate]
    exact h
end Go.Tree

/- Trees of values: what the evaluator says of an operation is so. Eighth part: append. -/
namespace Go.Tree
set_option linter.unusedSectionVars false
set_option linter.unusedVariables false
set_option linter.unusedSimpArgs false
variable {P : Program} {w0 : World} {F : Fm} {nt : Nat} {H : List Value} {L : List (AV Value)} {XD : List Nat} {X : List LT} {a : Act} {w : World} {α : Type} {res : α}
variable [Pol]

theorem rowOk_spec {e : TypeId} (h : rowOk P e = true) : ∃ i z, P.info? e = some i ∧ i.zero = some z ∧ i.size = P.cellsOf e ∧ P.cellsOf e ≠ 0 ∧ i.bytes ≠ 0 ∧ z.cells.size = i.size ∧ bytesOf P e = i.bytes := by
  unfold rowOk at h
  cases hi : P.info? e with
  | none => rw [hi] at h; cases h
  | some i =>
    rw [hi] at h
    simp only [Option.any_some, Bool.and_eq_true, bne_iff_ne] at h
    obtain ⟨⟨h1, h2⟩, h3⟩ := h
    cases hz : i.zero with
    | none => rw [hz] at h3; cases h3
    | some z =>
      rw [hz] at h3
      have : P.cellsOf e = i.size := by simp [Program.cellsOf, hi]
      exact ⟨i, z, rfl, hz, this.symm, by rw [this]; exact h1, h2, by simpa using h3, by simp [bytesOf, hi]⟩
/-- What a slice yields. -/
theorem src_ok {ro : Bool} {k : Ek} {hd : Value} {xs : List LT} (hm : Mem w (.sl ro k hd xs)) {tx e' : TypeId} (hu : P.underlying tx = some (.slice e')) : Src P k.n tx hd xs.length (cellsL xs) w := by
  obtain ⟨⟨A, c, rfl, hc, hl, hx⟩, hk, hmx⟩ := hm
  have h1 := cellsL_one' xs hmx
  by_cases h0 : c = 0
  · have hx0 : xs = [] := List.length_eq_zero_iff.1 (by omega)
    subst hx0
    cases A with
    | none => exact Src.ofNil w hu c
    | some ad => exact Src.ofSlice w hu ad 0 c [] (by simp) (fun j u h => by cases h) (fun u h => by cases h)
  · obtain ⟨b, o, rfl, _, hr, _⟩ := hx h0
    exact Src.ofSlice w hu _ _ c _ hl (fun j u h => by rw [Addr.add_mid]; exact hr j u h) h1
/-- What is appended: so many cells, however they are told. -/
structure App (P : Program) (t tx ty e : TypeId) (i : TypeInfo) (x : Value) (n : Nat) (news : List Value) (w : World) : Prop where
  none : n = 0 → ∀ A, (Builtin.append_ #[t, tx] ty #[.slice A 0 0, x]).run P w = .ok (.slice A 0 0) w
  room : ∀ b off sLen sCap, sLen + n ≤ sCap → (∀ j, j < news.length → (w.cell? ⟨b, off + sLen * i.size + j, Option.none⟩).isSome = true) → (∀ j, j < news.length → w.frozen? ⟨b, off + sLen * i.size + j, Option.none⟩ = false) →
    (Builtin.append_ #[t, tx] ty #[.slice (some ⟨b, off, Option.none⟩) sLen sCap, x]).run P w = .ok (.slice (some ⟨b, off, Option.none⟩) (sLen + n) sCap) (w.setCells b (off + sLen * i.size) news)
  grow : ∀ (z : Value) (base : Option Addr) (sLen sCap : Nat) (olds : List Value), i.zero = some z → (Builtin.firstCells i.size sLen (.slice base sLen sCap)).run P w.drew = .ok olds.toArray w.drew → sCap < sLen + n → ((sLen + n : Nat) : Int) ≤ 9223372036854775807 → Builtin.nextslicecap (sLen + n) sCap * i.bytes ≤ 281474976710656 →
    (Builtin.append_ #[t, tx] ty #[.slice base sLen sCap, x]).run P w = .ok (.slice (some ⟨w.heap.size, 0, Option.none⟩) (sLen + n) (grownCap w (sLen + n) sCap e)) (w.drew.alloc (.cells ((olds ++ news).toArray ++ Builtin.zeroCells z.cells (grownCap w (sLen + n) sCap e - (sLen + n))) e))
theorem App.ofSrc {t tx ty e : TypeId} {i : TypeInfo} (ht : P.underlying t = some (.slice e)) (hi : P.info? e = some i) {x : Value} {n : Nat} {news : List Value} (hs : Src P i.size tx x n news w) : App P t tx ty e i x n news w := by
  refine ⟨fun h0 A => ?_, fun b off sLen sCap h1 h2 h3 => run_append_room_src w t tx ty e i ht hi b off sLen sCap x n news hs h1 h2 h3, fun z base sLen sCap olds hz ho h1 h2 h3 => run_append_grow_src w t tx ty e i z ht hi hz base sLen sCap olds ho x n news hs h1 h2 h3⟩
  subst h0
  have hl : news = [] := List.length_eq_zero_iff.1 (by rw [hs.newsLen, Nat.zero_mul])
  subst hl
  rcases hs.kind with ⟨e', hk⟩ | hk <;> cases A <;> simp [Builtin.append_, run_underlying ht, run_underlying hk, sizeOf, typeInfo, hi, hs.len, hs.cells, storeCells]
theorem zeroCells_none (z : Array Value) : Builtin.zeroCells z 0 = #[] := by simp [Builtin.zeroCells]
theorem App.zeros {t tx ty e : TypeId} {i : TypeInfo} {z : Value} {kx : IntKind} (ht : P.underlying t = some (.slice e)) (hx : P.underlying tx = some (.int kx)) (hi : P.info? e = some i) (hz : i.zero = some z) (h0 : i.size ≠ 0) {k : IntKind} {l : Int} (hl : 0 ≤ l) (hb : l * i.bytes < 140737488355328) (hb0 : i.bytes ≠ 0) (hone : ∀ u ∈ (Builtin.zeroCells z.cells l.toNat).toList, u.oneCell' = true) :
    App P t tx ty e i (.int k l) l.toNat (Builtin.zeroCells z.cells l.toNat).toList w := by
  have hle : l ≤ l * i.bytes := by
    have := Int.mul_le_mul_of_nonneg_left (show (1 : Int) ≤ i.bytes by omega) hl
    omega
  have hw : IntKind.i64.wrap l = l := by rw [IntKind.wrap_i64]; omega
  have has : ∀ w' : World, (asInt (.int k l)).run P w' = .ok l w' := fun w' => by simp [asInt, asIntOf]
  have h48 : ¬ 281474976710656 < l * (i.bytes : Int) := by omega
  have hneg : ¬ l < 0 := by omega
  refine ⟨fun hn A => ?_, fun b off sLen sCap h1 h2 h3 => ?_, fun z' base sLen sCap olds hz' ho h1 h2 h3 => ?_⟩
  · have hz0 : Builtin.zeroCells z.cells l.toNat = #[] := by rw [hn]; exact zeroCells_none _
    have hl0 : l = 0 := by omega
    subst hl0
    have hz1 : Builtin.zeroCells z.cells 0 = #[] := zeroCells_none _
    cases A <;> simp [Builtin.append_, run_underlying ht, run_underlying hx, sizeOf, typeInfo, hi, storeCells, has, hw, hz1]
  · have hst := run_storeCells_cells (P := P) b (off + sLen * i.size) (Builtin.zeroCells z.cells l.toNat).toList 0 w (by simpa using h2) (by simpa using h3) hone
    simp only [Nat.add_zero] at hst
    by_cases hn : l.toNat = 0
    · have hz0 : Builtin.zeroCells z.cells l.toNat = #[] := by rw [hn]; exact zeroCells_none _
      rw [hz0] at hst
      simp [Builtin.append_, run_underlying ht, run_underlying hx, sizeOf, typeInfo, hi, has, hw, h48, hneg, h1, hn, hz0, Addr.add_lit, hst] at hst ⊢
      simp [hn] at h1
      simp [h1, zeroCells_none]
    · have hm : ¬ (l.toNat * i.size = 0) := Nat.mul_ne_zero hn h0
      simp [Builtin.append_, run_underlying ht, run_underlying hx, sizeOf, typeInfo, hi, has, hw, h48, hneg, h1, zeroValue, hz, hm, Addr.add_lit, hst]
  · have hzz : z' = z := by rw [hz] at hz'; exact (Option.some.inj hz').symm
    subst hzz
    have hn : ¬ (sLen + l.toNat ≤ sCap) := by omega
    have h63' : ¬ (9223372036854775807 < ((sLen : Int) + (l.toNat : Int))) := by omega
    have h48' : ¬ (281474976710656 < Builtin.nextslicecap (sLen + l.toNat) sCap * i.bytes) := by omega
    by_cases hn0 : l.toNat = 0
    · have hl0 : l = 0 := by omega
      subst hl0
      have e0 : (0 : Int).toNat = 0 := rfl
      have hz0 : Builtin.zeroCells z'.cells 0 = #[] := zeroCells_none _
      have h63'' : ¬ (9223372036854775807 < (sLen : Int)) := by omega
      simp only [e0, Nat.add_zero] at hn h48' ⊢
      simp [Builtin.append_, run_underlying ht, run_underlying hx, sizeOf, typeInfo, zeroValue, hi, hz, has, hw, hn, h63'', h48', Question.forced, ho, newRow, grownCap, hz0]
    · have hm : ¬ (l.toNat * i.size = 0) := Nat.mul_ne_zero hn0 h0
      have h63'' : ¬ (9223372036854775807 < (sLen : Int) + max l 0) := by omega
      simp [Builtin.append_, run_underlying ht, run_underlying hx, sizeOf, typeInfo, zeroValue, hi, hz, has, hw, h48, hneg, hn, h63'', h48', hm, Question.forced, ho, newRow, grownCap]
      try (congr 2; apply Array.ext'; simp [List.append_assoc])
theorem append_coreA {D : List Nat} (g : G P w0 F nt H L D X a w) {t tx ty e : TypeId} (ht : P.underlying t = some (.slice e)) (hrow : rowOk P e = true) {xs ys : List LT} {hd vx : Value} (hmT : Mem w (.sl false (ekOf P e) hd xs)) (hmY : MemL w ys)
    (hky : ∀ x ∈ ys, (cells x).length = (ekOf P e).n ∧ ((ekOf P e).m = false → all x = [])) (hsub : ∀ b ∈ blk hd ++ ownL (xs ++ ys), b ∈ ownL X) (hnd : (blk hd ++ ownL (xs ++ ys)).Nodup) (hss : ∀ b ∈ shrL (xs ++ ys), b ∈ shrL X)
    (hS : ∀ i, P.info? e = some i → App P t tx ty e i vx ys.length (cellsL ys) w) (hlim : (xs.length + ys.length) * bytesOf P e < lim) :
    ∃ w' T', (Builtin.append_ #[t, tx] ty #[hd, vx]).run P w = .ok (valOf T') w' ∧ G P w0 F nt H L D [T'] a w' ∧ er T' = .sl false (ekOf P e) () ((xs ++ ys).map er) := by
  obtain ⟨i, z, hi, hz, hsz, h0, hb0, hzs, hby⟩ := rowOk_spec hrow
  have hS0 := src_ok (P := P) hmT ht
  obtain ⟨⟨A, c, rfl, hc, hl, hx⟩, hkx, hmx⟩ := hmT
  have hk : ∀ x ∈ xs ++ ys, (cells x).length = (ekOf P e).n ∧ ((ekOf P e).m = false → all x = []) := fun x hx => (List.mem_append.1 hx).elim (hkx x) (hky x)
  have hm : MemL w (xs ++ ys) := memL_iff.2 fun x hx => (List.mem_append.1 hx).elim (memL_iff.1 hmx x) (memL_iff.1 hmY x)
  have hn : (ekOf P e).n = P.cellsOf e := rfl
  by_cases hroom : xs.length + ys.length ≤ c
  · by_cases hc0 : c = 0
    · have hx0 : xs = [] := List.length_eq_zero_iff.1 (by omega)
      have hy0 : ys = [] := List.length_eq_zero_iff.1 (by omega)
      subst hx0 hy0 hc0
      refine ⟨w, .sl false (ekOf P e) (.slice A 0 0) [], (hS i hi).none rfl A, ?_, by rw [er_sl]; rfl⟩
      have hb : own (.sl false (ekOf P e) (.slice A 0 0) [] : LT) = [] := by cases A <;> simp [own, ownL, blk, plc]
      exact g.swap (Ts := [.sl false (ekOf P e) (.slice A 0 0) []]) ⟨⟨⟨A, 0, rfl, Nat.le_refl _, by simp [cellsL], fun h => absurd rfl h⟩, by simp, trivial⟩, trivial⟩ (by simp only [ownL, hb]; exact List.nodup_nil) (fun b h => by simp only [ownL, hb] at h; cases h) (fun b h => by simp [shrL, shr] at h)
    · obtain ⟨b, o, rfl, hlt, hr, hth⟩ := hx hc0
      have hblk : blk (.slice (some ⟨b, o, none⟩) xs.length c) = [b] := by rw [blk_row, if_neg hc0]
      rw [hblk] at hsub hnd
      have g2 := roomed (b := b) (o := o) (c := c) g (hsub b (by simp)) (by simpa using hnd) (fun x hx => hsub x (by simp only [List.mem_append]; exact .inr hx)) hss hm hk hr (hth rfl) hlt (by simpa using hroom)
      refine ⟨_, _, ?_, g2, by rw [er_sl]⟩
      have hly : (cellsL ys).length = ys.length * P.cellsOf e := cellsL_len fun x hx => (hky x hx).1
      have hle : xs.length * P.cellsOf e + ys.length * P.cellsOf e ≤ c * P.cellsOf e := by
        rw [← Nat.add_mul]; exact Nat.mul_le_mul_right _ hroom
      have hth' : w.there b (o + xs.length * P.cellsOf e) (cellsL ys).length := there_sub (hth rfl) (by omega) (by rw [hly, hn]; omega)
      have := (hS i hi).room b o xs.length c hroom (fun j hj => by rw [hsz]; exact (hth' j hj).1) (fun j hj => by rw [hsz]; exact (hth' j hj).2)
      rw [this, hsz, valOf, List.length_append]
      rfl
  · have hlimv : lim = 140737488355328 := rfl
    have hbb : (xs.length + ys.length) * i.bytes < 140737488355328 := by rw [← hby, ← hlimv]; exact hlim
    have h63 : xs.length + ys.length ≤ (xs.length + ys.length) * i.bytes := Nat.le_mul_of_pos_right _ (Nat.pos_of_ne_zero hb0)
    have hge := grownCap_ge w (xs.length + ys.length) c e
    have g1 := g.swap hm (List.nodup_append.1 hnd).2.1 (fun b hb => hsub b (List.mem_append.2 (.inr hb))) hss
    have hln : (cellsL (xs ++ ys)).length = (xs ++ ys).length * P.cellsOf e := cellsL_len fun x hx => (hk x hx).1
    have hzl : (Builtin.zeroCells z.cells (grownCap w (xs.length + ys.length) c e - (xs.length + ys.length))).toList.length = (grownCap w (xs.length + ys.length) c e - (xs.length + ys.length)) * P.cellsOf e := by
      rw [Array.length_toList]
      simp [Builtin.zeroCells, hzs, hsz]
    have g2 := rowed (w1 := w.drew) (rest := (Builtin.zeroCells z.cells (grownCap w (xs.length + ys.length) c e - (xs.length + ys.length))).toList) (c := grownCap w (xs.length + ys.length) c e) (e := e) g1 rfl rfl rfl rfl hk (by simpa using hge) (by
      rw [List.length_append, hln, hzl, List.length_append, ← Nat.add_mul, hn]
      congr 1
      omega)
    refine ⟨_, _, ?_, g2, by rw [er_sl]⟩
    have := (hS i hi).grow z A xs.length c (cellsL xs) hz (by rw [hsz]; exact hS0.cellsD) (by omega) (by omega) (growslice_fits (by omega) (by omega))
    rw [this]
    have e1 : (cellsL (xs ++ ys) ++ (Builtin.zeroCells z.cells (grownCap w (xs.length + ys.length) c e - (xs.length + ys.length))).toList).toArray = (cellsL xs ++ cellsL ys).toArray ++ Builtin.zeroCells z.cells (grownCap w (xs.length + ys.length) c e - (xs.length + ys.length)) := by
      apply Array.ext'
      simp [cellsL_append]
    rw [e1, valOf, List.length_append]
    rfl
theorem append_core {D : List Nat} (g : G P w0 F nt H L D X a w) {t ty e : TypeId} (ht : P.underlying t = some (.slice e)) (hrow : rowOk P e = true) {xs ys : List LT} {hd vx : Value} (hmT : Mem w (.sl false (ekOf P e) hd xs)) (hmY : MemL w ys)
    (hky : ∀ x ∈ ys, (cells x).length = (ekOf P e).n ∧ ((ekOf P e).m = false → all x = [])) (hsub : ∀ b ∈ blk hd ++ ownL (xs ++ ys), b ∈ ownL X) (hnd : (blk hd ++ ownL (xs ++ ys)).Nodup) (hss : ∀ b ∈ shrL (xs ++ ys), b ∈ shrL X)
    (hS : Src P (P.cellsOf e) t vx ys.length (cellsL ys) w) (hlim : (xs.length + ys.length) * bytesOf P e < lim) :
    ∃ w' T', (Builtin.append_ #[t, t] ty #[hd, vx]).run P w = .ok (valOf T') w' ∧ G P w0 F nt H L D [T'] a w' ∧ er T' = .sl false (ekOf P e) () ((xs ++ ys).map er) :=
  append_coreA g ht hrow hmT hmY hky hsub hnd hss (fun i hi => App.ofSrc ht hi (by rw [show i.size = P.cellsOf e by simp [Program.cellsOf, hi]]; exact hS)) hlim
/-- append. -/
theorem appendE_ok (g : G P w0 F nt H L [] [] a w) {d : Option Tmp} (hd : fitD nt d = true) {t ty : TypeId} {s x : Operand} (hs : fitO nt s = true) (hx : fitO nt x = true) {K : Env → Option α} (h : appendE P t (L.map erA) d s x K = some res) :
    ∃ v w', (Builtin.append_ #[t, t] ty #[a.eval s, a.eval x]).run P w = .ok v w' ∧ Nxt P w0 F nt H K res (a.put d v) w' := by
  unfold appendE at h
  split at h
  · rename_i e ht
    cases hrow : rowOk P e with
    | false => rw [hrow] at h; cases h
    | true =>
      rw [hrow] at h
      obtain ⟨D, T, L1, h, g1, hv⟩ := takeO_ok g hs (fun s hs => by simp) h
      simp only [List.nil_append] at g1
      split at h
      · rename_i k hh xs hT
        obtain ⟨hdv, ys, rfl, rfl⟩ := er_sl_inv hT
        cases how : ownTy P fuelT e with
        | true =>
          rw [how] at h
          cases hb : D.any (rootOf (L1.map erA) x) with
          | true => rw [hb] at h; cases h
          | false =>
            rw [hb] at h
            obtain ⟨D2, U, L2, h, g2, hv2⟩ := takeO_ok g1 hx (fun s hs => rootOf_spec hs hb) h
            split at h
            · rename_i k2 hh2 us hU
              obtain ⟨hdu, us, rfl, rfl⟩ := er_sl_inv hU
              cases hc : (k == ekOf P e && k2 == k && decide (((ys.map er).length + (us.map er).length) * bytesOf P e < lim)) with
              | false => rw [hc] at h; cases h
              | true =>
                rw [hc] at h
                simp only [Bool.and_eq_true, beq_iff_eq, decide_eq_true_eq, List.length_map] at hc
                obtain ⟨⟨rfl, rfl⟩, hl⟩ := hc
                have hx1 : ownL ([.sl false (ekOf P e) hdv ys] ++ [.sl false (ekOf P e) hdu us]) = blk hdv ++ ownL ys ++ (blk hdu ++ ownL us) := by simp [ownL, own]
                have hx2 : shrL ([.sl false (ekOf P e) hdv ys] ++ [.sl false (ekOf P e) hdu us]) = shrL ys ++ shrL us := by simp [shrL, shr]
                have hnd := g2.dj.xn
                rw [hx1] at hnd
                have hmU := g2.memX.2.1
                have hmUo := hmU
                obtain ⟨_, hku, hmu⟩ := hmU
                obtain ⟨w', T', k1, k2, k3⟩ := append_core (ty := ty) (vx := hdu) g2 ht hrow g2.memX.1 hmu hku (fun b hb => by
                  rw [hx1]
                  simp only [ownL_append, List.mem_append] at hb ⊢
                  rcases hb with hb | hb | hb
                  · exact .inl (.inl hb)
                  · exact .inl (.inr hb)
                  · exact .inr (.inr hb)) (by
                  rw [ownL_append, ← List.append_assoc]
                  obtain ⟨n1, n2, n3⟩ := List.nodup_append.1 hnd
                  exact List.nodup_append.2 ⟨n1, (List.nodup_append.1 n2).2.1, fun p hp q hq => n3 p hp q (List.mem_append.2 (.inr hq))⟩) (fun b hb => by rw [hx2]; rwa [shrL_append] at hb) (src_ok hmUo ht) hl
                refine ⟨_, w', by rw [hv, hv2]; exact k1, landT k2 hd rfl ?_⟩
                rw [k3, List.map_append]
                exact h
            · cases h
        | false =>
          rw [how] at h
          obtain ⟨D2, U, h, hmU, hv2, _, hUX, _⟩ := lookO_ok g1 hx h
          split at h
          · rename_i ro k2 hh2 us hU
            obtain ⟨hdu, us, rfl, rfl⟩ := er_sl_inv hU
            cases hc : (k == ekOf P e && k2 == k && decide (((ys.map er).length + (us.map er).length) * bytesOf P e < lim)) with
            | false => rw [hc] at h; cases h
            | true =>
              rw [hc] at h
              simp only [Bool.and_eq_true, beq_iff_eq, decide_eq_true_eq, List.length_map] at hc
              obtain ⟨⟨rfl, rfl⟩, hl⟩ := hc
              have hx1 : ownL [.sl false (ekOf P e) hdv ys] = blk hdv ++ ownL ys := by simp [ownL, own]
              have hx2 : shrL [.sl false (ekOf P e) hdv ys] = shrL ys := by simp [shrL, shr]
              have hmUo := hmU
              obtain ⟨_, hku, hmu⟩ := hmU
              obtain ⟨n1, n2⟩ := all_nilL (Ts := us) fun x hx => (hku x hx).2 how
              have hnd := g1.dj.xn
              rw [hx1] at hnd
              obtain ⟨w', T', k1, k2, k3⟩ := append_core (ty := ty) (vx := hdu) g1 ht hrow g1.memX.1 hmu hku (fun b hb => by
                rw [hx1]; rwa [ownL_append, n1, List.append_nil] at hb) (by rw [ownL_append, n1, List.append_nil]; exact hnd) (fun b hb => by rw [hx2]; rwa [shrL_append, n2, List.append_nil] at hb) (src_ok hmUo ht) hl
              refine ⟨_, w', by rw [hv, hv2]; exact k1, landT k2 hd rfl ?_⟩
              rw [k3, List.map_append]
              exact h
          · cases h
      · cases h
  · cases h
/-- append of zeros. -/
theorem appendN_ok (g : G P w0 F nt H L [] [] a w) {d : Option Tmp} (hd : fitD nt d = true) {t tx ty : TypeId} {s x : Operand} (hs : fitO nt s = true) (hx : fitO nt x = true) {kx : IntKind} (hux : P.underlying tx = some (.int kx)) {K : Env → Option α} (h : appendN P t (L.map erA) d s x K = some res) :
    ∃ v w', (Builtin.append_ #[t, tx] ty #[a.eval s, a.eval x]).run P w = .ok v w' ∧ Nxt P w0 F nt H K res (a.put d v) w' := by
  unfold appendN at h
  split at h
  · rename_i e kn n ht hf
    have ex := flatO_ok g hx hf
    split at h
    · rename_i z hz
      obtain ⟨i, zv, Z, hi, hiz, rfl, vZ, hmZ, haZ⟩ := zeroT_ok (w := w) hz
      cases hc0 : (rowOk P e && csz (er Z) == P.cellsOf e && decide (0 ≤ n)) with
      | false => rw [hc0] at h; cases h
      | true =>
        rw [hc0, cond_true] at h
        simp only [Bool.and_eq_true, beq_iff_eq, decide_eq_true_eq, len_er] at hc0
        obtain ⟨⟨hrow, hlz⟩, hn0⟩ := hc0
        obtain ⟨D, T, L1, h, g1, hv⟩ := takeO_ok g hs (fun s hs => by simp) h
        simp only [List.nil_append] at g1
        split at h
        · rename_i k hh xs hT
          obtain ⟨hdv, ys, rfl, rfl⟩ := er_sl_inv hT
          cases hc : (k == ekOf P e && decide (((ys.map er).length + n.toNat) * bytesOf P e < lim)) with
          | false => rw [hc] at h; cases h
          | true =>
            rw [hc, cond_true] at h
            simp only [Bool.and_eq_true, beq_iff_eq, decide_eq_true_eq, List.length_map] at hc
            obtain ⟨rfl, hl⟩ := hc
            obtain ⟨i', z', hi', hz', hsz, h0, hb0, hzs, hby⟩ := rowOk_spec hrow
            rw [hi] at hi'
            cases hi'
            rw [hiz] at hz'
            cases hz'
            have hzc : zv.cells = (cells Z).toArray := by rw [← vZ, ← cells_toList hmZ]
            have hcl : Builtin.zeroCells zv.cells n.toNat = (cellsL (List.replicate n.toNat Z)).toArray := by
              rw [← made_repl hlz h0, Builtin.zeroCells, hzc]
              rw [show (cells Z).toArray.size = P.cellsOf e from hlz]
            have hx1 : ownL [.sl false (ekOf P e) hdv ys] = blk hdv ++ ownL ys := by simp [ownL, own]
            have hx2 : shrL [.sl false (ekOf P e) hdv ys] = shrL ys := by simp [shrL, shr]
            obtain ⟨n1, n2⟩ := all_nilL (Ts := List.replicate n.toNat Z) fun x hx => by rw [(List.mem_replicate.1 hx).2]; exact haZ
            have hnd := g1.dj.xn
            rw [hx1] at hnd
            have hmR := memL_repl (w := w) hmZ n.toNat
            obtain ⟨w', T', k1, k2, k3⟩ := append_coreA (tx := tx) (ty := ty) (vx := .int kn n) (ys := List.replicate n.toNat Z) g1 ht hrow g1.memX.1 hmR (fun x hx => by rw [(List.mem_replicate.1 hx).2]; exact ⟨hlz, fun _ => haZ⟩) (fun b hb => by
              rw [hx1]; rwa [ownL_append, n1, List.append_nil] at hb) (by rw [ownL_append, n1, List.append_nil]; exact hnd) (fun b hb => by rw [hx2]; rwa [shrL_append, n2, List.append_nil] at hb) (fun i' hi' => by
              rw [hi] at hi'
              cases hi'
              have hbn : n * (i.bytes : Int) < 140737488355328 := by
                rw [hby] at hl
                have h1 : n.toNat * i.bytes ≤ (ys.length + n.toNat) * i.bytes := Nat.mul_le_mul_right _ (by omega)
                have h2 : (lim : Nat) = 140737488355328 := rfl
                have h3 : ((n.toNat * i.bytes : Nat) : Int) = n * (i.bytes : Int) := by rw [Int.natCast_mul, Int.toNat_of_nonneg hn0]
                omega
              have := App.zeros (P := P) (w := w) (ty := ty) (z := zv) (k := kn) (l := n) ht hux hi hiz (by rw [hsz]; exact h0) hn0 hbn hb0 (fun u hu => by rw [hcl] at hu; exact cellsL_one' _ hmR u hu)
              rw [List.length_replicate]
              rw [hcl] at this
              exact this) (by rw [List.length_replicate]; exact hl)
            refine ⟨_, w', by rw [hv, ex]; exact k1, landT k2 hd rfl ?_⟩
            rw [k3, List.map_append, List.map_replicate]
            exact h
        · cases h
    · cases h
  · cases h
end Go.Tree

/- Trees of values: what the evaluator says of an operation is so. Ninth part: slices, strings, tuples, closures. -/
namespace Go.Tree
set_option linter.unusedSectionVars false
set_option linter.unusedVariables false
set_option linter.unusedSimpArgs false
variable {P : Program} {w0 : World} {F : Fm} {nt : Nat} {H : List Value} {L : List (AV Value)} {XD : List Nat} {X : List LT} {a : Act} {w : World} {α : Type} {res : α}
variable [Pol]

theorem intOf_some {v : Value} {i : Int} (h : intOf v = some i) : ∃ k, v = .int k i := by
  cases v <;> simp [intOf] at h
  subst h
  exact ⟨_, rfl⟩
theorem run_bounds {isS : Bool} {n c : Nat} {lv hv : Option Value} {l h : Int} (hl : lv.elim (some 0) intOf = some l) (hh : hv.elim (some (n : Int)) intOf = some h) (hb : boundsOk l h n = true) (hc : n ≤ c) :
    (Instr.sliceBounds isS n c lv hv none).run P w = .ok (l.toNat, h.toNat, c) w := by
  simp only [boundsOk, Bool.and_eq_true, decide_eq_true_eq] at hb
  obtain ⟨⟨b1, b2⟩, b3⟩ := hb
  have b4 : 0 ≤ h := by omega
  have b5 : h ≤ c := by omega
  have eh : (h.toNat : Int) = h := Int.toNat_of_nonneg b4
  have el : (l.toNat : Int) = l := Int.toNat_of_nonneg b1
  cases lv with
  | none =>
    simp only [Option.elim, Option.some.injEq] at hl
    subst hl
    cases hv with
    | none =>
      simp only [Option.elim, Option.some.injEq] at hh
      subst hh
      simp [Instr.sliceBounds]
    | some v =>
      obtain ⟨k, rfl⟩ := intOf_some hh
      simp [Instr.sliceBounds, run_sliceBound, b4, b5]
  | some u =>
    obtain ⟨k', rfl⟩ := intOf_some hl
    cases hv with
    | none =>
      simp only [Option.elim, Option.some.injEq] at hh
      subst hh
      simp [Instr.sliceBounds, run_sliceBound, b1, b2]
    | some v =>
      obtain ⟨k, rfl⟩ := intOf_some hh
      have b2' : l ≤ (h.toNat : Int) := by omega
      have e1 := run_sliceBound (P := P) w k' l h.toNat .sliceB b1 b2'
      simp [Instr.sliceBounds, run_sliceBound, e1, b4, b5]
theorem bind_int (g : G P w0 F nt H L XD X a w) {o : Option Operand} (ho : o.all (fitO nt) = true) {dv : Option Int} {i : Int} (h : o.elim dv (fun o => (flatO (L.map erA) o).bind intOf) = some i) : (o.map a.eval).elim dv intOf = some i := by
  cases o with
  | none => exact h
  | some o =>
    simp only [Option.elim, Option.bind_eq_some_iff] at h
    obtain ⟨v, h1, h2⟩ := h
    simp only [Option.map_some, Option.elim, flatO_ok g (by simpa using ho) h1]
    exact h2
theorem run_sliceT {t e : TypeId} (hu : P.underlying t = some (.slice e)) (h0 : P.cellsOf e ≠ 0) {A : Option Addr} {n c : Nat} {lv hv : Option Value} {l h : Int} (hl : lv.elim (some 0) intOf = some l) (hh : hv.elim (some (n : Int)) intOf = some h) (hb : boundsOk l h n = true) (hc : n ≤ c) :
    (Instr.sliceAt t (.slice A n c) lv hv none).run P w = .ok (sliced A l.toNat h.toNat c (P.cellsOf e)) w := by
  obtain ⟨i, hi, hsz⟩ := info_size (n := P.cellsOf e) rfl h0
  simp [Instr.sliceAt, run_underlying hu, Instr.slice, run_bounds hl hh hb hc, sizeOf, typeInfo, hi, hsz, sliced]
theorem refV_cut {ty e : TypeId} {sub : Option (Nat × Nat)} {h0 : Value} {A : Option Addr} {n c l h : Nat} (hr : RefV P ty sub h0 (.slice A n c)) (hk : elemSz P ty = some (ekOf P e)) (h1 : l ≤ h) (h2 : h ≤ n) (hc : n ≤ c) :
    RefV P ty (some (sub.elim 0 (·.1) + l, h - l)) h0 (sliced A l h c (P.cellsOf e)) := by
  have hm : ∀ B : Option Addr, c - l ≠ 0 → (if c = l then B else B.map (·.add (l * P.cellsOf e))) = B.map (·.add (l * P.cellsOf e)) := fun B hne => by rw [if_neg (by omega)]
  cases sub with
  | none =>
    have hr : (.slice A n c : Value) = h0 := hr
    refine ⟨A, n, c, ekOf P e, _, hr.symm, by simp; omega, hk, by simp only [sliced, Option.elim, Nat.zero_add]; rfl, fun hne => ?_⟩
    simp only [Option.elim, Nat.zero_add] at hne ⊢
    exact hm A hne
  | some q =>
    obtain ⟨lo, m⟩ := q
    obtain ⟨A0, len, c0, k, A', k1, k2, k3, k4, k5⟩ := hr
    simp only [Value.slice.injEq] at k4
    obtain ⟨rfl, rfl, rfl⟩ := k4
    rw [hk] at k3
    cases k3
    refine ⟨A0, len, c0, ekOf P e, _, k1, by simp only [Option.elim]; omega, hk, by simp only [sliced, Option.elim, Nat.sub_sub]; rfl, fun hne => ?_⟩
    simp only [Option.elim] at hne ⊢
    rw [if_neg (by omega), k5 (by omega), Option.map_map]
    congr 1
    funext ad
    obtain ⟨b, o, s⟩ := ad
    have : (ekOf P e).n = P.cellsOf e := rfl
    simp only [Function.comp, Addr.add, this, Nat.add_mul]
    by_cases c1 : lo * P.cellsOf e = 0 <;> by_cases c2 : l * P.cellsOf e = 0 <;> simp [c1, c2, Nat.add_assoc]
/-- A slice is cut. -/
theorem sliceE_ok (g : G P w0 F nt H L [] [] a w) {d : Option Tmp} (hd : fitD nt d = true) {t e : TypeId} (hu : P.underlying t = some (.slice e)) {x : Operand} (hx : fitO nt x = true) {lo hi : Option Operand} (hlo : lo.all (fitO nt) = true) (hhi : hi.all (fitO nt) = true) {K : Env → Option α}
    (h : sliceE P t e (L.map erA) d x lo hi K = some res) : ∃ v, (∀ w, (Instr.sliceAt t (a.eval x) (lo.map a.eval) (hi.map a.eval) none).run P w = .ok v w) ∧ Nxt P w0 F nt H K res (a.put d v) w := by
  unfold sliceE at h
  split at h
  · rename_i s
    have hs : s < nt := by simpa [fitO] using hx
    have hso := g.slots s hs
    obtain ⟨h0, r, p, lo0, n, deps, T, A, c, h, hr, hv, hev, hnc, _⟩ := row_ok g hx h
    split at h
    · rename_i l hh el eh
      cases hb : boundsOk l hh n with
      | false => rw [hb] at h; cases h
      | true =>
        rw [hb] at h
        have hb' := hb
        simp only [boundsOk, Bool.and_eq_true, decide_eq_true_eq] at hb'
        obtain ⟨⟨b1, b2⟩, b3⟩ := hb'
        have hrun : ∀ w, (Instr.sliceAt t (a.eval (.tmp s)) (lo.map a.eval) (hi.map a.eval) none).run P w = .ok (sliced A l.toNat hh.toNat c (P.cellsOf e)) w := fun w => by
          rw [hev]
          exact run_sliceT hu h0 (bind_int g hlo el) (bind_int g hhi eh) hb hnc
        refine ⟨_, hrun, ?_⟩
        rw [eval_tmp] at hev
        rw [hev] at hso
        have hlen : (hh - l).toNat = hh.toNat - l.toNat := by omega
        rw [slot_er] at h
        simp only [cond_true] at h
        split at h
        · rename_i d' t' ht
          obtain ⟨T', e', rfl⟩ := erA_val ht
          rw [e'] at hso
          have hk : elemSz P t = some (ekOf P e) := by simp [elemSz, hu]
          have hrv : RefV P t none (valOf T') (.slice A n c) := hso
          have hcut := refV_cut hrv hk (l := l.toNat) (h := hh.toNat) (by omega) (by omega) hnc
          simp only [Option.elim, Nat.zero_add] at hcut
          rw [← hlen] at hcut
          cases ho : hasOwn (er T') with
          | true =>
            rw [ho] at h
            refine landRef g hd (av := .ref s [] (some (l.toNat, (hh - l).toNat)) t false) ⟨rfl, rfl, rfl, fun _ => trivial, fun _ _ => by simp⟩ (fun L' d' hdd hkk hnv deps' t' ht' => ?_) h
            by_cases c' : s = d'
            · subst c'; exact absurd ht' (hnv _ _)
            · have := hkk s deps' t' ht' c'
              rw [e'] at this
              cases this
              refine ⟨trivial, hcut, fun _ => ?_⟩
              have hso : (.slice A n c : Value) = valOf T' := hso
              cases T' with
              | st xs => cases hso
              | _ => rfl
          | false =>
            rw [ho, cond_false] at h
            rw [hasOwn_er] at ho
            have ho := own_nil T' ho
            have hm := g.mem s
            rw [e'] at hm
            obtain ⟨U, h, hmU, hvU, hoU, hsU, haU⟩ := subK_ok hm hcut h
            have hoU' : own U = [] := by rw [ho] at hoU; exact List.eq_nil_of_sublist_nil hoU
            have hsh : ∀ b ∈ shr U, b ∈ shrA (slot L s) := fun b hb => by rw [e']; exact hsU b hb
            have g1 := g.addRo (T := U) (D := d') hmU hoU' (fun j b hb hj => by
              have := g.dj.sh s j b (hsh b hb) hj
              rwa [e'] at this) (fun b _ => by simp [ownL]) (fun b hb => g.sees s b (hsh b hb))
            exact landT (T := U) (D := d') g1 hd hvU.symm h
        · rename_i r' p' sub ty' sn ht
          have e' := erA_ref ht
          rw [e'] at hso
          cases hk : (elemSz P ty' == some (ekOf P e)) with
          | false => rw [hk] at h; cases h
          | true =>
            rw [hk] at h
            have hk := eq_of_beq hk
            refine landRef g hd (av := .ref r' p' (some (sub.elim 0 (·.1) + l.toNat, (hh - l).toNat)) ty' false) ⟨rfl, rfl, rfl, fun _ => trivial, fun _ _ => by simp⟩ (fun L' d' hdd hkk hnv deps' t' ht' => ?_) h
            by_cases c' : r' = d'
            · subst c'; exact absurd ht' (hnv _ _)
            · obtain ⟨h1, h2, h3⟩ := hso deps' t' (hkk r' deps' t' ht' c')
              refine ⟨h1, by rw [hlen]; exact refV_cut h2 hk (by omega) (by omega) hnc, fun _ => ?_⟩
              cases hi' : isSt (get default false t' p').2 with
              | false => rfl
              | true =>
                exfalso
                cases hg : (get default false t' p').2 with
                | st xs =>
                  rw [hg] at h2
                  cases sub with
                  | none => cases h2
                  | some q => obtain ⟨_, _, _, _, _, k1, _⟩ := h2; cases k1
                | _ => rw [hg] at hi'; cases hi'
        · cases h
    · cases h
  · cases h
end Go.Tree

/- Trees of values: what the evaluator says of an operation is so. Tenth part: tuples, closures, reading. -/
namespace Go.Tree
set_option linter.unusedSectionVars false
set_option linter.unusedVariables false
set_option linter.unusedSimpArgs false
variable {P : Program} {w0 : World} {F : Fm} {nt : Nat} {H : List Value} {L : List (AV Value)} {XD : List Nat} {X : List LT} {a : Act} {w : World} {α : Type} {res : α}
variable [Pol]

theorem valOf_deaden {T : LT} : valOf (deaden T) = valOf T := valOf_of (isSt_deaden T) (cells_deaden T)
theorem map_set_same {xs : List LT} {i : Nat} {x : LT} (h : i < xs.length) (hx : valOf x = valOf (xs.getD i (.dead default))) : (xs.set i x).map valOf = xs.map valOf := by
  rw [List.map_set, hx]
  have : valOf (xs.getD i (.dead default)) = (xs.map valOf)[i]'(by simpa using h) := by simp [h]
  rw [this, List.set_getElem_self]
/-- A part of a tuple is taken out. -/
theorem tu_out (g : G P w0 F nt H L [] [] a w) {s i : Nat} {deps : List Nat} {Ts : List LT} (hs : slot L s = .tu deps Ts) (hi : i < Ts.length) :
    G P w0 F nt H ((L.map (killC s [])).set s (.tu deps (Ts.set i (deaden (Ts.getD i (.dead default)))))) deps [Ts.getD i (.dead default)] a w := by
  have hsl : s < L.length := slot_lt (by rw [hs]; simp)
  obtain ⟨A, U, B, e1, hA, _, hU, hset⟩ := split_at Ts i (.dead default) hi
  rw [hU, hset]
  have e : ∀ j, slot ((L.map (killC s [])).set s (.tu deps (A ++ deaden U :: B))) j = if s = j then .tu deps (A ++ deaden U :: B) else killC s [] (slot L j) := fun j => by
    rw [slot_set, slot_map L _ (killC_un s [])]; simp [hsl]
  have kC := kills_C s []
  have hval : ((A ++ deaden U :: B).map valOf) = Ts.map valOf := by rw [e1]; simp [valOf_deaden]
  have ho : ownL Ts = ownL A ++ (own U ++ ownL B) := by rw [e1, ownL_append]; rfl
  have ho' : ownL (A ++ deaden U :: B) = ownL A ++ ownL B := by rw [ownL_append, ownL, own_deaden, List.nil_append]
  have hs' : ∀ b ∈ shrL (A ++ deaden U :: B), b ∈ shrL Ts := fun b hb => by
    rw [e1]
    rw [shrL_append, shrL] at hb ⊢
    simp only [List.mem_append] at hb ⊢
    exact hb.imp id (.imp (shr_deaden U b) id)
  have hsU : ∀ b ∈ shr U, b ∈ shrA (slot L s) := fun b hb => by
    rw [hs]; show b ∈ shrL Ts
    rw [e1, shrL_append, shrL]; simp [hb]
  have hoU : ∀ b ∈ own U, b ∈ ownA (slot L s) := fun b hb => by
    rw [hs]; show b ∈ ownL Ts
    rw [ho]; simp [hb]
  have hoi : ∀ j b, b ∈ ownA (slot ((L.map (killC s [])).set s (.tu deps (A ++ deaden U :: B))) j) → b ∈ ownA (slot L j) := fun j b hb => by
    rw [e] at hb
    split at hb
    · rename_i c; rw [← c, hs]
      show b ∈ ownL Ts
      have hb : b ∈ ownL (A ++ deaden U :: B) := hb
      rw [ho'] at hb; rw [ho]
      simp only [List.mem_append] at hb ⊢
      exact hb.imp id .inr
    · exact (kC.own hb).2
  have hsi : ∀ j b, b ∈ shrA (slot ((L.map (killC s [])).set s (.tu deps (A ++ deaden U :: B))) j) → b ∈ shrA (slot L j) := fun j b hb => by
    rw [e] at hb
    split at hb
    · rename_i c; rw [← c, hs]; exact hs' b hb
    · exact (kC.shr hb).2
  have hnd : (ownL A ++ (own U ++ ownL B)).Nodup := by have := g.dj.nd s; rw [hs] at this; rw [← ho]; exact this
  obtain ⟨n1, n2, n3⟩ := List.nodup_append.1 hnd
  obtain ⟨n4, n5, n6⟩ := List.nodup_append.1 n2
  have hmT : MemL w Ts := by have := g.mem s; rw [hs] at this; exact this
  have hmU : Mem w U := memL_iff.1 hmT U (by rw [e1]; simp)
  refine ⟨g.defers, g.size, by rw [List.length_set, List.length_map]; exact g.len, fun j hj => ?_, fun j v hj => ?_, fun j => ?_, ⟨hmU, trivial⟩, ⟨fun j => ?_, fun j k b h1 h2 => g.dj.dj j k b (hoi j b h1) (hoi k b h2), fun j b h1 h2 => g.dj.ss j b (hsi j b h1) (hoi j b h2), fun j k b h1 h2 => ?_, by simpa [ownL] using n4, fun j b h1 h2 => ?_, fun j b h1 h2 => ?_, fun b h1 h2 => ?_, fun j b h1 h2 => ?_⟩, fun j b hb => g.mine j b (hoi j b hb), fun b hb => ?_, g.fr, fun j b hb => g.sees j b (hsi j b hb), fun b hb => ?_⟩
  · have h := g.slots j hj
    rw [e]
    by_cases c : s = j
    · rw [if_pos c]
      rw [← c, hs] at h
      rw [← c]
      show _ = Value.tuple ((A ++ deaden U :: B).map valOf).toArray
      rw [hval]; exact h
    · rw [if_neg c]
      rcases kC (slot L j) with h1 | h1
      · rw [h1]; trivial
      · rw [h1]
        cases ev : slot L j with
        | un => trivial
        | val d t => rw [ev] at h; exact h
        | tu d t => rw [ev] at h; exact h
        | ref r p sb ty sn =>
          rw [ev] at h
          intro deps' t' ht
          rw [e] at ht
          split at ht
          · cases ht
          · exact h deps' t' (killC_val ht).1
        | adr r p =>
          rw [ev] at h
          intro deps' t' ht
          rw [e] at ht
          split at ht
          · cases ht
          · exact h deps' t' (killC_val ht).1
  · have h := g.hid j v hj
    rw [e]
    split
    · trivial
    · rcases kC (slot L (nt + j)) with h1 | h1
      · rw [h1]; trivial
      · rw [h1]; exact h
  · rw [e]
    split
    · show MemL w (A ++ deaden U :: B)
      exact memL_iff.2 fun x hx => by
        rcases List.mem_append.1 hx with h | h
        · exact memL_iff.1 hmT x (by rw [e1]; simp [h])
        · rcases List.mem_cons.1 h with h | h
          · rw [h]; exact mem_deaden U hmU
          · exact memL_iff.1 hmT x (by rw [e1]; simp [h])
    · exact kC.mem (g.mem j)
  · rw [e]
    split
    · show (ownL (A ++ deaden U :: B)).Nodup
      rw [ho']
      exact List.nodup_append.2 ⟨n1, n5, fun x hx y hy => n3 x hx y (by simp [hy])⟩
    · have := (g.dj.kill kC).nd j
      rwa [slot_map L _ (killC_un s [])] at this
  · have := g.dj.sh j k b (hsi j b h1) (hoi k b h2)
    rw [e] at h1 ⊢
    split
    · rename_i c; rw [← c, hs] at this; exact this
    · rename_i c; rw [if_neg c] at h1; rw [(kC.shr h1).1]; exact this
  · have h1 : b ∈ own U := by simpa [ownL] using h1
    have := g.dj.dj s j b (hoU b h1) (hoi j b h2)
    subst this
    rw [e, if_pos rfl] at h2
    have h2 : b ∈ ownL (A ++ deaden U :: B) := h2
    rw [ho'] at h2
    rcases List.mem_append.1 h2 with h | h
    · exact n3 b h b (by simp [h1]) rfl
    · exact n6 b h1 b h rfl
  · have h2 : b ∈ own U := by simpa [ownL] using h2
    rw [e] at h1
    split at h1
    · exact g.dj.ss s b (by rw [hs]; exact hs' b h1) (hoU b h2)
    · exact killC_deps h1 (g.dj.sh j s b (kC.shr h1).2 (hoU b h2))
  · have h1 : b ∈ shr U := by simpa [shrL] using h1
    have h2 : b ∈ own U := by simpa [ownL] using h2
    exact g.dj.ss s b (hsU b h1) (hoU b h2)
  · have h1 : b ∈ shr U := by simpa [shrL] using h1
    have := g.dj.sh s j b (hsU b h1) (hoi j b h2)
    rwa [hs] at this
  · have hb : b ∈ own U := by simpa [ownL] using hb
    exact g.mine s b (hoU b hb)
  · have hb : b ∈ shr U := by simpa [shrL] using hb
    exact g.sees s b (hsU b hb)
/-- A tuple's part. -/
theorem extract_ok (g : G P w0 F nt H L [] [] a w) {d : Option Tmp} (hd : fitD nt d = true) {s i : Nat} (hs : s < nt) {deps : List Nat} {ts : List TV} (ht : slot (L.map erA) s = .tu deps ts) {K : Env → Option α}
    (h : (bif decide (i < ts.length) then (if hasOwn (ts.getD i (.dead ())) then K (putD (((L.map erA).map (killC s [])).set s (.tu deps (ts.set i (deaden (ts.getD i (.dead ())))))) d (.val deps (ts.getD i (.dead ())))) else K (putD (L.map erA) d (.val deps (ts.getD i (.dead ()))))) else none) = some res) :
    ∃ v, (∀ w, (Instr.extract (a.eval (.tmp s)) i).run P w = .ok v w) ∧ Nxt P w0 F nt H K res (a.put d v) w := by
  rw [slot_er] at ht
  obtain ⟨Ts, e, rfl⟩ := erA_tu ht
  have hso := g.slots s hs
  rw [e] at hso
  cases hb : decide (i < (Ts.map er).length) with
  | false => rw [hb] at h; cases h
  | true =>
    rw [hb, cond_true] at h
    have hi : i < Ts.length := by simpa using hb
    have hrun : ∀ w, (Instr.extract (a.eval (.tmp s)) i).run P w = .ok (valOf (Ts.getD i (.dead default))) w := fun w => by
      have : a.tmps.getD s undef = .tuple (Ts.map valOf).toArray := hso
      rw [eval_tmp, this]
      simp [Instr.extract, hi]
    refine ⟨_, hrun, ?_⟩
    rw [getD_er] at h
    split at h
    · refine landT (tu_out g e hi) hd rfl ?_
      rw [er_deaden, ← map_set_er, map_er L (killC s []) (killC_er s [])] at h
      rw [List.map_set]
      exact h
    · rename_i ho
      rw [hasOwn_er] at ho
      have ho := own_nil (Ts.getD i (.dead default)) (by simpa using ho)
      have hin : Ts.getD i (.dead default) ∈ Ts := getD_mem hi
      have hsh : ∀ b ∈ shr (Ts.getD i (.dead default)), b ∈ shrA (slot L s) := fun b hb => by rw [e]; exact shrL_mem hin b hb
      have hmT : MemL w Ts := by have := g.mem s; rw [e] at this; exact this
      have g1 := g.addRo (T := Ts.getD i (.dead default)) (D := deps) (memL_iff.1 hmT _ hin) ho (fun j b hb hj => by
        have := g.dj.sh s j b (hsh b hb) hj
        rwa [e] at this) (fun b _ => by simp [ownL]) (fun b hb => g.sees s b (hsh b hb))
      exact landT g1 hd rfl h
/-- The operands that are read, among those that are lent. -/
def Rd (a : Act) : List (TypeId × Operand) → List Bool → List LT → List LT → Prop
  | [], _, _, Ts => Ts = []
  | (ty, x) :: rest, ws, Us, T :: Ts => (ws.headD false = true ∧ ∃ Us', Us = T :: Us' ∧ Rd a rest ws.tail Us' Ts) ∨ (ws.headD false = false ∧ a.eval x = valOf T ∧ own T = [] ∧ Rd a rest ws.tail Us Ts)
  | _ :: _, _, _, [] => False
theorem reads_ok (g : G P w0 F nt H L XD X a w) : ∀ (args : List (TypeId × Operand)) (ws : List Bool) (Us : List LT) (K : List Nat → List TV → Option α), args.all (fun q => fitO nt q.2) = true → reads P (L.map erA) ws args (Us.map er) K = some res →
    ∃ (D : List Nat) (Ts Ro : List LT), K D (Ts.map er) = some res ∧ Rd a args ws Us Ts ∧ (∀ T ∈ Ts, T ∈ Us ∨ T ∈ Ro) ∧ (∀ T ∈ Ro, Mem w T ∧ own T = [] ∧ (∀ j b, b ∈ shr T → b ∈ ownA (slot L j) → j ∈ D) ∧ (∀ b ∈ shr T, b ∉ ownL X) ∧ (∀ b ∈ shr T, Bs F w0 b)) ∧ (ownL Ts).Sublist (ownL Us)
  | [], ws, Us, K, _, h => ⟨[], [], [], by simpa [reads] using h, rfl, fun T h => (by cases h), fun T h => (by cases h), by simp [ownL]⟩
  | (ty, x) :: rest, ws, Us, K, hf, h => by
    simp only [List.all_cons, Bool.and_eq_true] at hf
    simp only [reads] at h
    cases hw : ws.headD false with
    | true =>
      rw [hw, cond_true] at h
      cases Us with
      | nil => cases h
      | cons U Us =>
        obtain ⟨D, Ts, Ro, h1, h2, h3, h5, h4⟩ := reads_ok g rest ws.tail Us _ hf.2 h
        refine ⟨D, U :: Ts, Ro, h1, .inl ⟨hw, Us, rfl, h2⟩, fun T hT => ?_, h5, by simpa [ownL] using h4⟩
        rcases List.mem_cons.1 hT with h | h
        · exact .inl (by simp [h])
        · exact (h3 T h).imp (List.mem_cons_of_mem _) id
    | false =>
      rw [hw, cond_false] at h
      obtain ⟨D, T, h, hmT, hvT, ha, hX, hs, hB⟩ := lookO_ok g hf.1 h
      obtain ⟨D2, Ts, Ro, h1, h2, h3, h5, h4⟩ := reads_ok g rest ws.tail Us _ hf.2 h
      refine ⟨_, roTop T :: Ts, roTop T :: Ro, by rw [List.map_cons, ← er_roTop]; exact h1, .inr ⟨hw, by rw [valOf_roTop]; exact hvT, own_roTop T, h2⟩, fun T' hT => ?_, fun T' hT => ?_, by simpa [ownL, own_roTop] using h4⟩
      · rcases List.mem_cons.1 hT with h | h
        · exact .inr (by simp [h])
        · exact (h3 T' h).imp id (List.mem_cons_of_mem _)
      · rcases List.mem_cons.1 hT with h | h
        · subst h
          refine ⟨mem_roTop T hmT, own_roTop T, fun j b hb hj => ?_, fun b hb => hX b (by rwa [shr_roTop] at hb), fun b hb => hB b (by rwa [shr_roTop] at hb)⟩
          rw [shr_roTop] at hb
          exact List.mem_append.2 (.inl (ha j b hb hj))
        · obtain ⟨k1, k2, k3, k4, k5⟩ := h5 T' h
          exact ⟨k1, k2, fun j b hb hj => List.mem_append.2 (.inr (k3 j b hb hj)), k4, k5⟩
/-- A closure is made. -/
theorem makeFunc_ok (g : G P w0 F nt H L [] [] a w) {d : Option Tmp} (hd : fitD nt d = true) {f : FuncId} {caps : Array Operand} (hf : caps.toList.all (fitO nt) = true) {K : Env → Option α}
    (h : reads P (L.map erA) [] (caps.toList.map fun x => (0, x)) [] (fun deps ts => bif ts.any isStT then none else K (putD (L.map erA) d (.val deps (.cl f ts)))) = some res) :
    ∃ v, (∀ w, (Instr.makeFunc (.func f) #[] (caps.map a.eval)).run P w = .ok v w) ∧ Nxt P w0 F nt H K res (a.put d v) w := by
  obtain ⟨D, Ts, Ro, h, hrd, hTsU, hRo, hown⟩ := reads_ok g _ _ [] _ (by simpa using hf) h
  cases hst : (Ts.map er).any isStT with
  | true => rw [hst] at h; cases h
  | false =>
    rw [hst, cond_false] at h
    have hvals : ∀ (xs : List Operand) (Ts : List LT), Rd a (xs.map fun x => (0, x)) [] [] Ts → (∀ T ∈ Ts, isSt T = false) → xs.map a.eval = cellsL Ts := by
      intro xs
      induction xs with
      | nil => intro Ts h _; cases h; rfl
      | cons x xs ih =>
        intro Ts h hT
        cases Ts with
        | nil => cases h
        | cons T Ts =>
          rcases h with ⟨h, _⟩ | ⟨_, h1, _, h2⟩
          · cases h
          · rw [List.map_cons, ih Ts h2 (fun T' h' => hT T' (List.mem_cons_of_mem _ h')), cellsL, cells_one (hT T List.mem_cons_self), h1]; rfl
    have hTs' := fun T hT => hRo T ((hTsU T hT).resolve_left (by simp))
    have hv := hvals caps.toList Ts hrd (fun T hT => by
      have := List.any_eq_false.1 hst (er T) (List.mem_map.2 ⟨T, hT, rfl⟩)
      rw [isSt_er] at this
      simpa using this)
    have ho : ownL Ts = [] := List.eq_nil_of_sublist_nil (by simpa [ownL] using hown)
    have hsm : ∀ b, b ∈ shrL Ts → ∃ T ∈ Ts, b ∈ shr T := fun b hb => by rw [shrL_eq] at hb; simpa using hb
    have g1 := g.addRo (T := .cl f Ts) (D := D) (memL_iff.2 fun T hT => (hTs' T hT).1) ho (fun j b hb hj => by
      obtain ⟨T, hT, hb⟩ := hsm b hb
      exact (hTs' T hT).2.2.1 j b hb hj) (fun b _ => by simp [ownL]) (fun b hb => by
      obtain ⟨T, hT, hb⟩ := hsm b hb
      exact (hTs' T hT).2.2.2.2 b hb)
    refine ⟨_, fun _ => rfl, landT g1 hd ?_ (by rw [er_cl]; exact h)⟩
    show Value.func (.func f) #[] (caps.map a.eval) = Value.func (.func f) #[] (cellsL Ts).toArray
    rw [← hv]
    congr 1
    apply Array.ext'
    simp
end Go.Tree

/- Trees of values: calls: arguments are lent and read; what came of them is put back. -/
namespace Go.Tree
set_option linter.unusedSectionVars false
set_option linter.unusedVariables false
set_option linter.unusedSimpArgs false
variable {P : Program} {w0 : World} {F : Fm} {nt : Nat} {H : List Value} {L : List (AV Value)} {XD : List Nat} {X : List LT} {a : Act} {w : World} {α : Type} {res : α}
variable [Pol]

abbrev Lp := Nat × List Stp × TypeId × Bool
theorem farP_symm {q q' : Nat × List Stp} (h : farP q q' = true) : farP q' q = true := by
  rcases farP_spec h with h | ⟨h1, h2⟩
  · simp [farP, Ne.symm h]
  · simp [farP, h1, h2]
/-- The places of what is lent. -/
def Plcs (sm : Bool) (L : List (AV Value)) : List Lp → List LT → Prop
  | [], Us => Us = []
  | (r, p, _, _) :: pl, U :: Us => Pl L (r, p) (valOf U) ∧ Qt L (r, p) ∧ (sm = false → isSt U = false) ∧ (∀ e ∈ pl, farP (r, p) (e.1, e.2.1) = true) ∧ Plcs sm L pl Us
  | _ :: _, [] => False
/-- The operands that are lent. -/
def Ln (a : Act) : List (TypeId × Operand) → List Bool → List Bool → List Lp → List LT → Prop
  | [], _, _, pl, Us => pl = [] ∧ Us = []
  | (ty, x) :: rest, ws, cs, pl, Us => (ws.headD false = true ∧ ∃ e pl' U Us', pl = e :: pl' ∧ Us = U :: Us' ∧ e.2.2.2 = cs.headD false ∧ a.eval x = valOf U ∧ Ln a rest ws.tail cs.tail pl' Us') ∨ (ws.headD false = false ∧ Ln a rest ws.tail cs.tail pl Us)
theorem Plcs.mono {sm : Bool} {L L' : List (AV Value)} : ∀ {pl : List Lp} {Us : List LT}, Plcs sm L pl Us → (∀ e ∈ pl, ∀ v, Pl L (e.1, e.2.1) v → Pl L' (e.1, e.2.1) v) → (∀ q, Qt L q → Qt L' q) → Plcs sm L' pl Us
  | [], Us, h, _, _ => h
  | (r, p, ty, us) :: pl, U :: Us, h, h1, h2 => ⟨h1 _ List.mem_cons_self _ h.1, h2 _ h.2.1, h.2.2.1, h.2.2.2.1, h.2.2.2.2.mono (fun e he => h1 e (List.mem_cons_of_mem _ he)) h2⟩
  | _ :: _, [], h, _, _ => h
/-- One slot's value is lent. -/
theorem lend_ok {sm : Bool} (g : G P w0 F nt H L XD X a w) {s : Nat} (hs : s < nt) (hX : rootS L s ∉ XD) {K : List Nat → TV → Nat → List Stp → Env → Option α} (h : lend P sm (L.map erA) s K = some res) :
    ∃ D U r p L', K D (er U) r p (L'.map erA) = some res ∧ G P w0 F nt H L' (XD ++ D) (X ++ [U]) a w ∧ a.eval (.tmp s) = valOf U ∧ (sm = false → isSt U = false) ∧ Pl L' (r, p) (valOf U) ∧ Qt L' (r, p) ∧ (∀ q v, farP (r, p) q = true → Pl L q v → Pl L' q v) ∧ (∀ q, Qt L q → Qt L' q) := by
  have hso := g.slots s hs
  unfold lend at h
  rw [slot_er] at h
  split at h
  · rename_i deps t ht
    obtain ⟨T, e, rfl⟩ := erA_val ht
    have hm := g.mem s
    rw [e] at hso hm
    split at h
    · rename_i hc
      simp only [Bool.and_eq_true] at hc
      rw [rootS, e] at hX
      have hst : sm = false → isSt T = false := fun h0 => isBox_st (by simpa [h0] using hc.2)
      have g1 := take_core (p := []) (u' := T) (T' := deaden T) g e hX (Vk.refl T) hm trivial (Vk.refl T) hm rfl (by simp [Flt]) rfl
      have hsl : s < L.length := Nat.lt_of_lt_of_le hs g.len
      obtain ⟨l1, l2, l3, l4⟩ := lent_places (p := []) (U := T) (T2 := T) (T' := deaden T) hsl e (Lk.refl T) (isSt_val hm) (Vk.refl T) trivial rfl
      refine ⟨deps, T, s, [], _, ?_, g1, hso, hst, l1, l2, l3, l4⟩
      rw [← killC_map_er, ← er_deaden]; exact h
    · cases h
  · rename_i r p ty sn ht
    have e := erA_ref ht
    rw [slot_er] at h
    split at h
    · rename_i deps t hr
      obtain ⟨T, er', rfl⟩ := erA_val hr
      rw [e] at hso
      rw [rootS, e] at hX
      obtain ⟨hv, hrv, _⟩ := hso deps T er'
      have hm := g.mem r
      rw [er'] at hm
      obtain ⟨_, _, opq, u, h, hlk, hmu, hvk⟩ := getK_ok p false false T _ hm hv.bd h
      obtain ⟨U, h, hv', hmU⟩ := lay_ok hmu h
      have evu : valOf U = valOf (get default false T p).2 := by rw [hv'.lk.valOf, hlk.valOf]
      split at h
      · rename_i hc
        simp only [Bool.and_eq_true] at hc
        have hst : sm = false → isSt U = false := fun h0 => isBox_st (by simpa [h0] using hc.2)
        rw [er_deaden] at h
        obtain ⟨T2, T', h, h2, h3, h4, h5, h6, h7, h8, h9⟩ := putK_ok (deaden U) p false T _ hm hv.bd (fun h => by cases h) h
        have hg := h2.get hv
        have h0 : (get default false T p).1 = false := by rw [← hg.1]; exact h7
        rw [h0] at hv'
        have g1 := take_core g er' hX h2 h3 h4 ((hvk h0).trans hv') hmU h5 h9 h7
        have hrl : r < L.length := slot_lt (by rw [er']; simp)
        obtain ⟨l1, l2, l3, l4⟩ := lent_places hrl er' (hlk.trans hv'.lk) (isSt_val hmU) h2 h4 h5
        refine ⟨deps, U, r, p, _, ?_, g1, ?_, hst, l1, l2, l3, l4⟩
        · rw [← killC_map_er]; exact h
        · rw [eval_tmp, evu]; exact hrv
      · cases h
    · cases h
  · cases h
/-- Arguments are lent. -/
theorem lends_ok {sm : Bool} : ∀ (args : List (TypeId × Operand)) (ws cs : List Bool) (pls : List (Nat × List Stp)) {XD : List Nat} {X : List LT} {L : List (AV Value)} (g : G P w0 F nt H L XD X a w) {K : List Nat → List Lp → List TV → Env → Option α}, args.all (fun q => fitO nt q.2) = true → lends P sm XD pls (L.map erA) ws cs args K = some res →
    ∃ (D : List Nat) (pl : List Lp) (Us : List LT) (L' : List (AV Value)), K D pl (Us.map er) (L'.map erA) = some res ∧ G P w0 F nt H L' D (X ++ Us) a w ∧ Ln a args ws cs pl Us ∧ Plcs sm L' pl Us ∧ (∀ q ∈ pls, ∀ v, Pl L q v → Pl L' q v) ∧ (∀ q, Qt L q → Qt L' q) ∧ (∀ e ∈ pl, ∀ q ∈ pls, farP q (e.1, e.2.1) = true)
  | [], ws, cs, pls, XD, X, L, g, K, _, h => ⟨XD, [], [], L, by simpa [lends] using h, by simpa using g, ⟨rfl, rfl⟩, rfl, fun q _ v h => h, fun q h => h, fun e he => by cases he⟩
  | (ty, x) :: rest, ws, cs, pls, XD, X, L, g, K, hf, h => by
    simp only [List.all_cons, Bool.and_eq_true] at hf
    simp only [lends] at h
    cases hw : ws.headD false with
    | false =>
      rw [hw, cond_false] at h
      obtain ⟨D, pl, Us, L', h1, h2, h3, h4⟩ := lends_ok rest ws.tail cs.tail pls g hf.2 h
      exact ⟨D, pl, Us, L', h1, h2, .inr ⟨hw, h3⟩, h4⟩
    | true =>
      rw [hw, cond_true] at h
      cases x with
      | tmp s =>
        simp only at h
        cases hb : XD.any (rootOf (L.map erA) (.tmp s)) with
        | true => rw [hb] at h; cases h
        | false =>
          rw [hb, cond_false] at h
          obtain ⟨D, U, r, p, L1, h, g1, hv, hst, l1, l2, l3, l4⟩ := lend_ok g (by simpa [fitO] using hf.1) (rootOf_spec rfl hb) h
          cases hfar : pls.all (farP (r, p)) with
          | false => rw [hfar] at h; cases h
          | true =>
            rw [hfar, cond_true] at h
            have hfar := List.all_eq_true.1 hfar
            obtain ⟨D2, pl, Us, L2, h, g2, h3, h4, h5, h6, h7⟩ := lends_ok rest ws.tail cs.tail ((r, p) :: pls) g1 hf.2 h
            refine ⟨D2, (r, p, ty, cs.headD false) :: pl, U :: Us, L2, by rw [List.map_cons]; exact h, by simpa using g2, .inl ⟨hw, _, pl, U, Us, rfl, rfl, rfl, hv, h3⟩, ⟨h5 _ List.mem_cons_self _ l1, h6 _ l2, hst, fun e he => h7 e he _ List.mem_cons_self, h4⟩, fun q hq v hp => ?_, fun q hq => h6 q (l4 q hq), fun e he q hq => ?_⟩
            · exact h5 q (List.mem_cons_of_mem _ hq) v (l3 q v (hfar q hq) hp)
            · rcases List.mem_cons.1 he with he | he
              · rw [he]; exact farP_symm (hfar q hq)
              · exact h7 e he q (List.mem_cons_of_mem _ hq)
      | const => cases h
      | global => cases h
      | func => cases h
mutual
/-- What may lead to nobody else's memory does not. -/
theorem hasRo_shr : ∀ (T : LT), Mem w T → hasRo (er T) = false → shr T = []
  | .fl v, _, _ => rfl
  | .st xs, hm, h => by
    rw [er_st] at h
    exact hasRoL_shr xs hm h
  | .sl ro k hd xs, hm, h => by
    rw [er_sl] at h
    simp only [hasRo, Bool.or_eq_false_iff] at h
    obtain ⟨rfl, hk⟩ := h
    simp only [shr, Bool.false_eq_true, if_false]
    exact (all_nilL fun x hx => (hm.2.1 x hx).2 hk).2
  | .pt ro hd x, hm, h => by
    rw [er_pt] at h
    simp only [hasRo, Bool.or_eq_false_iff] at h
    obtain ⟨rfl, hx⟩ := h
    simp only [shr, Bool.false_eq_true, if_false]
    exact hasRo_shr x hm.2 hx
  | .cl f xs, hm, h => by
    rw [er_cl] at h
    exact hasRoL_shr xs hm h
  | .dead v, _, _ => rfl
theorem hasRoL_shr : ∀ (Ts : List LT), MemL w Ts → hasRoL (Ts.map er) = false → shrL Ts = []
  | [], _, _ => rfl
  | x :: xs, hm, h => by
    simp only [List.map_cons, hasRoL, Bool.or_eq_false_iff] at h
    rw [shrL, hasRo_shr x hm.1 h.1, hasRoL_shr xs hm.2 h.2]; rfl
end
/-- What came of what was lent. -/
def Bk : List Lp → List LT → List LT → Prop
  | [], _, Vs => Vs = []
  | e :: pl, U :: Us, Vs => (e.2.2.2 = true ∧ Bk pl Us Vs) ∨ (e.2.2.2 = false ∧ ∃ V Vs', Vs = V :: Vs' ∧ valOf V = valOf U ∧ Bk pl Us Vs')
  | _ :: _, [], _ => False
theorem G.perm (g : G P w0 F nt H L XD X a w) {X' : List LT} (h : X'.Perm X) : G P w0 F nt H L XD X' a w := by
  have ho : (ownL X').Perm (ownL X) := by rw [ownL_eq, ownL_eq]; exact h.flatMap_right own
  have hs : (shrL X').Perm (shrL X) := by rw [shrL_eq, shrL_eq]; exact h.flatMap_right shr
  exact g.swap (memL_iff.2 fun x hx => memL_iff.1 g.memX x (h.mem_iff.1 hx)) (ho.nodup_iff.2 g.dj.xn) (fun b hb => ho.mem_iff.1 hb) (fun b hb => hs.mem_iff.1 hb)
theorem backs_ok {sm : Bool} {D : List Nat} : ∀ (pl : List Lp) (Us Vs : List LT) {X : List LT} {L : List (AV Value)} (g : G P w0 F nt H L D (Vs ++ X) a w) {K : Env → Option α}, Plcs sm L pl Us → Bk pl Us Vs → backs P (L.map erA) D pl (Vs.map er) K = some res →
    ∃ L', K (L'.map erA) = some res ∧ G P w0 F nt H L' D X a w
  | [], Us, Vs, X, L, g, K, hp, hb, h => by
    have hb : Vs = [] := hb
    subst hb
    exact ⟨L, by simpa [backs, mNil] using h, by simpa using g⟩
  | e :: pl, [], Vs, X, L, g, K, hp, hb, h => hb.elim
  | (r, p, ty, used) :: pl, U :: Us, Vs, X, L, g, K, hp, hb, h => by
    obtain ⟨hp1, hp2, hst, hfar, hp3⟩ := hp
    simp only [backs] at h
    rcases hb with ⟨hu, hb⟩ | ⟨hu, V, Vs', rfl, hvv, hb⟩
    · have hu : used = true := hu
      rw [hu, cond_true] at h
      exact backs_ok pl Us Vs g hp3 hb h
    · have hu : used = false := hu
      rw [hu, cond_false] at h
      simp only [List.map_cons, mCons] at h
      rw [slot_er] at h
      split at h
      · rename_i deps t ht
        obtain ⟨T, e, rfl⟩ := erA_val ht
        have hmV : Mem w V := g.memX.1
        obtain ⟨V', h, hvk, hmV'⟩ := view_ok _ hmV h
        have h : (bif !(isBox (er V') || isStT (er V')) then none else _) = some res := h
        cases hbx : (isBox (er V') || isStT (er V')) with
        | false => rw [hbx] at h; cases h
        | true =>
        rw [hbx] at h
        simp only [Bool.not_true, cond_false] at h
        have hD : ∀ j b, b ∈ shr V' → b ∈ ownA (slot L j) → j ∈ (if hasRo (er V') then D else []) := fun j b hb hj => by
          cases hr : hasRo (er V') with
          | true =>
            simp only [if_true]
            rw [hvk.wr.2] at hb
            exact g.dj.xd j b (by simp [shrL, hb]) hj
          | false => rw [hasRo_shr V' hmV' hr] at hb; cases hb
        generalize hD' : (if hasRo (er V') = true then D else []) = D' at h hD
        cases hc : D'.contains r with
        | true => rw [hc] at h; cases h
        | false =>
          rw [hc, cond_false] at h
          have hm := g.mem r
          rw [e] at hm
          obtain ⟨hv1, hv2, hv3⟩ := hp1 deps T e
          obtain ⟨T2, T', h, h2, h3, h4, h5, h6, h7, h8, h9⟩ := putB_ok V' p false T _ hm hv1.bd (fun h => by cases h) h
          have g1 : G P w0 F nt H L D (V :: (Vs' ++ X)) a w := g
          obtain ⟨g2, k1, k2⟩ := back_core g1 e (by rw [hvv]; exact hp1) hp2 (isSt_val hmV) hvk hmV' hD (by simpa using hc) h2 h3 h4 h5 h7 h9
          have hset : (L.map erA).set r (.val (deps ++ D') (er T')) = (L.set r (.val (deps ++ D') T')).map erA := by rw [List.map_set]; rfl
          rw [hset] at h
          exact backs_ok pl Us Vs' g2 (hp3.mono (fun e' he v => k1 _ v (hfar e' he)) k2) hb h
      · cases h
end Go.Tree

/- Trees of values: a call does what its contract says. -/
namespace Go.Tree
set_option linter.unusedSectionVars false
set_option linter.unusedVariables false
set_option linter.unusedSimpArgs false
variable {P : Program} {w0 : World} {F : Fm} {nt : Nat} {H : List Value} {L : List (AV Value)} {XD : List Nat} {X : List LT} {a : Act} {w : World} {α : Type} {res : α}
variable [Pol]

/-- Arguments as a function wants them: what is not lent is for reading alone; what is lent is no struct. -/
def Wm (sm : Bool) : List Bool → List LT → Prop
  | _, [] => True
  | ws, T :: Ts => (ws.headD false = false → own T = []) ∧ (ws.headD false = true → sm = false → isSt T = false) ∧ Wm sm ws.tail Ts
/-- What came of the arguments that were lent and not used up. -/
def Lent : List Bool → List Bool → List LT → List LT → Prop
  | _, _, [], Vs => Vs = []
  | ws, cs, T :: Ts, Vs => (ws.headD false = true ∧ cs.headD false = false ∧ ∃ V Vs', Vs = V :: Vs' ∧ valOf V = valOf T ∧ Lent ws.tail cs.tail Ts Vs') ∨ ((ws.headD false = false ∨ cs.headD false = true) ∧ Lent ws.tail cs.tail Ts Vs)
def retV : List LT → Value
  | [T] => valOf T
  | Rs => .tuple (Rs.map valOf).toArray
/-- What a call leaves. -/
def Post (sg : Sig) (Ts : List LT) (w : World) (r : Res) (v : Value) (w' : World) : Prop :=
  ∃ Rs Vs, Rs.map er = r.1 ∧ Vs.map er = r.2 ∧ v = retV Rs ∧ MemL w' (Rs ++ Vs) ∧ (ownL (Rs ++ Vs)).Nodup ∧ (∀ b ∈ shrL (Rs ++ Vs), b ∉ ownL (Rs ++ Vs)) ∧ (∀ b ∈ ownL (Rs ++ Vs), b ∈ ownL Ts ∨ w.heap.size ≤ b) ∧
    (∀ b ∈ shrL (Rs ++ Vs), b ∈ shrL Ts ∨ b ∈ ownL Ts ∨ w.heap.size ≤ b) ∧ Fr w (ownL Ts) w' ∧ Lent sg.wm sg.cm Ts Vs
/-- The contract of all calls. -/
def CallsOk (P : Program) (sig : FuncId → Sig) (call : FuncId → List TV → Option Res) : Prop :=
  ∀ (f : FuncId) (Ts : List LT) (w : World) (r : Res), call f (Ts.map er) = some r → MemL w Ts → (ownL Ts).Nodup → (∀ b ∈ shrL Ts, b ∉ ownL Ts) → Wm (sig f).sm (sig f).wm Ts →
    Calls P f (Ts.map valOf).toArray w fun | .returned v, w' => Post (sig f) Ts w r v w' | _, _ => False

theorem rd_vals : ∀ (args : List (TypeId × Operand)) (ws cs : List Bool) (pl : List Lp) (Us Ts : List LT), Rd a args ws Us Ts → Ln a args ws cs pl Us → args.map (fun q => a.eval q.2) = Ts.map valOf
  | [], _, _, _, _, Ts, h, _ => by have h : Ts = [] := h; rw [h]; rfl
  | (ty, x) :: rest, ws, cs, pl, Us, [], h, _ => h.elim
  | (ty, x) :: rest, ws, cs, pl, Us, T :: Ts, h, hl => by
    rcases h with ⟨hw, Us', rfl, h⟩ | ⟨hw, hv, _, h⟩
    · rcases hl with ⟨_, e, pl', U, Us2, rfl, he, _, hv, hl⟩ | ⟨hw', _⟩
      · cases he
        rw [List.map_cons, List.map_cons, rd_vals rest _ _ _ _ Ts h hl, hv]
      · rw [hw] at hw'; cases hw'
    · rcases hl with ⟨hw', _⟩ | ⟨_, hl⟩
      · rw [hw] at hw'; cases hw'
      · rw [List.map_cons, List.map_cons, rd_vals rest _ _ _ _ Ts h hl, hv]
theorem rd_wm {sm : Bool} : ∀ (args : List (TypeId × Operand)) (ws cs : List Bool) (pl : List Lp) (Us Ts Cs : List LT), Rd a args ws Us Ts → Ln a args ws cs pl Us → Plcs sm L pl Us → ws.length ≤ args.length → ownL Cs = [] → Wm sm ws (Ts ++ Cs)
  | [], ws, _, _, _, Ts, Cs, h, _, _, hn, hC => by
    have h : Ts = [] := h
    have hw : ws = [] := List.length_eq_zero_iff.1 (by simpa using hn)
    subst h hw
    rw [List.nil_append]
    clear hn
    induction Cs with
    | nil => trivial
    | cons C Cs ih =>
      simp only [ownL, List.append_eq_nil_iff] at hC
      exact ⟨fun _ => hC.1, (fun h => by cases h), ih hC.2⟩
  | (ty, x) :: rest, ws, cs, pl, Us, [], Cs, h, _, _, _, _ => h.elim
  | (ty, x) :: rest, ws, cs, pl, Us, T :: Ts, Cs, h, hl, hp, hn, hC => by
    have hn' : ws.tail.length ≤ rest.length := by simp at hn ⊢; omega
    rcases h with ⟨hw, Us', rfl, h⟩ | ⟨hw, hv, ho, h⟩
    · rcases hl with ⟨_, e, pl', U, Us2, rfl, he, _, hv, hl⟩ | ⟨hw', _⟩
      · cases he
        obtain ⟨r, p, ty', us⟩ := e
        exact ⟨(fun h => by rw [hw] at h; cases h), fun _ => hp.2.2.1, rd_wm rest _ _ _ _ Ts Cs h hl hp.2.2.2.2 hn' hC⟩
      · rw [hw] at hw'; cases hw'
    · rcases hl with ⟨hw', _⟩ | ⟨_, hl⟩
      · rw [hw] at hw'; cases hw'
      · exact ⟨fun _ => ho, (fun h => by rw [hw] at h; cases h), rd_wm rest _ _ _ _ Ts Cs h hl hp hn' hC⟩
theorem lent_nil : ∀ (cs : List Bool) (Ts Vs : List LT), Lent [] cs Ts Vs → Vs = []
  | _, [], _, h => h
  | cs, T :: Ts, Vs, h => by
    rcases h with ⟨h, _⟩ | ⟨_, h⟩
    · cases h
    · exact lent_nil cs.tail Ts Vs h
theorem lent_bk : ∀ (args : List (TypeId × Operand)) (ws cs : List Bool) (pl : List Lp) (Us Ts Cs Vs : List LT), Rd a args ws Us Ts → Ln a args ws cs pl Us → ws.length ≤ args.length → Lent ws cs (Ts ++ Cs) Vs → Bk pl Us Vs
  | [], ws, cs, pl, Us, Ts, Cs, Vs, h, hl, hn, hV => by
    have h : Ts = [] := h
    have hw : ws = [] := List.length_eq_zero_iff.1 (by simpa using hn)
    obtain ⟨rfl, rfl⟩ := hl
    subst h hw
    exact lent_nil _ _ _ hV
  | (ty, x) :: rest, ws, cs, pl, Us, [], Cs, Vs, h, _, _, _ => h.elim
  | (ty, x) :: rest, ws, cs, pl, Us, T :: Ts, Cs, Vs, h, hl, hn, hV => by
    have hn' : ws.tail.length ≤ rest.length := by simp at hn ⊢; omega
    rcases h with ⟨hw, Us', rfl, h⟩ | ⟨hw, hv, ho, h⟩
    · rcases hl with ⟨_, e, pl', U, Us2, rfl, he, hu, hv, hl⟩ | ⟨hw', _⟩
      · cases he
        rcases hV with ⟨_, hc, V, Vs', rfl, k1, k3⟩ | ⟨hc, k3⟩
        · exact .inr ⟨by rw [hu, hc], V, Vs', rfl, k1, lent_bk rest _ _ _ _ Ts Cs Vs' h hl hn' k3⟩
        · rcases hc with hc | hc
          · rw [hw] at hc; cases hc
          · exact .inl ⟨by rw [hu, hc], lent_bk rest _ _ _ _ Ts Cs Vs h hl hn' k3⟩
      · rw [hw] at hw'; cases hw'
    · rcases hl with ⟨hw', _⟩ | ⟨_, hl⟩
      · rw [hw] at hw'; cases hw'
      · rcases hV with ⟨hw', _⟩ | ⟨_, k3⟩
        · rw [hw] at hw'; cases hw'
        · exact lent_bk rest _ _ _ _ Ts Cs Vs h hl hn' k3
/-- What has been taken out is laid open. -/
theorem G.view {T T' : LT} {ro : Bool} (g : G P w0 F nt H L XD (X ++ [T]) a w) (hv : Vk ro T T') (hm : Mem w T') : G P w0 F nt H L XD (X ++ [T']) a w := by
  cases ro with
  | false => exact g.less hm (by rw [hv.wr.1]; exact List.Sublist.refl _) (fun b hb => by rwa [hv.wr.2] at hb)
  | true =>
    have eo : ∀ x : LT, ownL (X ++ [x]) = ownL X ++ own x := fun x => by simp [ownL_append, ownL]
    have es : ∀ x : LT, shrL (X ++ [x]) = shrL X ++ shr x := fun x => by simp [shrL_append, shrL]
    have hn := g.dj.xn
    rw [eo] at hn
    obtain ⟨n1, n2, n3⟩ := List.nodup_append.1 hn
    have e0 : ownL (X ++ [T']) = ownL X := by rw [eo, hv.rd.1, List.append_nil]
    have hs : ∀ b ∈ shrL (X ++ [T']), b ∈ shrL (X ++ [T]) ∨ b ∈ own T := fun b hb => by
      rw [es, List.mem_append] at hb
      rw [es, List.mem_append]
      rcases hb with hb | hb
      · exact .inl (.inl hb)
      · rw [hv.rd.2] at hb
        rcases all_of T hb with h | h
        · exact .inr h
        · exact .inl (.inr h)
    have hX : ∀ b, b ∈ ownL X → b ∈ ownL (X ++ [T]) := fun b hb => by rw [eo]; simp [hb]
    refine g.flight' (memL_iff.2 fun x hx => ?_) (by rw [e0]; exact n1) (fun b hb => .inl (hX b (by rwa [e0] at hb))) (fun b hb => ?_) (fun b hb hb' => ?_) (fun _ _ _ => rfl) (Nat.le_refl _) rfl rfl rfl
    · rcases List.mem_append.1 hx with h | h
      · exact memL_iff.1 g.memX x (by simp [h])
      · rw [List.mem_singleton.1 h]; exact hm
    · rcases hs b hb with h | h
      · exact .inl h
      · exact .inr (.inl (by rw [eo]; simp [h]))
    · rw [e0] at hb'
      rcases hs b hb with h | h
      · exact g.dj.xx b h (hX b hb')
      · exact n3 b hb' b h rfl
theorem viewAll_ok : ∀ (tys : List TypeId) (rm : List Bool) (Rs : List LT) {X : List LT} (g : G P w0 F nt H L XD (X ++ Rs) a w) {K : List TV → Option α}, viewAll P rm tys (Rs.map er) K = some res →
    ∃ Rs', K (Rs'.map er) = some res ∧ G P w0 F nt H L XD (X ++ Rs') a w ∧ Rs'.map valOf = Rs.map valOf
  | [], rm, Rs, X, g, K, h => by
    cases Rs with
    | nil => exact ⟨[], by simpa [viewAll, mNil] using h, g, rfl⟩
    | cons => simp [viewAll, mNil] at h
  | ty :: tys, rm, Rs, X, g, K, h => by
    cases Rs with
    | nil => simp [viewAll, mCons] at h
    | cons T Rs =>
      simp only [viewAll, List.map_cons, mCons] at h
      have hmT : Mem w T := memL_iff.1 g.memX T (by simp)
      obtain ⟨T', h, hv, hmT'⟩ := view_ok _ hmT h
      have g1 : G P w0 F nt H L XD ((X ++ Rs) ++ [T]) a w := g.perm (by
        rw [List.append_assoc]
        exact (List.perm_append_comm (l₁ := Rs) (l₂ := [T])).append_left X)
      have g2 := g1.view hv hmT'
      have g3 : G P w0 F nt H L XD ((X ++ [T']) ++ Rs) a w := g2.perm (by
        rw [List.append_assoc, List.append_assoc]
        exact (List.perm_append_comm (l₁ := [T']) (l₂ := Rs)).append_left X)
      obtain ⟨Rs', h1, h2, h3⟩ := viewAll_ok tys rm.tail Rs g3 h
      exact ⟨T' :: Rs', by rw [List.map_cons]; exact h1, by simpa using h2, by rw [List.map_cons, List.map_cons, h3, hv.lk.valOf]⟩
theorem anyRo_shr {Rs : List LT} (hm : MemL w Rs) (h : (Rs.map er).any hasRo = false) : shrL Rs = [] := by
  rw [shrL_eq]
  refine List.flatMap_eq_nil_iff.2 fun x hx => hasRo_shr x (memL_iff.1 hm x hx) ?_
  have := List.any_eq_false.1 h (er x) (List.mem_map.2 ⟨x, hx, rfl⟩)
  simpa using this
theorem retV_congr {Rs Rs' : List LT} (h : Rs'.map valOf = Rs.map valOf) : retV Rs' = retV Rs := by
  cases Rs with
  | nil => cases Rs' with
    | nil => rfl
    | cons => cases h
  | cons T Ts =>
    cases Rs' with
    | nil => cases h
    | cons T' Ts' =>
      cases Ts with
      | nil =>
        cases Ts' with
        | nil => simpa [retV] using h
        | cons => simp at h
      | cons U Us =>
        cases Ts' with
        | nil => simp at h
        | cons U' Us' => simp only [retV, h]
/-- Results come to stand in the place that a call writes. -/
theorem landRets {Rs : List LT} {d : Option Tmp} {D : List Nat} (g : G P w0 F nt H L D Rs a w) (hd : fitD nt d = true) {K : Env → Option α}
    (h : (match Rs.map er with
              | [] => K (putD (L.map erA) d .un)
              | [t] => K (putD (L.map erA) d (.val (if (Rs.map er).any hasRo then D else []) t))
              | ts => K (putD (L.map erA) d (.tu (if (Rs.map er).any hasRo then D else []) ts))) = some res) : Nxt P w0 F nt H K res (a.put d (retV Rs)) w := by
  have g0 : G P w0 F nt H L (if (Rs.map er).any hasRo then D else []) Rs a w := by
    cases hr : (Rs.map er).any hasRo with
    | true => exact g
    | false => exact g.undep fun j b hb => by rw [anyRo_shr g.memX hr] at hb; cases hb
  cases Rs with
  | nil => exact landU g.dropX hd _ h
  | cons T Ts =>
    cases Ts with
    | nil => exact landT g0 hd rfl h
    | cons U Us =>
      cases d with
      | none => exact ⟨L, g.dropX, h⟩
      | some d =>
        refine ⟨putS L d (.tu _ (T :: U :: Us)), g0.land (by simpa [fitD] using hd) rfl rfl rfl g0.memX (fun _ => rfl), ?_⟩
        rw [← putS_er]; exact h
end Go.Tree

/- Trees of values: a call, in one step. -/
namespace Go.Tree
set_option linter.unusedSectionVars false
set_option linter.unusedVariables false
set_option linter.unusedSimpArgs false
variable {P : Program} {w0 : World} {F : Fm} {nt : Nat} {H : List Value} {L : List (AV Value)} {XD : List Nat} {X : List LT} {a : Act} {w : World} {α : Type} {res : α}
variable [Pol]

/-- Arguments and captures, as a function is handed them. -/
def argVals (a : Act) (args : List (TypeId × Operand)) (Cs : List LT) : Array Value := (args.map fun q => a.eval q.2).toArray ++ (Cs.map valOf).toArray
theorem callE_ok {cx : Ctx} {call : FuncId → List TV → Option Res} (hP : cx.P = P) (hC : CallsOk P cx.sig call) (hN : ∀ (f : FuncId) (fn : Func), P.funcs[f]? = some fn → (fn.name == "runtime.NumGoroutine") = false)
    {D0 : List Nat} {X0 : List LT} (g : G P w0 F nt H L D0 X0 a w) {d : Option Tmp} (hd : fitD nt d = true) {f : FuncId} {args : List (TypeId × Operand)} (hf : args.all (fun q => fitO nt q.2) = true) {Cs : List LT} (hCm : MemL w Cs) (hCo : ownL Cs = []) (hCs : ∀ b ∈ shrL Cs, b ∈ shrL X0)
    {K : Env → Option α} (h : callE cx call (L.map erA) d f args (Cs.map er) D0 K = some res) {o : Oper} (ho : o.dst = d) (hrun : (execOp a.eval o).run P w = (callFunc f (argVals a args Cs)).run P w) {Q : Exit → Act → World → Prop} :
    o.wp P a w (Nxt P w0 F nt H K res) Q := by
  unfold callE at h
  rw [hP] at h
  split at h
  · cases h
  · rename_i fn hfn
    cases hc : (fn.body.isSome && decide ((cx.sig f).wm.length ≤ args.length)) with
    | false => rw [hc] at h; cases h
    | true =>
      rw [hc] at h
      simp only [Bool.not_true, cond_false] at h
      simp only [Bool.and_eq_true, decide_eq_true_eq] at hc
      obtain ⟨hbody, hlen⟩ := hc
      obtain ⟨D1, pl, Us, L1, h, g1, hln, hpl, _, _, _⟩ := lends_ok args _ _ [] g hf h
      obtain ⟨D2, Ts, Ro, h, hrd, hTU, hRo, hsub⟩ := reads_ok g1 args _ Us _ hf h
      obtain ⟨r, hcall, h⟩ := Option.bind_eq_some_iff.1 h
      have hvals := rd_vals args _ _ pl Us Ts hrd hln
      rw [← List.map_append] at hcall
      -- what has been taken out, with what is read
      have hshRo : ∀ b, b ∈ shrL Ro → ∃ T ∈ Ro, b ∈ shr T := fun b hb => by rw [shrL_eq] at hb; simpa using hb
      have hownRo : ownL Ro = [] := by rw [ownL_eq]; exact List.flatMap_eq_nil_iff.2 fun T hT => (hRo T hT).2.1
      have g2 := g1.addRo (T := .st Ro) (D := D2) (memL_iff.2 fun T hT => (hRo T hT).1) hownRo (fun j b hb hj => by
        obtain ⟨T, hT, hb⟩ := hshRo b hb
        exact (hRo T hT).2.2.1 j b hb hj) (fun b hb => by
        obtain ⟨T, hT, hb⟩ := hshRo b hb
        exact (hRo T hT).2.2.2.1 b hb) (fun b hb => by
        obtain ⟨T, hT, hb⟩ := hshRo b hb
        exact (hRo T hT).2.2.2.2 b hb)
      have hoX : ownL (X0 ++ Us ++ [.st Ro]) = ownL X0 ++ ownL Us := by
        rw [ownL_append, ownL_append]
        simp [ownL, own, hownRo]
      have hsX : ∀ b, b ∈ shrL X0 ∨ b ∈ shrL Us ∨ b ∈ shrL Ro → b ∈ shrL (X0 ++ Us ++ [.st Ro]) := fun b hb => by
        rw [shrL_append, shrL_append]
        simp only [shrL, shr, List.append_nil, List.mem_append]
        rcases hb with h | h | h
        · exact .inl (.inl h)
        · exact .inl (.inr h)
        · exact .inr h
      have hTo : ∀ b, b ∈ ownL (Ts ++ Cs) → b ∈ ownL Us := fun b hb => by
        rw [ownL_append, hCo, List.append_nil] at hb
        exact hsub.subset hb
      have hToX : ∀ b, b ∈ ownL (Ts ++ Cs) → b ∈ ownL (X0 ++ Us ++ [.st Ro]) := fun b hb => by rw [hoX]; exact List.mem_append.2 (.inr (hTo b hb))
      have hTs : ∀ b, b ∈ shrL (Ts ++ Cs) → b ∈ shrL (X0 ++ Us ++ [.st Ro]) := fun b hb => by
        rw [shrL_append] at hb
        rcases List.mem_append.1 hb with h | h
        · rw [shrL_eq] at h
          obtain ⟨T, hT, hb⟩ := List.mem_flatMap.1 h
          rcases hTU T hT with h | h
          · exact hsX b (.inr (.inl (shrL_mem h b hb)))
          · exact hsX b (.inr (.inr (shrL_mem h b hb)))
        · exact hsX b (.inl (hCs b h))
      have hUsn : (ownL Us).Nodup := by
        have := g2.dj.xn
        rw [hoX] at this
        exact (List.nodup_append.1 this).2.1
      have hmTC : MemL w (Ts ++ Cs) := memL_iff.2 fun T hT => by
        rcases List.mem_append.1 hT with h | h
        · rcases hTU T h with h | h
          · exact memL_iff.1 g1.memX T (by simp [h])
          · exact (hRo T h).1
        · exact memL_iff.1 hCm T h
      have hndTC : (ownL (Ts ++ Cs)).Nodup := by rw [ownL_append, hCo, List.append_nil]; exact hsub.nodup hUsn
      have hcalls := hC f (Ts ++ Cs) w r hcall hmTC hndTC (fun b hb hb' => g2.dj.xx b (hTs b hb) (hToX b hb')) (rd_wm args _ _ pl Us Ts Cs hrd hln hpl hlen hCo)
      have hav : argVals a args Cs = ((Ts ++ Cs).map valOf).toArray := by
        simp [argVals, hvals]
      have hbn : fn.body.isNone = false := by
        cases hb : fn.body with
        | none => rw [hb] at hbody; cases hbody
        | some c => rfl
      have hexec : (execOp a.eval o).run P w = .ok (.enter f ((Ts ++ Cs).map valOf).toArray) w := by
        rw [hrun, hav]
        have hne : ¬ fn.name = "runtime.NumGoroutine" := by simpa using hN f fn hfn
        have hbs : ¬ fn.body = none := by intro h; rw [h] at hbody; cases hbody
        simp [callFunc, run_program, hfn, hne, hbs]
      unfold Oper.wp
      rw [hexec, Oper.upon_enter]
      refine hcalls.mono fun e w' hpost => ?_
      cases e with
      | panicked c => exact hpost.elim
      | outgrown => exact hpost.elim
      | returned v =>
        obtain ⟨Rs, Vs, hr1, hr2, rfl, hm', hnd', hxx', ho', hs', hfr, hlent⟩ := hpost
        have hbk := lent_bk args _ _ pl Us Ts Cs Vs hrd hln hlen hlent
        have g3 : G P w0 F nt H L1 (D1 ++ D2) (Rs ++ Vs) a w' := g2.flight' hm' hnd' (fun b hb => (ho' b hb).imp (hToX b) id) (fun b hb => by
            rcases hs' b hb with h | h | h
            · exact .inl (hTs b h)
            · exact .inr (.inl (hToX b h))
            · exact .inr (.inr h)) hxx' (fun k hk hkX => hfr.block k hk fun h => hkX (hToX k h)) hfr.size hfr.os hfr.tape hfr.output
        have g4 : G P w0 F nt H L1 (D1 ++ D2) (Vs ++ Rs) a w' := g3.perm List.perm_append_comm
        rw [← hr1, ← hr2] at h
        obtain ⟨Rs', h, g5, hvR⟩ := viewAll_ok _ _ Rs g4 h
        obtain ⟨L2, h, g6⟩ := backs_ok pl Us Vs g5 hpl hbk h
        have := landRets g6 hd h
        rw [retV_congr hvR] at this
        rw [ho]
        exact this
theorem cpyT_map {β γ : Type} (f : β → γ) (xs ys : List β) : (cpyT xs ys).map f = cpyT (xs.map f) (ys.map f) := by simp [cpyT, List.map_take, List.map_drop]
theorem cpyT_len {β : Type} (xs ys : List β) : (cpyT xs ys).length = xs.length := by simp [cpyT]; omega
theorem memL_flat {w w' : World} {xs : List LT} (h : MemL w xs) (ha : ∀ x ∈ xs, all x = []) : MemL w' xs :=
  MemL.congr _ (fun b hb => by
    obtain ⟨x, hx, hb⟩ := List.mem_flatMap.1 (by rwa [allL_eq] at hb)
    rw [ha x hx] at hb; cases hb) h
/-- copy. -/
theorem copyE_ok (g : G P w0 F nt H L [] [] a w) {d : Option Tmp} (hd : fitD nt d = true) {ty tr : TypeId} {x y : Operand} (hx : fitO nt x = true) (hy : fitO nt y = true) {K : Env → Option α} (h : copyE P (L.map erA) d ty x y K = some res) :
    ∃ v w', (Builtin.copy_ #[ty, ty] tr #[a.eval x, a.eval y]).run P w = .ok v w' ∧ Nxt P w0 F nt H K res (a.put d v) w' := by
  unfold copyE at h
  split at h
  · rename_i e s hu
    by_cases hc0 : P.cellsOf e = 0
    · rw [hc0] at h; cases h
    · rw [decide_eq_false hc0, cond_false] at h
      obtain ⟨D, U, r, p, L1, h, g1, hav, hst, hPl, hQt, _, _⟩ := lend_ok g (by simpa [fitO] using hx) (by simp) h
      simp only [List.nil_append] at g1
      obtain ⟨D2, V, h, hmV, hv2, _, hVX, _, _⟩ := lookO_ok g1 hy h
      split at h
      · rename_i k hh xs ro k' hh' ys hU hV
        obtain ⟨hdu, xs, rfl, rfl⟩ := er_sl_inv hU
        obtain ⟨hdv, ys, rfl, rfl⟩ := er_sl_inv hV
        cases hc : (k == ekOf P e && k' == k && !k.m) with
        | false => rw [hc] at h; cases h
        | true =>
          rw [hc, cond_true] at h
          have hB := h
          clear h
          simp only [Bool.and_eq_true, beq_iff_eq, Bool.not_eq_true'] at hc
          obtain ⟨⟨rfl, rfl⟩, hkm⟩ := hc
          obtain ⟨i, hi, hsz⟩ := info_size (n := P.cellsOf e) rfl hc0
          have hmU := g1.memX.1
          have hmU0 := hmU
          obtain ⟨⟨A, c, rfl, hc, hl, hx⟩, hk, hmx⟩ := hmU
          have hmV0 := hmV
          obtain ⟨⟨B, c2, rfl, hc2, hl2, hx2⟩, hk2, hmy⟩ := hmV
          have hkn : (ekOf P e).n = P.cellsOf e := rfl
          -- what becomes of it
          have fin : ∀ w', MemL w' [.sl false (ekOf P e) (.slice A xs.length c) (cpyT xs ys)] → (∀ b, A = none ∨ c = 0 → w' = w) → (∀ b o, A = some ⟨b, o, none⟩ → c ≠ 0 → (∀ j, j ≠ b → w'.heap[j]? = w.heap[j]?)) → w'.heap.size = w.heap.size → w'.os = w.os → w'.tape = w.tape → w'.output = w.output →
              Nxt P w0 F nt H K res (a.put d (.int .i64 ((min ys.length xs.length : Nat) : Int))) w' := fun w' hm' h0 hb hs hos htp hout => by
            have hfl : ∀ x ∈ cpyT xs ys, all x = [] := fun x hx => by
              rcases List.mem_append.1 hx with h | h
              · exact (hk2 x (List.mem_of_mem_take h)).2 hkm
              · exact (hk x (List.mem_of_mem_drop h)).2 hkm
            obtain ⟨n1, n2⟩ := all_nilL hfl
            obtain ⟨m1, m2⟩ := all_nilL (Ts := xs) (fun x hx => (hk x hx).2 hkm)
            have eo : ownL [.sl false (ekOf P e) (.slice A xs.length c) (cpyT xs ys)] = ownL [.sl false (ekOf P e) (.slice A xs.length c) xs] := by simp [ownL, own, n1, m1]
            have es : shrL [.sl false (ekOf P e) (.slice A xs.length c) (cpyT xs ys)] = [] := by simp [shrL, shr, n2]
            have g2 : G P w0 F nt H L1 D [.sl false (ekOf P e) (.slice A xs.length c) (cpyT xs ys)] a w' := g1.flight' hm' (by rw [eo]; exact g1.dj.xn) (fun b hb' => .inl (by rw [← eo]; exact hb')) (fun b hb' => by rw [es] at hb'; cases hb') (fun b hb' => by rw [es] at hb'; cases hb') (fun j hj hjX => by
              by_cases hA : A = none ∨ c = 0
              · rw [h0 0 hA]
              · have hcn : c ≠ 0 := fun h => hA (.inr h)
                obtain ⟨b, o, rfl, _⟩ := hx hcn
                refine hb b o rfl hcn j fun e => hjX ?_
                rw [e]
                simp [ownL, own, blk_row, hcn]) (by rw [hs]; exact Nat.le_refl _) hos htp hout
            have hb1 : backs P (L1.map erA) D [(r, p, ty, false)] (List.map er [.sl false (ekOf P e) (.slice A xs.length c) (cpyT xs ys)]) (fun env => K (putD env d (.val [] (.fl (.int .i64 ((min ys.length xs.length : Nat) : Int)))))) = some res := by
              rw [List.map_cons, er_sl, cpyT_map, List.map_nil]
              simpa using hB
            obtain ⟨L2, h2, g3⟩ := backs_ok (sm := false) [(r, p, ty, false)] [.sl false (ekOf P e) (.slice A xs.length c) xs] [.sl false (ekOf P e) (.slice A xs.length c) (cpyT xs ys)] (X := []) (by simpa using g2) ⟨hPl, hQt, fun _ => rfl, fun e he => (by cases he), rfl⟩ (.inr ⟨rfl, _, [], rfl, rfl, rfl⟩) hb1
            exact landV g3.dropX hd rfl h2
          have hlt : (cellsL (ys.take (min ys.length xs.length))).length = min ys.length xs.length * P.cellsOf e := by
            rw [cellsL_len (k := P.cellsOf e) fun x hx => (hk2 x (List.mem_of_mem_take hx)).1, List.length_take]
            congr 1; omega
          have hmT : Mem w (.sl ro (ekOf P e) (.slice B (min ys.length xs.length) c2) (ys.take (min ys.length xs.length))) := by
            have hsp : cellsL ys = cellsL (ys.take (min ys.length xs.length)) ++ cellsL (ys.drop (min ys.length xs.length)) := by rw [← cellsL_append, List.take_append_drop]
            refine ⟨⟨B, c2, by rw [List.length_take]; congr 1; omega, by rw [List.length_take]; omega, by rw [hlt, List.length_take]; congr 1; omega, fun h0 => ?_⟩, fun x hx => hk2 x (List.mem_of_mem_take hx), memL_iff.2 fun x hx => memL_iff.1 hmy x (List.mem_of_mem_take hx)⟩
            obtain ⟨b, o, e1, e2, e3, e4⟩ := hx2 h0
            rw [hsp, rangeAt_append] at e3
            exact ⟨b, o, e1, e2, e3.1, e4⟩
          have hS := src_ok (P := P) hmT hu
          have hlen : (ys.take (min ys.length xs.length)).length = min ys.length xs.length := by rw [List.length_take]; omega
          have hfc : (Builtin.firstCells i.size (Nat.min ys.length xs.length) (.slice B ys.length c2)).run P w = .ok (cellsL (ys.take (min ys.length xs.length))).toArray w := by
            have := hS.cells
            rw [hlen, hkn, ← hsz] at this
            cases B <;> exact this
          by_cases hm0 : min ys.length xs.length = 0
          · have hz : cellsL (ys.take (min ys.length xs.length)) = [] := by rw [hm0]; rfl
            have hcp : cpyT xs ys = xs := by
              rcases (show ys.length = 0 ∨ xs.length = 0 by omega) with h | h
              · have : ys = [] := List.length_eq_zero_iff.1 h
                subst this; simp [cpyT]
              · have : xs = [] := List.length_eq_zero_iff.1 h
                subst this; simp [cpyT]
            rw [hz] at hfc
            refine ⟨_, w, ?_, fin w (by rw [hcp]; exact ⟨hmU0, trivial⟩) (fun _ _ => rfl) (fun _ _ _ _ _ _ => rfl) rfl rfl rfl rfl⟩
            rw [hav, hv2]
            cases A <;> simp [Builtin.copy_, valOf, run_underlying hu, Builtin.lenOf, sizeOf, typeInfo, hi, hfc, storeCells, goInt]
          · have hcn : c ≠ 0 := by omega
            obtain ⟨b, o, rfl, hblt, hr, hth⟩ := hx hcn
            have hth := hth rfl
            have hth' : w.there b o (cellsL (ys.take (min ys.length xs.length))).length := by
              have : min ys.length xs.length * P.cellsOf e ≤ c * P.cellsOf e := Nat.mul_le_mul_right _ (by omega)
              have h2 := there_sub (o' := o) (n' := (cellsL (ys.take (min ys.length xs.length))).length) hth (Nat.le_refl _) (by rw [hlt, hkn]; omega)
              exact h2
            have hone := cellsL_one' _ (memL_iff.2 fun x hx => memL_iff.1 hmy x (List.mem_of_mem_take (i := min ys.length xs.length) hx))
            have hst := run_storeCells_cells (P := P) b o (cellsL (ys.take (min ys.length xs.length))) 0 w (fun j hj => by simpa using (hth' j hj).1) (fun j hj => by simpa using (hth' j hj).2) hone
            simp only [Nat.add_zero] at hst
            refine ⟨_, w.setCells b o (cellsL (ys.take (min ys.length xs.length))), ?_, fin _ ⟨⟨⟨_, c, by rw [cpyT_len], by rw [cpyT_len]; exact hc, ?_, fun _ => ⟨b, o, rfl, by rw [setCells_size]; exact hblt, ?_, fun _ => there_setCells hth⟩⟩, ?_, ?_⟩, trivial⟩ (fun _ h => by rcases h with h | h; cases h; exact absurd h hcn) (fun b' o' h _ j hj => by cases h; exact setCells_heap _ _ _ _ _ hj) (setCells_size _ _ _ _) (setCells_os' _ _ _ _).1 (setCells_os' _ _ _ _).2.1 (setCells_os' _ _ _ _).2.2⟩
            · rw [hav, hv2]
              simp [Builtin.copy_, valOf, run_underlying hu, Builtin.lenOf, sizeOf, typeInfo, hi, hfc, hst, goInt]
            · rw [cellsL_len (k := (ekOf P e).n), cpyT_len]
              intro x hx
              rcases List.mem_append.1 hx with h | h
              · exact (hk2 x (List.mem_of_mem_take h)).1
              · exact (hk x (List.mem_of_mem_drop h)).1
            · have e1 : cpyT xs ys = ys.take (min ys.length xs.length) ++ xs.drop (min ys.length xs.length) := by
                unfold cpyT
                rcases Nat.le_total ys.length xs.length with h | h
                · rw [Nat.min_eq_left h, List.take_of_length_le h, List.take_of_length_le (Nat.le_refl _)]
                · rw [Nat.min_eq_right h, List.drop_eq_nil_of_le h, List.drop_eq_nil_of_le (Nat.le_refl _)]
              rw [e1, cellsL_append, rangeAt_append]
              refine ⟨rangeAt_there hth', ?_⟩
              have hsp : cellsL xs = cellsL (xs.take (min ys.length xs.length)) ++ cellsL (xs.drop (min ys.length xs.length)) := by rw [← cellsL_append, List.take_append_drop]
              rw [hsp, rangeAt_append] at hr
              have hlx : (cellsL (xs.take (min ys.length xs.length))).length = (cellsL (ys.take (min ys.length xs.length))).length := by
                rw [hlt, cellsL_len (k := P.cellsOf e) fun x hx => (hk x (List.mem_of_mem_take hx)).1, List.length_take]
                congr 1; omega
              rw [hlx] at hr
              exact rangeAt_setCells_out hr.2 (.inr (.inr (Nat.le_refl _)))
            · intro x hx
              rcases List.mem_append.1 hx with h | h
              · exact hk2 x (List.mem_of_mem_take h)
              · exact hk x (List.mem_of_mem_drop h)
            · refine memL_flat (w := w) (memL_iff.2 fun x hx => ?_) fun x hx => ?_
              · rcases List.mem_append.1 hx with h | h
                · exact memL_iff.1 hmy x (List.mem_of_mem_take h)
                · exact memL_iff.1 hmx x (List.mem_of_mem_drop h)
              · rcases List.mem_append.1 hx with h | h
                · exact (hk2 x (List.mem_of_mem_take h)).2 hkm
                · exact (hk x (List.mem_of_mem_drop h)).2 hkm
      · cases h
  · cases h
end Go.Tree

/- Trees of values: one operation. -/
namespace Go.Tree
set_option linter.unusedSectionVars false
set_option linter.unusedVariables false
set_option linter.unusedSimpArgs false
variable {P : Program} {w0 : World} {F : Fm} {nt : Nat} {H : List Value} {L : List (AV Value)} {XD : List Nat} {X : List LT} {a : Act} {w : World} {α : Type} {res : α}
variable [Pol]

theorem run_v {s : Sem Value} {v : Value} {w' : World} (h : s.run P w = .ok v w') : (do pure (Next.value (← s)) : Sem Next).run P w = .ok (.value v) w' := by
  simp [h]
theorem run_u {s : Sem Unit} {w' : World} (h : s.run P w = .ok () w') : (do s; pure Next.skip : Sem Next).run P w = .ok .skip w' := by
  simp [h]
/-- An operand comes to stand in the place that an operation writes. -/
theorem copyOrLook_ok (g : G P w0 F nt H L [] [] a w) {fn : Func} {ty : TypeId} {d : Option Tmp} {x : Operand} (hd : fitD nt d = true) (hx : fitO nt x = true) {K : Env → Option α}
    (h : copyL P fn ty (L.map erA) d x K = some res) : Nxt P w0 F nt H K res (a.put d (a.eval x)) w := by
  cases x with
  | tmp s =>
    cases d with
    | none =>
      obtain ⟨D, T, h, _⟩ := lookO_ok (ty := ty) g hx h
      exact ⟨L, g, h⟩
    | some d => exact copyS_ok g (by simpa [fitD] using hd) (by simpa [fitO] using hx) h
  | const v =>
    have h' : takeO P (L.map erA) ty (.const v) (fun deps t env => K (putD env d (.val deps t))) = some res := by
      simp only [copyL, lookO, takeO] at h ⊢
      split at h <;> simp_all
    obtain ⟨D, T, L', h, g', hv⟩ := takeO_ok g hx (fun s hs => by cases hs) h'
    exact landT g' hd hv h
  | func f =>
    have h' : takeO P (L.map erA) ty (.func f) (fun deps t env => K (putD env d (.val deps t))) = some res := h
    obtain ⟨D, T, L', h, g', hv⟩ := takeO_ok g hx (fun s hs => by cases hs) h'
    exact landT g' hd hv h
  | global => cases h
theorem alloc_ok (g : G P w0 F nt H L [] [] a w) {d : Option Tmp} (hd : fitD nt d = true) {e : TypeId} {z : TV} (hz : zeroT P e = some z) {K : Env → Option α} (h : K (putD (L.map erA) d (.val [] (.pt false () z))) = some res) :
    ∃ v w', (Instr.alloc e true (.tuple #[])).run P w = .ok v w' ∧ Nxt P w0 F nt H K res (a.put d v) w' := by
  obtain ⟨i, zv, Z, hi, hiz, rfl, vZ, hmZ, haZ⟩ := zeroT_ok (w := w) hz
  have g1 := g.addRo (T := Z) (D := []) hmZ (noall haZ).1 (fun j b hb => by rw [(noall haZ).2] at hb; cases hb) (fun b hb => by rw [(noall haZ).2] at hb; cases hb) (fun b hb => by rw [(noall haZ).2] at hb; cases hb)
  have hzc : zv.cells = (cells Z).toArray := by rw [← vZ, ← cells_toList hmZ]
  refine ⟨.pointer (some ⟨w.heap.size, 0, none⟩), _, ?_, landT (boxed g1 e) hd rfl h⟩
  rw [← hzc]
  simp [Instr.alloc, zeroValue, typeInfo, hi, hiz, newVar, newRow]
theorem box_ok (g : G P w0 F nt H L [] [] a w) {d : Option Tmp} (hd : fitD nt d = true) {e : TypeId} {x : Operand} (hx : fitO nt x = true) {K : Env → Option α} (h : takeO P (L.map erA) e x (fun deps t env => K (putD env d (.val deps (.pt false () t)))) = some res) :
    ∃ v w', (Instr.box e (a.eval x)).run P w = .ok v w' ∧ Nxt P w0 F nt H K res (a.put d v) w' := by
  obtain ⟨D, T, L', h, g', hv⟩ := takeO_ok g hx (fun s hs => by simp) h
  simp only [List.nil_append] at g'
  have hzc : (a.eval x).cells = (cells T).toArray := by rw [hv, ← cells_toList g'.memX.1]
  refine ⟨.pointer (some ⟨w.heap.size, 0, none⟩), _, ?_, landT (boxed g' e) hd rfl (by rw [er_pt]; exact h)⟩
  rw [← hzc]
  simp [Instr.box, newVar, newRow]
theorem load_ok (g : G P w0 F nt H L [] [] a w) {d : Option Tmp} (hd : fitD nt d = true) {ty : TypeId} {x : Operand} (hx : fitO nt x = true) {K : Env → Option α} (h : place P (L.map erA) ty x (fun r p => loadE P ty (L.map erA) d r p K) = some res) :
    ∃ v, (∀ w', Ext w w' → (Instr.loadAt ty (a.eval x)).run P w' = .ok v w') ∧ Nxt P w0 F nt H K res (a.put d v) w := by
  obtain ⟨r, q, deps, T, b, o, h, hr, ha, hpv⟩ := place_ok g hx h
  rw [hpv]
  exact loadE_ok g hd hr ha h
theorem nilCheck_ok (g : G P w0 F nt H L [] [] a w) {fn : Func} {ty : TypeId} {d s : Nat} (hd : d < nt) (hs : s < nt) {K : Env → Option α} (h : place P (L.map erA) 0 (.tmp s) (fun _ _ => copyS P fn ty (L.map erA) d s K) = some res) :
    ∃ b o, a.eval (.tmp s) = .pointer (some ⟨b, o, none⟩) ∧ Nxt P w0 F nt H K res (a.put (some d) (a.eval (.tmp s))) w := by
  obtain ⟨r, q, deps, T, b, o, h, hr, ha, hpv⟩ := place_ok g (by simpa [fitO] using hs) h
  exact ⟨b, o, hpv, copyS_ok g hd hs h⟩
/-- An address comes to stand in a slot. -/
theorem landA (g : G P w0 F nt H L [] [] a w) {d : Option Tmp} (hd : fitD nt d = true) {r : Nat} {p : List Stp} {deps : List Nat} {T : LT} {b o : Nat} (hr : slot L r = .val deps T) (ha : addrS P none T p = some (b, o)) {K : Env → Option α} (h : K (putD (L.map erA) d (.adr r p)) = some res) :
    Nxt P w0 F nt H K res (a.put d (.pointer (some ⟨b, o, none⟩))) w := by
  refine landRef g hd (av := .adr r p) ⟨rfl, rfl, rfl, fun _ => trivial, fun _ _ => by simp⟩ (fun L' d' hdd hk hnv deps' t' ht' => ?_) h
  by_cases c : r = d'
  · subst c; exact absurd ht' (hnv _ _)
  · have := hk r deps' t' ht' c
    rw [hr] at this
    cases this
    exact ⟨b, o, ha, rfl⟩
theorem fieldAddr_ok (g : G P w0 F nt H L [] [] a w) {d : Option Tmp} (hd : fitD nt d = true) {s : TypeId} {f : Nat} {off : Nat} (hoff : offs P s f = some off) {x : Operand} (hx : fitO nt x = true) {K : Env → Option α} (h : place P (L.map erA) s x (fun r p => K (putD (L.map erA) d (.adr r (p ++ [.f s f])))) = some res) :
    ∃ v, (∀ w, (Instr.fieldAt s (a.eval x) f).run P w = .ok v w) ∧ Nxt P w0 F nt H K res (a.put d v) w := by
  obtain ⟨r, q, deps, T, b, o, h, hr, ha, hpv⟩ := place_ok g hx h
  rw [hpv]
  exact ⟨_, fun w => run_fieldAt hoff, landA g hd hr (by rw [addrS_f, ha, hoff]; rfl) h⟩
theorem indexAddr_ok (g : G P w0 F nt H L [] [] a w) {d : Option Tmp} (hd : fitD nt d = true) {t e : TypeId} (hu : P.underlying t = some (.slice e)) {x i : Operand} (hx : fitO nt x = true) (hi : fitO nt i = true) {m : Int} (hm : (flatO (L.map erA) i).bind intOf = some m) {K : Env → Option α}
    (h : row P (L.map erA) e x (fun r p lo n => bif decide (0 ≤ m) && decide (m < n) then K (putD (L.map erA) d (.adr r (p ++ [.i e (lo + m.toNat)]))) else none) = some res) :
    ∃ v, (∀ w, (Instr.indexAt t (a.eval x) (a.eval i)).run P w = .ok v w) ∧ Nxt P w0 F nt H K res (a.put d v) w := by
  obtain ⟨v, h1, h2⟩ := Option.bind_eq_some_iff.1 hm
  obtain ⟨k, rfl⟩ := intOf_some h2
  have hiv := flatO_ok g hi h1
  obtain ⟨h0, r, p, lo, n, deps, T, A, c, h, hr, hv, hev, hnc, ro, hd', xs, hlk, hlo, hA⟩ := row_ok g hx h
  cases hb : (decide (0 ≤ m) && decide (m < (n : Int))) with
  | false => rw [hb] at h; cases h
  | true =>
    rw [hb, cond_true] at h
    simp only [Bool.and_eq_true, decide_eq_true_eq] at hb
    obtain ⟨b, o, rfl, ha⟩ := hA (by omega)
    rw [hev, hiv]
    refine ⟨_, fun w => run_indexAt hu hb.1 hb.2 h0, landA g hd hr ?_ h⟩
    rw [addrS_app p none false T _ hv]
    have e1 := (hlk.addrS (P := P) (p := [.i e (lo + m.toNat)]) (addrS P none T p))
    rw [← e1]
    simp only [addrS, if_pos (show lo + m.toNat < xs.length by omega)]
    obtain ⟨q, hq, hq2⟩ := Option.map_eq_some_iff.1 ha
    rw [hq]
    simp only [Option.map_some, Prod.mk.injEq] at hq2 ⊢
    simp only [Option.some.injEq, Prod.mk.injEq]
    rw [Nat.add_mul]
    omega
theorem flatOs_ok (g : G P w0 F nt H L XD X a w) : ∀ {xs : List Operand} {vs : List Value}, xs.all (fitO nt) = true → flatOs (L.map erA) xs = some vs → xs.map a.eval = vs
  | [], vs, _, h => by simp only [flatOs, Option.some.injEq] at h; rw [← h]; rfl
  | x :: xs, vs, hf, h => by
    simp only [List.all_cons, Bool.and_eq_true] at hf
    simp only [flatOs, Option.bind_eq_some_iff, Option.map_eq_some_iff] at h
    obtain ⟨v, h1, vs', h2, rfl⟩ := h
    rw [List.map_cons, flatO_ok g hf.1 h1, flatOs_ok g hf.2 h2]
theorem sliceStr_ok (g : G P w0 F nt H L [] [] a w) {d : Option Tmp} (hd : fitD nt d = true) {t : TypeId} (hu : P.underlying t = some .string) {x : Operand} (hx : fitO nt x = true) {lo hi : Option Operand} (hlo : lo.toList.all (fitO nt) = true) (hhi : hi.toList.all (fitO nt) = true) {K : Env → Option α}
    (h : (match flatO (L.map erA) x, flatOs (L.map erA) lo.toList, flatOs (L.map erA) hi.toList with
      | some (.string s), some lo, some hi =>
        match lo.head?.elim (some 0) intOf, hi.head?.elim (some (s.size : Int)) intOf with
        | some lo, some hi => bif boundsOk lo hi s.size then K (putD (L.map erA) d (.val [] (.fl (.string (s.extract lo.toNat hi.toNat))))) else none
        | _, _ => none
      | _, _, _ => none) = some res) : ∃ v, (∀ w, (Instr.sliceAt t (a.eval x) (lo.map a.eval) (hi.map a.eval) none).run P w = .ok v w) ∧ Nxt P w0 F nt H K res (a.put d v) w := by
  split at h
  · rename_i s los his hs hl hh
    have e1 := flatO_ok g hx hs
    have e2 := flatOs_ok g hlo hl
    have e3 := flatOs_ok g hhi hh
    have f2 : los.head? = lo.map a.eval := by rw [← e2]; cases lo <;> rfl
    have f3 : his.head? = hi.map a.eval := by rw [← e3]; cases hi <;> rfl
    rw [f2, f3] at h
    split at h
    · rename_i l hh' el eh
      cases hb : boundsOk l hh' s.size with
      | false => rw [hb] at h; cases h
      | true =>
        rw [hb, cond_true] at h
        rw [e1]
        refine ⟨_, fun w => ?_, landV g hd rfl h⟩
        simp [Instr.sliceAt, run_underlying hu, Instr.slice, run_bounds el eh hb (Nat.le_refl _)]
    · cases h
  · cases h
theorem lenRow_ok (g : G P w0 F nt H L [] [] a w) {d : Option Tmp} (hd : fitD nt d = true) {t ty e : TypeId} (hu : P.underlying t = some (.slice e)) {x : Operand} (hx : fitO nt x = true) {K : Env → Option α} (h : row P (L.map erA) e x (fun _ _ _ n => K (putD (L.map erA) d (.val [] (.fl (.int .i64 n))))) = some res) :
    ∃ v, (∀ w, (Builtin.len_ #[t] ty #[a.eval x]).run P w = .ok v w) ∧ Nxt P w0 F nt H K res (a.put d v) w := by
  obtain ⟨h0, r, p, lo, n, deps, T, A, c, h, hr, hv, hev, hnc, _⟩ := row_ok g hx h
  rw [hev]
  refine ⟨.int .i64 n, fun w => ?_, landV g hd rfl h⟩
  simp [Builtin.len_, run_underlying hu, goInt]
theorem index_ok {s : ByteArray} {t : TypeId} {k : IntKind} {n : Int} (hu : P.underlying t = some .string) (h0 : 0 ≤ n) (hn : n < s.size) : (Instr.index t (.string s) (.int k n)).run P w = .ok (.int .u8 (s.get! n.toNat).toNat) w := by
  rw [run_index_string w t s k n hu, dif_pos ⟨h0, hn⟩]
  have : n.toNat < s.size := by omega
  obtain ⟨bs⟩ := s
  have h2 : n.toNat < bs.size := this
  have e : (ByteArray.mk bs).get! n.toNat = bs[n.toNat] := by
    show bs[n.toNat]! = _
    rw [getElem!_pos bs n.toNat h2]
  rw [e]
  rfl
end Go.Tree

/- Trees of values: one operation, whichever. -/
namespace Go.Tree
set_option linter.unusedSectionVars false
set_option linter.unusedVariables false
set_option linter.unusedSimpArgs false
set_option maxHeartbeats 1000000
variable {w0 : World} {F : Fm} {nt : Nat} {H : List Value} {L : List (AV Value)} {XD : List Nat} {X : List LT} {a : Act} {w : World} {α : Type} {res : α}
variable [Pol]

theorem wp_row {P : Program} {o : Oper} {next : Act → World → Prop} {Q : Exit → Act → World → Prop} (h : ∃ v w', (execOp a.eval o).run P w = .ok (.value v) w' ∧ next (a.put o.dst v) w') : o.wp P a w next Q := by
  obtain ⟨v, w', h1, h2⟩ := h
  exact wp_value h1 h2
theorem Rowv {P : Program} {o : Oper} {s : Sem Value} {next : Value → World → Prop} (he : execOp a.eval o = (do pure (Next.value (← s)))) (h : ∃ v w', s.run P w = .ok v w' ∧ next v w') : ∃ v w', (execOp a.eval o).run P w = .ok (.value v) w' ∧ next v w' := by
  obtain ⟨v, w', h1, h2⟩ := h
  exact ⟨v, w', by rw [he]; exact run_v h1, h2⟩
theorem same_w {P : Program} {s : Sem Value} {next : Value → World → Prop} (h : ∃ v, s.run P w = .ok v w ∧ next v w) : ∃ v w', s.run P w = .ok v w' ∧ next v w' := by
  obtain ⟨v, h1, h2⟩ := h
  exact ⟨v, w, h1, h2⟩
theorem argTys_len {P : Program} {f : FuncId} {c : Call} (hsz : c.argTypes.size = c.args.size) : (argTys P f c).length = c.args.toList.length := by
  unfold argTys
  split
  · rename_i fn _
    cases h : (fn.params.size == c.args.size) with
    | true => simpa using h
    | false => simpa using hsz
  · simpa using hsz
theorem argVals_eq {c : Call} {tys : List TypeId} (hsz : tys.length = c.args.toList.length) (Cs : List LT) : argVals a (tys.zip c.args.toList) Cs = c.args.map a.eval ++ (Cs.map valOf).toArray := by
  have h1 : (tys.zip c.args.toList).map (fun q => a.eval q.2) = c.args.toList.map a.eval := by
    have : (tys.zip c.args.toList).map Prod.snd = c.args.toList := List.map_snd_zip (by omega)
    conv => rhs; rw [← this]
    rw [List.map_map]
    rfl
  rw [argVals, h1]
  congr 1
  apply Array.ext'
  simp
theorem fits_zip {c : Call} {tys : List TypeId} (h : c.args.toList.all (fitO nt) = true) : (tys.zip c.args.toList).all (fun q => fitO nt q.2) = true :=
  List.all_eq_true.2 fun q hq => List.all_eq_true.1 h q.2 (List.of_mem_zip hq).2
/-- Operations that leave all as it is. -/
def still (o : Op) : Bool := quiet o || isLoad o
theorem still_call {c : Call} (h : still (.call c) = true) : c.callee = .builtin .len := by
  obtain ⟨ce, ar, at'⟩ := c
  cases ce with
  | builtin b => cases b <;> first | rfl | (cases h)
  | _ => cases h
theorem call_still {c : Call} (h : c.callee = .builtin .len) : still (.call c) = true := by
  obtain ⟨ce, ar, at'⟩ := c
  simp only at h
  subst h
  rfl
/-- A world in which an operation still yields what it yields. -/
def CalmW (o : Oper) (w w' : World) : Prop := isLoad o.op = true → Ext w w'
theorem Rowq {P : Program} {o : Oper} {s : Sem Value} {next : Value → Prop} (he : execOp a.eval o = (do pure (Next.value (← s)))) (h : ∃ v, (∀ w', s.run P w' = .ok v w') ∧ next v) : ∃ v, (∀ w', CalmW o w w' → (execOp a.eval o).run P w' = .ok (.value v) w') ∧ next v := by
  obtain ⟨v, h1, h2⟩ := h
  exact ⟨v, fun w' _ => by rw [he]; exact run_v (h1 w'), h2⟩
theorem Rowl {P : Program} {o : Oper} {s : Sem Value} {next : Value → Prop} (hl : isLoad o.op = true) (he : execOp a.eval o = (do pure (Next.value (← s)))) (h : ∃ v, (∀ w', Ext w w' → s.run P w' = .ok v w') ∧ next v) : ∃ v, (∀ w', CalmW o w w' → (execOp a.eval o).run P w' = .ok (.value v) w') ∧ next v := by
  obtain ⟨v, h1, h2⟩ := h
  exact ⟨v, fun w' hw => by rw [he]; exact run_v (h1 w' (hw hl)), h2⟩
theorem evOp_still {cx : Ctx} {call : FuncId → List TV → Option Res} (g : G cx.P w0 F nt H L [] [] a w) {fn : Func} {o : Oper} (hst : still o.op = true) (hfit : fitOp nt o = true) {K : Env → Option α} (h : evOp cx call fn o (L.map erA) K = some res) :
    ∃ v, (∀ w', CalmW o w w' → (execOp a.eval o).run cx.P w' = .ok (.value v) w') ∧ Nxt cx.P w0 F nt H K res (a.put o.dst v) w := by
  simp only [fitOp, Bool.and_eq_true] at hfit
  obtain ⟨hd, hx⟩ := hfit
  cases hop : o.op with
  | move x =>
    rw [hop] at hx
    have hx : fitO nt x = true := by simpa [opnds] using hx
    refine ⟨a.eval x, fun w' _ => by unfold execOp; simp only [hop]; rfl, ?_⟩
    simp only [evOp, hop] at h
    cases hdd : o.dst with
    | none => rw [hdd] at h; cases h
    | some d =>
      rw [hdd] at h hd
      exact copyOrLook_ok g hd hx h
  | assign x =>
    rw [hop] at hx
    have hx : fitO nt x = true := by simpa [opnds] using hx
    refine ⟨a.eval x, fun w' _ => by unfold execOp; simp only [hop]; rfl, ?_⟩
    simp only [evOp, hop] at h
    cases hdd : o.dst with
    | none => rw [hdd] at h; cases h
    | some d =>
      rw [hdd] at h hd
      exact copyOrLook_ok g hd hx h
  | pick c x y =>
    rw [hop] at hx
    simp only [opnds, List.all_cons, List.all_nil, Bool.and_true, Bool.and_eq_true] at hx
    simp only [evOp, hop] at h
    split at h
    · rename_i b hc
      have hcv := flatO_ok g hx.1 hc
      refine ⟨if b then a.eval x else a.eval y, fun w' _ => by unfold execOp; simp only [hop]; simp [hcv, asBool], ?_⟩
      cases b with
      | true => exact copyOrLook_ok g hd hx.2.1 h
      | false => exact copyOrLook_ok g hd hx.2.2 h
    · cases h
  | load t x =>
    rw [hop] at hx
    have hx : fitO nt x = true := by simpa [opnds] using hx
    simp only [evOp, hop] at h
    exact Rowl (a := a) (w := w) (o := o) (next := fun v => Nxt cx.P w0 F nt H K res (a.put o.dst v) w) (by rw [hop]; rfl) (s := Instr.loadAt t (a.eval x)) (by unfold execOp; simp only [hop]) (load_ok g hd hx h)
  | nilCheck x =>
    rw [hop] at hx
    have hx : fitO nt x = true := by simpa [opnds] using hx
    simp only [evOp, hop] at h
    cases hdd : o.dst with
    | none => rw [hdd] at h; cases h
    | some d =>
      rw [hdd] at h hd
      cases x with
      | tmp s =>
        obtain ⟨b, off, h1, h2⟩ := nilCheck_ok g (by simpa [fitD] using hd) (by simpa [fitO] using hx) h
        exact ⟨a.eval (.tmp s), fun w' _ => by unfold execOp; simp only [hop, h1]; rfl, h2⟩
      | _ => cases h
  | fieldAddr s x f =>
    rw [hop] at hx
    have hx : fitO nt x = true := by simpa [opnds] using hx
    simp only [evOp, hop] at h
    split at h
    · rename_i off hoff
      exact Rowq (a := a) (w := w) (o := o) (s := Instr.fieldAt s (a.eval x) f) (by unfold execOp; simp only [hop]) (fieldAddr_ok g hd hoff hx h)
    · cases h
  | indexAddr t x i =>
    rw [hop] at hx
    simp only [opnds, List.all_cons, List.all_nil, Bool.and_true, Bool.and_eq_true] at hx
    simp only [evOp, hop] at h
    split at h
    · rename_i m hm
      split at h
      · rename_i e hu
        exact Rowq (a := a) (w := w) (o := o) (s := Instr.indexAt t (a.eval x) (a.eval i)) (by unfold execOp; simp only [hop]) (indexAddr_ok g hd hu hx.1 hx.2 hm h)
      · cases h
    · cases h
  | slice t x lo hi mx =>
    rw [hop] at hx
    simp only [opnds, List.all_cons, List.all_append, Bool.and_eq_true] at hx
    cases mx with
    | some m => simp only [evOp, hop] at h; cases h
    | none =>
      simp only [evOp, hop] at h
      split at h
      · rename_i e hu
        exact Rowq (a := a) (w := w) (o := o) (s := Instr.sliceAt t (a.eval x) (lo.map a.eval) (hi.map a.eval) none) (by unfold execOp; simp only [hop]; rfl) (sliceE_ok g hd hu hx.1 (by have h0 := hx.2.1; cases lo <;> first | (simp; done) | (simp at h0 ⊢; exact h0)) (by have h0 := hx.2.2; cases hi <;> first | (simp; done) | (simp at h0 ⊢; exact h0)) h)
      · rename_i hu
        exact Rowq (a := a) (w := w) (o := o) (s := Instr.sliceAt t (a.eval x) (lo.map a.eval) (hi.map a.eval) none) (by unfold execOp; simp only [hop]; rfl) (sliceStr_ok g hd hu hx.1 hx.2.1 hx.2.2 h)
      · cases h
  | extract x i =>
    rw [hop] at hx
    have hx : fitO nt x = true := by simpa [opnds] using hx
    simp only [evOp, hop] at h
    cases x with
    | tmp s =>
      simp only at h
      split at h
      · rename_i deps ts ht
        exact Rowq (a := a) (w := w) (o := o) (s := Instr.extract (a.eval (.tmp s)) i) (by unfold execOp; simp only [hop]) (extract_ok g hd (by simpa [fitO] using hx) ht h)
      · cases h
    | _ => cases h
  | binOp op t x y t2 =>
    rw [hop] at hx
    simp only [opnds, List.all_cons, List.all_nil, Bool.and_true, Bool.and_eq_true] at hx
    simp only [evOp, hop] at h
    refine Rowq (a := a) (w := w) (o := o) (s := (do eqGuard op t x y (a.eval x) (a.eval y); binOp op t (a.eval x) (a.eval y))) (by unfold execOp; simp only [hop]) ?_
    split at h
    · rename_i u v hf
      have e := flatOs_ok g (xs := [x, y]) (by simp [hx.1, hx.2]) hf
      simp only [List.map_cons, List.map_nil, List.cons.injEq, and_true] at e
      rw [e.1, e.2]
      obtain ⟨z, h1, h2, h3⟩ := binF_ok h
      exact ⟨z, h1, landV g hd h2 h3⟩
    · split at h
      · obtain ⟨b, h1, h2, _, h4⟩ := nilAsk_ok g hx.1 h
        exact ⟨_, fun w => by rw [Sem.run_bind, h4 .eql]; exact h2 w, landV g hd rfl h1⟩
      · obtain ⟨b, h1, _, h2, h4⟩ := nilAsk_ok g hx.1 h
        exact ⟨_, fun w => by rw [Sem.run_bind, h4 .neq]; exact h2 w, landV g hd rfl h1⟩
      · cases h
  | convert s t x =>
    rw [hop] at hx
    have hx : fitO nt x = true := by simpa [opnds] using hx
    simp only [evOp, hop] at h
    split at h
    · rename_i v hv
      have e := flatO_ok g hx hv
      obtain ⟨z, h1, h2, h3⟩ := pureV_ok h
      exact Rowq (a := a) (w := w) (o := o) (s := convert s t (a.eval x)) (by unfold execOp; simp only [hop]) ⟨z, by rw [e]; exact h1, landV g hd h2 h3⟩
    · cases h
  | unOp op t x =>
    rw [hop] at hx
    have hx : fitO nt x = true := by simpa [opnds] using hx
    simp only [evOp, hop] at h
    split at h
    · rename_i v hv
      have e := flatO_ok g hx hv
      obtain ⟨z, h1, h2, h3⟩ := pureV_ok h
      exact Rowq (a := a) (w := w) (o := o) (s := Op.unary op (a.eval x)) (by unfold execOp; simp only [hop]) ⟨z, by rw [e]; exact h1, landV g hd h2 h3⟩
    · cases h
  | index t x i =>
    rw [hop] at hx
    simp only [opnds, List.all_cons, List.all_nil, Bool.and_true, Bool.and_eq_true] at hx
    simp only [evOp, hop] at h
    split at h
    · rename_i s k n hu h1 h2
      have e1 := flatO_ok g hx.1 h1
      have e2 := flatO_ok g hx.2 h2
      cases hb : (decide (0 ≤ n) && decide (n < (s.size : Int))) with
      | false => rw [hb] at h; cases h
      | true =>
        rw [hb, cond_true] at h
        simp only [Bool.and_eq_true, decide_eq_true_eq] at hb
        exact Rowq (a := a) (w := w) (o := o) (s := Instr.index t (a.eval x) (a.eval i)) (by unfold execOp; simp only [hop]) ⟨_, fun w => by rw [e1, e2]; exact index_ok hu hb.1 hb.2, landV g hd rfl h⟩
    · cases h
  | makeFunc f first caps =>
    rw [hop] at hx
    have hx : caps.toList.all (fitO nt) = true := by simpa [opnds] using hx
    simp only [evOp, hop] at h
    cases f with
    | func f =>
      simp only at h
      cases hb : (first.size != 0) with
      | true => rw [hb] at h; cases h
      | false =>
        rw [hb, cond_false] at h
        have hf0 : first = #[] := by simpa using hb
        exact Rowq (a := a) (w := w) (o := o) (s := Instr.makeFunc (.func f) #[] (caps.map a.eval)) (by unfold execOp; simp only [hop, hf0, Array.map_empty]) (makeFunc_ok g hd hx h)
    | _ => cases h
  | call c =>
    rw [hop] at hx
    simp only [opnds, List.all_append, Bool.and_eq_true] at hx
    obtain ⟨ha, hc⟩ := hx
    simp only [evOp, hop] at h
    cases hsz : (c.argTypes.size != c.args.size) with
    | true => rw [hsz] at h; cases h
    | false =>
      rw [hsz, cond_false] at h
      have hsz : c.argTypes.size = c.args.size := by simpa using hsz
      cases hcal : c.callee with
      | invoke r m => rw [hop] at hst; have := still_call hst; rw [hcal] at this; cases this
      | value x => rw [hop] at hst; have := still_call hst; rw [hcal] at this; cases this
      | builtin b =>
        rw [hcal] at h
        have hex : execOp a.eval o = builtin b c.argTypes o.type (c.args.map fun | .const _ => true | _ => false) (c.args.map a.eval) := by
          unfold execOp
          simp only [hop, resolve, hcal]
          rfl
        cases b with
        | len =>
          simp only at h
          split at h
          · rename_i x t hax hat
            have eax : c.args = #[x] := Array.ext' hax
            have eat : c.argTypes = #[t] := Array.ext' hat
            have hx : fitO nt x = true := by rw [hax] at ha; simpa using ha
            have hex' : execOp a.eval o = (do pure (Next.value (← Builtin.len_ #[t] o.type #[a.eval x]))) := by
              have e1 : c.args.map a.eval = #[a.eval x] := by rw [eax]; simp
              rw [hex, e1, eat]; rfl
            split at h
            · rename_i hu
              split at h
              · rename_i s hs
                have e := flatO_ok g hx hs
                exact Rowq hex' ⟨_, fun w => by rw [e]; exact run_len_string w t o.type s hu, landV g hd rfl h⟩
              · cases h
            · rename_i e hu
              exact Rowq hex' (lenRow_ok g hd hu hx h)
            · cases h
          · cases h
        | _ => rw [hop] at hst; have := still_call hst; rw [hcal] at this; cases this
  | _ => rw [hop] at hst; simp [still, quiet, isLoad] at hst
theorem evOp_ok {cx : Ctx} {call : FuncId → List TV → Option Res} (hC : CallsOk cx.P cx.sig call) (hN : ∀ (f : FuncId) (fn : Func), cx.P.funcs[f]? = some fn → (fn.name == "runtime.NumGoroutine") = false)
    (g : G cx.P w0 F nt H L [] [] a w) {fn : Func} {o : Oper} (hfit : fitOp nt o = true) {K : Env → Option α} (h : evOp cx call fn o (L.map erA) K = some res) {Q : Exit → Act → World → Prop} : o.wp cx.P a w (Nxt cx.P w0 F nt H K res) Q := by
  by_cases hst : still o.op = true
  · obtain ⟨v, h1, h2⟩ := evOp_still g hst hfit h
    exact wp_value (h1 w fun _ => Ext.refl w) h2
  simp only [fitOp, Bool.and_eq_true] at hfit
  obtain ⟨hd, hx⟩ := hfit
  cases hop : o.op with
  | alloc e =>
    simp only [evOp, hop] at h
    split at h
    · rename_i z hz
      exact wp_row (Rowv (s := Instr.alloc e true (.tuple #[])) (by unfold execOp; simp only [hop]) (alloc_ok g hd hz h))
    · cases h
  | box e x =>
    rw [hop] at hx
    have hx : fitO nt x = true := by simpa [opnds] using hx
    simp only [evOp, hop] at h
    exact wp_row (Rowv (s := Instr.box e (a.eval x)) (by unfold execOp; simp only [hop]) (box_ok g hd hx h))
  | build t parts =>
    rw [hop] at hx
    have hx : parts.toList.all (fun q => fitO nt q.2) = true := by simpa [opnds] using hx
    simp only [evOp, hop] at h
    split at h
    · rename_i fs zs hu hz
      exact wp_row (Rowv (s := Instr.build t (parts.map fun (i, x) => (i, a.eval x))) (by unfold execOp; simp only [hop]) (same_w (build_ok g hd hx hu hz h)))
    · cases h
  | buildSlice t n parts =>
    rw [hop] at hx
    have hx : parts.toList.all (fun q => fitO nt q.2) = true := by simpa [opnds] using hx
    simp only [evOp, hop] at h
    split at h
    · rename_i e hu
      split at h
      · rename_i z hz
        exact wp_row (Rowv (s := Instr.buildSlice t n (parts.map fun (i, x) => (i, a.eval x))) (by unfold execOp; simp only [hop]) (buildSlice_ok g hd hx hu hz h))
      · cases h
    · cases h
  | store t x y =>
    rw [hop] at hx
    simp only [opnds, List.all_cons, List.all_nil, Bool.and_true, Bool.and_eq_true] at hx
    simp only [evOp, hop] at h
    obtain ⟨w', L', h1, h2, h3⟩ := storeE_ok g hx.1 hx.2 h
    exact wp_skip' (w' := w') (by unfold execOp; simp only [hop]; exact run_u h1) (landU h2 hd undef h3)
  | makeSlice t l c =>
    rw [hop] at hx
    simp only [opnds, List.all_cons, List.all_nil, Bool.and_true, Bool.and_eq_true] at hx
    simp only [evOp, hop] at h
    split at h
    · rename_i e kl lv kc cv hu hl hc
      split at h
      · rename_i z hz
        have e1 := flatO_ok g hx.1 hl
        have e2 := flatO_ok g hx.2 hc
        exact wp_row (Rowv (s := Instr.makeSlice t (a.eval l) (a.eval c)) (by unfold execOp; simp only [hop]) (by rw [e1, e2]; exact makeSlice_ok g hd hu hz h))
      · cases h
    · cases h
  | call c =>
    rw [hop] at hx
    simp only [opnds, List.all_append, Bool.and_eq_true] at hx
    obtain ⟨ha, hc⟩ := hx
    simp only [evOp, hop] at h
    cases hsz : (c.argTypes.size != c.args.size) with
    | true => rw [hsz] at h; cases h
    | false =>
      rw [hsz, cond_false] at h
      have hsz : c.argTypes.size = c.args.size := by simpa using hsz
      cases hcal : c.callee with
      | invoke => rw [hcal] at h; cases h
      | builtin b =>
        rw [hcal] at h
        have hex : execOp a.eval o = builtin b c.argTypes o.type (c.args.map fun | .const _ => true | _ => false) (c.args.map a.eval) := by
          unfold execOp
          simp only [hop, resolve, hcal]
          rfl
        cases b with
        | len => rw [hop] at hst; exact absurd (call_still hcal) hst
        | append =>
          simp only at h
          split at h
          · rename_i x y t t' hax hat
            have eax : c.args = #[x, y] := Array.ext' hax
            have eat : c.argTypes = #[t, t'] := Array.ext' hat
            rw [hax] at ha
            simp only [List.all_cons, List.all_nil, Bool.and_true, Bool.and_eq_true] at ha
            cases htt : (t == t') with
            | false =>
              rw [htt, cond_false] at h
              split at h
              · rename_i kx hux
                have hex' : execOp a.eval o = (do pure (Next.value (← Builtin.append_ #[t, t'] o.type #[a.eval x, a.eval y]))) := by
                  have e1 : c.args.map a.eval = #[a.eval x, a.eval y] := by rw [eax]; simp
                  rw [hex, e1, eat]; rfl
                exact wp_row (Rowv hex' (appendN_ok g hd ha.1 ha.2 hux h))
              · cases h
            | true =>
              rw [htt, cond_true] at h
              have htt : t = t' := by simpa using htt
              subst htt
              have hex' : execOp a.eval o = (do pure (Next.value (← Builtin.append_ #[t, t] o.type #[a.eval x, a.eval y]))) := by
                have e1 : c.args.map a.eval = #[a.eval x, a.eval y] := by rw [eax]; simp
                rw [hex, e1, eat]; rfl
              exact wp_row (Rowv hex' (appendE_ok g hd ha.1 ha.2 h))
          · cases h
        | copy =>
          simp only at h
          split at h
          · rename_i x y t t' hax hat
            have eax : c.args = #[x, y] := Array.ext' hax
            have eat : c.argTypes = #[t, t'] := Array.ext' hat
            rw [hax] at ha
            simp only [List.all_cons, List.all_nil, Bool.and_true, Bool.and_eq_true] at ha
            cases htt : (t == t') with
            | false => rw [htt] at h; cases h
            | true =>
              rw [htt, cond_true] at h
              have htt : t = t' := by simpa using htt
              subst htt
              have hex' : execOp a.eval o = (do pure (Next.value (← Builtin.copy_ #[t, t] o.type #[a.eval x, a.eval y]))) := by
                have e1 : c.args.map a.eval = #[a.eval x, a.eval y] := by rw [eax]; simp
                rw [hex, e1, eat]; rfl
              exact wp_row (Rowv hex' (copyE_ok g hd ha.1 ha.2 h))
          · cases h
        | max =>
          simp only at h
          split at h
          · rename_i vs hvs
            have e := flatOs_ok g ha hvs
            have e2 : c.args.map a.eval = vs.toArray := by apply Array.ext'; rw [Array.toList_map, e]
            obtain ⟨z, h1, h2, h3⟩ := pureV_ok h
            exact wp_row (Rowv (s := Builtin.max_ c.argTypes o.type (c.args.map a.eval)) (by rw [hex]; rfl) ⟨z, w, by rw [e2]; exact h1 w, landV g hd h2 h3⟩)
          · cases h
        | min =>
          simp only at h
          split at h
          · rename_i vs hvs
            have e := flatOs_ok g ha hvs
            have e2 : c.args.map a.eval = vs.toArray := by apply Array.ext'; rw [Array.toList_map, e]
            obtain ⟨z, h1, h2, h3⟩ := pureV_ok h
            exact wp_row (Rowv (s := Builtin.min_ c.argTypes o.type (c.args.map a.eval)) (by rw [hex]; rfl) ⟨z, w, by rw [e2]; exact h1 w, landV g hd h2 h3⟩)
          · cases h
        | _ => cases h
      | value x =>
        rw [hcal] at h hc
        cases x with
        | func f =>
          refine callE_ok (Cs := []) rfl hC hN g hd (fits_zip ha) trivial rfl (fun b hb => by cases hb) h rfl ?_
          rw [argVals_eq (argTys_len hsz)]
          unfold execOp
          simp only [hop, resolve, hcal, Act.eval, Deferred.ofValue]
          simp [invoke]
        | tmp s =>
          have hs : s < nt := by simpa [fitO] using hc
          simp only at h
          obtain ⟨D, T, h, hmT, hvT, _, _, hsD, _, hBs⟩ := look_ok g hs h
          split at h
          · rename_i f caps hT
            obtain ⟨Cs, rfl, rfl⟩ := er_cl_inv hT
            cases hb : (hasOwnL (Cs.map er) || (Cs.map er).any isStT) with
            | true => rw [hb] at h; cases h
            | false =>
              rw [hb, cond_false] at h
              simp only [Bool.or_eq_false_iff, hasOwnL_er] at hb
              have ho := own_nilL Cs hb.1
              have hst : ∀ T ∈ Cs, isSt T = false := fun T hT => by
                have := List.any_eq_false.1 hb.2 (er T) (List.mem_map.2 ⟨T, hT, rfl⟩)
                rw [isSt_er] at this
                simpa using this
              have hcv : ∀ (Cs : List LT), (∀ T ∈ Cs, isSt T = false) → cellsL Cs = Cs.map valOf := by
                intro Cs
                induction Cs with
                | nil => intro _; rfl
                | cons C Cs ih => intro h; rw [cellsL, cells_one (h C List.mem_cons_self), ih fun T hT => h T (List.mem_cons_of_mem _ hT)]; rfl
              have g1 := g.addRo (T := .cl f Cs) (D := D) hmT ho hsD (fun b _ => by simp [ownL]) (fun b hb => hBs b (shr_all _ hb))
              refine callE_ok (Cs := Cs) rfl hC hN g1 hd (fits_zip ha) hmT ho (fun b hb => by simpa [shrL, shr] using hb) h rfl ?_
              rw [argVals_eq (argTys_len hsz), ← hcv Cs hst]
              have ev : a.eval (.tmp s) = .func (.func f) #[] (cellsL Cs).toArray := hvT
              unfold execOp
              simp only [hop, resolve, hcal, ev, Deferred.ofValue]
              simp [invoke]
          · cases h
        | _ => cases h
  | move => rw [hop] at hst; simp [still, quiet, isLoad] at hst
  | assign => rw [hop] at hst; simp [still, quiet, isLoad] at hst
  | pick => rw [hop] at hst; simp [still, quiet, isLoad] at hst
  | load => rw [hop] at hst; simp [still, quiet, isLoad] at hst
  | nilCheck => rw [hop] at hst; simp [still, quiet, isLoad] at hst
  | fieldAddr => rw [hop] at hst; simp [still, quiet, isLoad] at hst
  | indexAddr => rw [hop] at hst; simp [still, quiet, isLoad] at hst
  | slice => rw [hop] at hst; simp [still, quiet, isLoad] at hst
  | extract => rw [hop] at hst; simp [still, quiet, isLoad] at hst
  | binOp => rw [hop] at hst; simp [still, quiet, isLoad] at hst
  | convert => rw [hop] at hst; simp [still, quiet, isLoad] at hst
  | unOp => rw [hop] at hst; simp [still, quiet, isLoad] at hst
  | index => rw [hop] at hst; simp [still, quiet, isLoad] at hst
  | makeFunc => rw [hop] at hst; simp [still, quiet, isLoad] at hst
  | _ => simp [evOp, hop] at h
end Go.Tree

/- Trees of values: regions. -/
namespace Go.Tree
set_option linter.unusedSectionVars false
set_option linter.unusedVariables false
set_option linter.unusedSimpArgs false
variable {w0 : World} {F : Fm} {nt : Nat} {H : List Value} {L : List (AV Value)} {XD : List Nat} {X : List LT} {a : Act} {w : World} {α : Type} {res : α}
variable [Pol]

/-- A flat slot depends on nothing. -/
theorem G.undepS {P : Program} (g : G P w0 F nt H L XD X a w) {s : Nat} {d : List Nat} {v : Value} (hs : slot L s = .val d (.fl v)) : G P w0 F nt H (L.set s (.val [] (.fl v))) XD X a w := by
  have hsl : s < L.length := slot_lt (by rw [hs]; simp)
  have e : ∀ i, slot (L.set s (.val [] (.fl v))) i = if s = i then .val [] (.fl v) else slot L i := fun i => by
    rw [slot_set]; simp [hsl]
  have eo : ∀ i, ownA (slot (L.set s (.val [] (.fl v))) i) = ownA (slot L i) := fun i => by
    rw [e]; split
    · rename_i c; rw [← c, hs]; rfl
    · rfl
  have es : ∀ i, shrA (slot (L.set s (.val [] (.fl v))) i) = shrA (slot L i) := fun i => by
    rw [e]; split
    · rename_i c; rw [← c, hs]; rfl
    · rfl
  have ev : ∀ {r : Nat} {d' : List Nat} {t : LT}, slot (L.set s (.val [] (.fl v))) r = .val d' t → ∃ d2, slot L r = .val d2 t := fun {r d' t} h => by
    rw [e] at h
    split at h
    · rename_i c; cases h; exact ⟨d, by rw [← c]; exact hs⟩
    · exact ⟨d', h⟩
  refine ⟨g.defers, g.size, by rw [List.length_set]; exact g.len, fun i hi => ?_, fun j u hj => ?_, fun i => ?_, g.memX, ⟨fun i => by rw [eo]; exact g.dj.nd i, fun i j b h1 h2 => g.dj.dj i j b (by rwa [eo] at h1) (by rwa [eo] at h2), fun i b h1 h2 => g.dj.ss i b (by rwa [es] at h1) (by rwa [eo] at h2), fun i j b h1 h2 => ?_, g.dj.xn, fun i b h1 h2 => g.dj.xo i b h1 (by rwa [eo] at h2), fun i b h1 h2 => g.dj.xs i b (by rwa [es] at h1) h2, g.dj.xx, fun j b h1 h2 => g.dj.xd j b h1 (by rwa [eo] at h2)⟩, fun i b hb => g.mine i b (by rwa [eo] at hb), g.mineX, g.fr, fun i b hb => g.sees i b (by rwa [es] at hb), g.seesX⟩
  · have h := g.slots i hi
    rw [e]
    split
    · rename_i c; rw [← c, hs] at h; rw [← c]; exact h
    · cases ei : slot L i with
      | un => trivial
      | val d t => rw [ei] at h; exact h
      | tu d t => rw [ei] at h; exact h
      | ref r p sb ty sn => rw [ei] at h; exact fun d' t ht => (ev ht).elim fun d2 h2 => h d2 t h2
      | adr r p => rw [ei] at h; exact fun d' t ht => (ev ht).elim fun d2 h2 => h d2 t h2
  · have h := g.hid j u hj
    rw [e]
    split
    · rename_i c; rw [← c, hs] at h; exact h
    · exact h
  · have h := g.mem i
    rw [e]
    split
    · rename_i c; rw [← c, hs] at h; exact h
    · exact h
  · rw [es] at h1; rw [eo] at h2
    have := g.dj.sh i j b h1 h2
    rw [e]
    split
    · rename_i c; rw [← c, hs] at h1; cases h1
    · exact this
/-- A guard's answer. -/
theorem guard_ok {P : Program} (g : G P w0 F nt H L XD X a w) {ops : Array Oper} (hfits : ops.toList.all (fitOp nt) = true) {j s : Nat} (hj : (ops[j]?).bind (·.dst) = some s) {d : List Nat} {b : Bool} (hs : slot L s = .val d (.fl (.bool b))) : yielded ops a.tmps j = some b := by
  obtain ⟨o, ho, hd⟩ := Option.bind_eq_some_iff.1 hj
  have hf := List.all_eq_true.1 hfits o (Array.mem_toList_iff.2 (Array.mem_of_getElem? ho))
  simp only [fitOp, Bool.and_eq_true, hd] at hf
  have hlt : s < nt := by simpa [fitD] using hf.1
  have hso := g.slots s hlt
  rw [hs] at hso
  have hlt' : s < a.tmps.size := by rw [g.size]; exact hlt
  have : a.tmps[s]? = some (.bool b) := by
    have h2 : a.tmps.getD s undef = .bool b := hso
    rw [Array.getElem?_eq_getElem hlt']
    simpa [Array.getD, hlt'] using h2
  simp [yielded, hj, this]
theorem guard_no {P : Program} (g : G P w0 F nt H L XD X a w) {ops : Array Oper} (hfits : ops.toList.all (fitOp nt) = true) {j s : Nat} (hj : (ops[j]?).bind (·.dst) = some s) {d : List Nat} (hs : slot L s = .tu d []) : yielded ops a.tmps j = none := by
  obtain ⟨o, ho, hd⟩ := Option.bind_eq_some_iff.1 hj
  have hf := List.all_eq_true.1 hfits o (Array.mem_toList_iff.2 (Array.mem_of_getElem? ho))
  simp only [fitOp, Bool.and_eq_true, hd] at hf
  have hlt : s < nt := by simpa [fitD] using hf.1
  have hso := g.slots s hlt
  rw [hs] at hso
  have hlt' : s < a.tmps.size := by rw [g.size]; exact hlt
  have : a.tmps[s]? = some (.tuple #[]) := by
    have h2 : a.tmps.getD s undef = .tuple #[] := hso
    rw [Array.getElem?_eq_getElem hlt']
    simpa [Array.getD, hlt'] using h2
  simp [yielded, hj, this]
/-- An operation that is not wanted. -/
theorem landSkip {P : Program} {d : Option Tmp} (g : G P w0 F nt H L [] [] a w) (hd : fitD nt d = true) {K : Env → Option α} (h : K (putD (L.map erA) d (.tu [] [])) = some res) : Nxt P w0 F nt H K res (a.put d undef) w :=
  landRef g hd (av := .tu [] []) ⟨rfl, rfl, rfl, fun _ => trivial, fun _ _ => by simp⟩ (fun _ _ _ _ _ => rfl) h
/-- One operation of a region. -/
theorem evOne_ok {cx : Ctx} {call : FuncId → List TV → Option Res} (hC : CallsOk cx.P cx.sig call) (hN : ∀ (f : FuncId) (fn : Func), cx.P.funcs[f]? = some fn → (fn.name == "runtime.NumGoroutine") = false)
    (g : G cx.P w0 F nt H L [] [] a w) {fn : Func} {ops : Array Oper} (hfits : ops.toList.all (fitOp nt) = true) {o : Oper} (ho : o ∈ ops) {K : Env → Option α} (h : evOne cx call fn ops o (L.map erA) K = some res) :
    (Region.wanted o (yielded ops a.tmps) = true ∧ ∀ Q, o.wp cx.P a w (Nxt cx.P w0 F nt H K res) Q) ∨ (Region.wanted o (yielded ops a.tmps) = false ∧ Nxt cx.P w0 F nt H K res (a.put o.dst undef) w) := by
  have hfit := List.all_eq_true.1 hfits o (Array.mem_toList_iff.2 ho)
  have hd : fitD nt o.dst = true := by simp only [fitOp, Bool.and_eq_true] at hfit; exact hfit.1
  unfold evOne at h
  split at h
  · rename_i hg
    exact .inl ⟨by simp [Region.wanted, hg], fun Q => evOp_ok hC hN g hfit h⟩
  · rename_i j want hg
    split at h
    · cases h
    · rename_i s hj
      rw [slot_er] at h
      split at h
      · rename_i d b hs
        obtain ⟨T, e, e2⟩ := erA_val hs
        have := er_fl_inv e2.symm
        subst this
        have hy := guard_ok g hfits hj e
        have g1 : G cx.P w0 F nt H (L.set s (.val [] (.fl (.bool b)))) [] [] a w := g.undepS e
        have es : (L.map erA).set s (.val [] (.fl (.bool b))) = (L.set s (.val [] (.fl (.bool b)))).map erA := by rw [List.map_set]; rfl
        have hw : Region.wanted o (yielded ops a.tmps) = (b == want) := by simp [Region.wanted, hg, hy]
        cases b with
        | true =>
          simp only [cond_true] at h
          rw [es] at h
          cases want with
          | true => exact .inl ⟨by rw [hw]; rfl, fun Q => evOp_ok hC hN g1 hfit h⟩
          | false => exact .inr ⟨by rw [hw]; rfl, landSkip g1 hd h⟩
        | false =>
          simp only [cond_false] at h
          rw [es] at h
          cases want with
          | true => exact .inr ⟨by rw [hw]; rfl, landSkip g1 hd h⟩
          | false => exact .inl ⟨by rw [hw]; rfl, fun Q => evOp_ok hC hN g1 hfit h⟩
      · rename_i d hs
        obtain ⟨Ts, e, e2⟩ := erA_tu hs
        obtain rfl : Ts = [] := List.map_eq_nil_iff.1 e2.symm
        exact .inr ⟨by simp [Region.wanted, hg, guard_no g hfits hj e], landSkip g hd h⟩
      · cases h
/-- What a still operation of a region yields. -/
def YieldsW (P : Program) (ops : Array Oper) (o : Oper) (v : Value) (a : Act) (w : World) : Prop :=
  (Region.wanted o (yielded ops a.tmps) = true ∧ ∀ w', CalmW o w w' → (execOp a.eval o).run P w' = .ok (.value v) w') ∨ (Region.wanted o (yielded ops a.tmps) = false ∧ v = undef)
/-- One still operation of a region. -/
theorem evOne_still {cx : Ctx} {call : FuncId → List TV → Option Res}
    (g : G cx.P w0 F nt H L [] [] a w) {fn : Func} {ops : Array Oper} (hfits : ops.toList.all (fitOp nt) = true) {o : Oper} (ho : o ∈ ops) (hst : still o.op = true) {K : Env → Option α} (h : evOne cx call fn ops o (L.map erA) K = some res) :
    ∃ v, YieldsW cx.P ops o v a w ∧ Nxt cx.P w0 F nt H K res (a.put o.dst v) w := by
  have hfit := List.all_eq_true.1 hfits o (Array.mem_toList_iff.2 ho)
  have hd : fitD nt o.dst = true := by simp only [fitOp, Bool.and_eq_true] at hfit; exact hfit.1
  have run : ∀ {L' : List (AV Value)}, G cx.P w0 F nt H L' [] [] a w → evOp cx call fn o (L'.map erA) K = some res → Region.wanted o (yielded ops a.tmps) = true → ∃ v, YieldsW cx.P ops o v a w ∧ Nxt cx.P w0 F nt H K res (a.put o.dst v) w := fun g' h' hw => by
    obtain ⟨v, h1, h2⟩ := evOp_still g' hst hfit h'
    exact ⟨v, .inl ⟨hw, h1⟩, h2⟩
  unfold evOne at h
  split at h
  · rename_i hg
    exact run g h (by simp [Region.wanted, hg])
  · rename_i j want hg
    split at h
    · cases h
    · rename_i s hj
      rw [slot_er] at h
      split at h
      · rename_i d b hs
        obtain ⟨T, e, e2⟩ := erA_val hs
        have := er_fl_inv e2.symm
        subst this
        have hy := guard_ok g hfits hj e
        have g1 : G cx.P w0 F nt H (L.set s (.val [] (.fl (.bool b)))) [] [] a w := g.undepS e
        have es : (L.map erA).set s (.val [] (.fl (.bool b))) = (L.set s (.val [] (.fl (.bool b)))).map erA := by rw [List.map_set]; rfl
        have hw : Region.wanted o (yielded ops a.tmps) = (b == want) := by simp [Region.wanted, hg, hy]
        cases b with
        | true =>
          simp only [cond_true] at h
          rw [es] at h
          cases want with
          | true => exact run g1 h (by rw [hw]; rfl)
          | false => exact ⟨undef, .inr ⟨by rw [hw]; rfl, rfl⟩, landSkip g1 hd h⟩
        | false =>
          simp only [cond_false] at h
          rw [es] at h
          cases want with
          | true => exact ⟨undef, .inr ⟨by rw [hw]; rfl, rfl⟩, landSkip g1 hd h⟩
          | false => exact run g1 h (by rw [hw]; rfl)
      · rename_i d hs
        obtain ⟨Ts, e, e2⟩ := erA_tu hs
        obtain rfl : Ts = [] := List.map_eq_nil_iff.1 e2.symm
        exact ⟨undef, .inr ⟨by simp [Region.wanted, hg, guard_no g hfits hj e], rfl⟩, landSkip g hd h⟩
      · cases h
/-- A region in its own order. -/
theorem evList_ok {cx : Ctx} {call : FuncId → List TV → Option Res} (hC : CallsOk cx.P cx.sig call) (hN : ∀ (f : FuncId) (fn : Func), cx.P.funcs[f]? = some fn → (fn.name == "runtime.NumGoroutine") = false)
    {fn : Func} {ops : Array Oper} (hfits : ops.toList.all (fitOp nt) = true) {K : Env → Option α} {Q : Exit → Act → World → Prop} (hQ : ∀ a w, Nxt cx.P w0 F nt H K res a w → Q .normal a w) :
    ∀ (l : List Oper), (∀ o ∈ l, o ∈ ops) → ∀ {L : List (AV Value)} {a : Act} {w : World}, G cx.P w0 F nt H L [] [] a w → evList cx call fn ops l (L.map erA) K = some res → wpList cx.P ops Q l a w
  | [], _, L, a, w, g, h => hQ a w ⟨L, g, h⟩
  | o :: rest, hl, L, a, w, g, h => by
    simp only [evList] at h
    simp only [wpList]
    rcases evOne_ok hC hN g hfits (hl o List.mem_cons_self) h with ⟨hw, h1⟩ | ⟨hw, L', g', h1⟩
    · rw [if_pos hw]
      exact .inl (Oper.wp_mono (fun a' w' ⟨L', g', h'⟩ => evList_ok hC hN hfits hQ rest (fun o' ho' => hl o' (List.mem_cons_of_mem _ ho')) g' h') (h1 Q))
    · rw [if_neg (by rw [hw]; simp)]
      exact evList_ok hC hN hfits hQ rest (fun o' ho' => hl o' (List.mem_cons_of_mem _ ho')) g' h1
/-- A draw leaves all as it is. -/
theorem G.draw {P : Program} (g : G P w0 F nt H L [] [] a w) : G P w0 F nt H L [] [] a { w with drawn := w.drawn + 1 } :=
  g.flight (X' := []) trivial List.nodup_nil (fun b hb => by cases hb) (fun b hb => by cases hb) (fun b hb => by cases hb) (fun _ _ _ => rfl) (Nat.le_refl _) rfl rfl rfl
end Go.Tree

/- Trees of values: operations that leave the blocks that are there as they are, whatever their operands. -/
namespace Go.Tree
set_option linter.unusedSectionVars false
set_option linter.unusedVariables false
set_option linter.unusedSimpArgs false
variable {α β : Type}
variable [Pol]

def Keeps (s : Sem α) : Prop := ∀ (P : Program) (w : World) (v : α) (w' : World), s.run P w = .ok v w' → Ext w w'
theorem Keeps.pure (v : α) : Keeps (Pure.pure v : Sem α) := fun P w u w' h => by
  rw [Sem.run_pure] at h
  cases h
  exact Ext.refl w
theorem Keeps.bind {s : Sem α} {f : α → Sem β} (hs : Keeps s) (hf : ∀ v, Keeps (f v)) : Keeps (s >>= f) := fun P w u w' h => by
  rw [Sem.run_bind] at h
  cases e : s.run P w with
  | ok v w1 =>
    rw [e] at h
    exact (hs P w v w1 e).trans (hf v P w1 u w' h)
  | halt x w1 => rw [e] at h; cases h
theorem Keeps.program : Keeps (Go.program) := fun P w v w' h => by
  simp only [run_program] at h
  cases h
  exact Ext.refl w
theorem Keeps.load (a : Addr) : Keeps (Go.load a) := fun P w v w' h => by
  unfold Go.load at h
  simp only [Sem.run] at h
  split at h
  · cases h; exact Ext.refl w
  · split at h
    · cases h; exact Ext.refl w
    · cases h
theorem Keeps.stuck (m : String) : Keeps (Go.stuck m : Sem α) := fun P w v w' h => by cases h
theorem Keeps.unsupported (u : Unsupported) : Keeps (Go.unsupported u : Sem α) := fun P w v w' h => by cases h
theorem Keeps.newObj (o : Obj) : Keeps (Go.newObj o) := fun P w v w' h => by
  rw [run_newObj] at h
  cases h
  refine ⟨by simp, fun k hk => ?_⟩
  simp [Array.getElem?_push, Nat.ne_of_lt hk]
theorem Keeps.choose (q : Question) : Keeps (Go.choose q) := fun P w v w' h => by
  unfold Go.choose at h
  simp only [Sem.run] at h
  split at h
  · cases h; exact Ext.refl w
  · cases h; exact ⟨Nat.le_refl _, fun _ _ => rfl⟩
theorem Keeps.shape (r : Nat) : Keeps (Go.shape r) := fun P w v w' h => by
  unfold Go.shape at h
  simp only [Sem.run] at h
  cases h
  exact Ext.refl w
theorem Keeps.getObj (r : Nat) : Keeps (Go.getObj r) := fun P w v w' h => by
  unfold Go.getObj at h
  simp only [Sem.run] at h
  split at h
  · cases h
  · cases h; exact Ext.refl w
  · cases h
theorem Keeps.goPanic (v : Value) : Keeps (Go.goPanic v : Sem α) := fun P w u w' h => by cases h
theorem Keeps.typeInfo (t : TypeId) : Keeps (Go.typeInfo t) := by
  unfold Go.typeInfo
  refine Keeps.bind .program fun p => ?_
  split
  · exact .pure _
  · exact .stuck _
theorem Keeps.underlying (t : TypeId) : Keeps (Go.underlying t) := by
  unfold Go.underlying
  refine Keeps.bind .program fun p => ?_
  split
  · exact .pure _
  · exact .stuck _
theorem Keeps.sizeOf (t : TypeId) : Keeps (Go.sizeOf t) := Keeps.bind (.typeInfo t) fun _ => .pure _
theorem Keeps.zeroValue (t : TypeId) : Keeps (Go.zeroValue t) := by
  unfold Go.zeroValue
  refine Keeps.bind (.typeInfo t) fun p => ?_
  split
  · exact .pure _
  · exact .unsupported _
theorem Keeps.isAgg (t : TypeId) : Keeps (Go.isAgg t) := by
  unfold Go.isAgg
  refine Keeps.bind (.underlying t) fun p => ?_
  split <;> exact .pure _
theorem Keeps.loadCellsFrom (a : Addr) : ∀ (n i : Nat) (acc : Array Value), Keeps (Go.loadCellsFrom a i n acc)
  | 0, i, acc => by unfold Go.loadCellsFrom; exact .pure _
  | n + 1, i, acc => by unfold Go.loadCellsFrom; exact Keeps.bind (.load _) fun v => Keeps.loadCellsFrom a n _ _
theorem Keeps.loadVar (t : TypeId) (a : Addr) : Keeps (Go.loadVar t a) := by
  unfold Go.loadVar
  refine Keeps.bind (.isAgg t) fun b => ?_
  split
  · exact Keeps.bind (.sizeOf t) fun n => Keeps.bind (.loadCellsFrom a _ _ _) fun cs => .pure _
  · exact .load a
theorem Keeps.sureAddr (v : Value) : Keeps (Instr.sureAddr v) := by
  unfold Instr.sureAddr
  split
  · exact .pure _
  · exact .stuck _
theorem Keeps.loadAt (t : TypeId) (v : Value) : Keeps (Instr.loadAt t v) := Keeps.bind (.sureAddr v) fun a => .loadVar t a
theorem Keeps.newRow (e : TypeId) (cs : Array Value) : Keeps (Go.newRow e cs) := Keeps.bind (.newObj _) fun _ => .pure _
theorem Keeps.elemOf (t : TypeId) : Keeps (Go.elemOf t) := by
  unfold Go.elemOf
  refine Keeps.bind (.underlying t) fun d => ?_
  split
  · exact .pure _
  · exact .stuck _
theorem Keeps.runtimePanic (e : RuntimeError) : Keeps (Go.runtimePanic e : Sem α) := by
  unfold Go.runtimePanic
  refine Keeps.bind .program fun p => ?_
  dsimp only
  split
  · exact .goPanic _
  · exact .goPanic _
  · exact .goPanic _
  · exact .goPanic _
  · exact Keeps.bind (.elemOf _) fun _ => Keeps.bind (.newRow _ _) fun _ => .goPanic _
  · exact Keeps.bind (.elemOf _) fun _ => Keeps.bind (.newRow _ _) fun _ => .goPanic _
  · exact .goPanic _
theorem Keeps.boundsPanic (k : IntKind) (x y : Int) (c : BoundsCode) : Keeps (Go.boundsPanic k x y c : Sem α) := by
  unfold Go.boundsPanic
  dsimp only
  split
  · exact Keeps.bind (Keeps.bind (.choose _) fun _ => .pure _) fun _ => .runtimePanic _
  · exact Keeps.bind (.pure _) fun _ => .runtimePanic _
theorem Keeps.asIntOf (v : Value) : Keeps (Go.asIntOf v) := by
  unfold Go.asIntOf
  split
  · exact .pure _
  · exact .unsupported _
  · exact .stuck _
theorem Keeps.indexAt (t : TypeId) (x i : Value) : Keeps (Instr.indexAt t x i) := by
  unfold Instr.indexAt
  refine Keeps.bind (.asIntOf i) fun ki => ?_
  refine Keeps.bind (.underlying t) fun d => ?_
  have tail : ∀ q : Option Addr × Nat × TypeId, Keeps (do
      let tiny := q.2.1 ≤ 1 && (match ← Go.underlying t with | .array .. => true | _ => false)
      match q.1 with
      | some a =>
        if 0 ≤ ki.2 ∧ ki.2 < q.2.1 then Pure.pure (Value.pointer (some (a.add (ki.2.toNat * (← Go.sizeOf q.2.2)))))
        else if tiny then Go.unsupported (.noEntry "op/indexAddr.an index out of range at an array of length 0 or 1 (ledger 616)")
        else Go.boundsPanic ki.1 ki.2 q.2.1 .index
      | none => Go.boundsPanic ki.1 ki.2 0 .index) := fun q => by
    refine Keeps.bind (.underlying t) fun d => ?_
    dsimp only
    split
    · split
      · exact Keeps.bind (.sizeOf _) fun _ => .pure _
      · split <;> (split <;> first | exact .unsupported _ | exact Keeps.boundsPanic _ _ _ _)
    · exact Keeps.boundsPanic _ _ _ _
  dsimp only
  split
  · rename_i n e
    exact Keeps.bind (.sureAddr _) fun a => tail (some a, n, e)
  · rename_i e b n c
    exact tail (b, n, e)
  · exact Keeps.bind (.stuck _) fun q => tail q
theorem Keeps.len (ts : Array TypeId) (t : TypeId) (args : Array Value) : Keeps (Builtin.len_ ts t args) := by
  unfold Builtin.len_
  split
  · refine Keeps.bind (.underlying _) fun d => ?_
    split
    · exact .pure _
    · exact .pure _
    · refine Keeps.bind (.underlying _) fun d => ?_
      split
      · exact .pure _
      · exact .stuck _
    · exact .pure _
    · exact .pure _
    · exact .pure _
    · refine Keeps.bind (.getObj _) fun d => ?_
      split
      · exact .pure _
      · exact .stuck _
    · refine Keeps.bind (.getObj _) fun d => ?_
      split
      · exact .pure _
      · exact .stuck _
    · exact .stuck _
  · exact .stuck _
theorem Keeps.alloc (e : TypeId) (v : Value) : Keeps (Instr.alloc e true v) := by
  unfold Instr.alloc
  refine Keeps.bind (.zeroValue e) fun z => ?_
  exact Keeps.bind (.newRow _ _) fun _ => .pure _
theorem Keeps.box (e : TypeId) (v : Value) : Keeps (Instr.box e v) := Keeps.bind (.newRow _ _) fun _ => .pure _
theorem Keeps.mapM {γ : Type} (f : γ → Sem β) (hf : ∀ x, Keeps (f x)) : ∀ l : List γ, Keeps (l.mapM f)
  | [] => by rw [List.mapM_nil]; exact .pure _
  | x :: l => by
    rw [List.mapM_cons]
    exact Keeps.bind (hf x) fun _ => Keeps.bind (Keeps.mapM f hf l) fun _ => .pure _
theorem Keeps.map {f : α → β} {s : Sem α} (hs : Keeps s) : Keeps (f <$> s) := by
  rw [← bind_pure_comp]
  exact Keeps.bind hs fun _ => .pure _
theorem Keeps.mapA {γ : Type} (f : γ → Sem β) (hf : ∀ x, Keeps (f x)) (l : Array γ) : Keeps (l.mapM f) := by
  rw [Array.mapM_eq_mapM_toList]
  exact Keeps.map (Keeps.mapM f hf _)
theorem Keeps.build (t : TypeId) (parts : Array (Nat × Value)) : Keeps (Instr.build t parts) := by
  unfold Instr.build
  refine Keeps.bind (.zeroValue t) fun z => ?_
  refine Keeps.bind (.underlying t) fun d => ?_
  split
  · refine Keeps.bind (Keeps.mapA _ (fun f => Keeps.bind (.sizeOf _) fun _ => .pure _) _) fun pl => ?_
    split
    · exact .pure _
    · exact .stuck _
  · refine Keeps.bind (.sizeOf _) fun n => ?_
    split
    · exact .pure _
    · exact .stuck _
  · exact .stuck _
theorem Keeps.buildSlice (t : TypeId) (n : Nat) (parts : Array (Nat × Value)) : Keeps (Instr.buildSlice t n parts) := by
  unfold Instr.buildSlice
  refine Keeps.bind (.underlying t) fun d => ?_
  split
  · rename_i e
    refine Keeps.bind (.sizeOf _) fun sz => ?_
    have tail : ∀ z : Array Value, Keeps (do
        let some cells := Instr.fill (fun i => some (i * sz, sz)) ((Array.range (n * sz)).map (z[· % z.size]!)) parts.toList
          | Go.stuck "buildSlice: a part of the wrong size"
        Pure.pure (Value.slice (some (← Go.newRow e cells)) n n)) := fun z => by
      split
      · exact Keeps.bind (.newRow _ _) fun _ => .pure _
      · exact .stuck _
    dsimp only
    split
    · exact Keeps.bind (.unsupported _) fun _ => by
        split
        · exact tail _
        · exact Keeps.bind (.zeroValue _) fun _ => tail _
    · split
      · exact tail _
      · exact Keeps.bind (.zeroValue _) fun _ => tail _
  · exact .stuck _
theorem Keeps.viewAt (r : Nat) : Keeps (Go.viewAt r) := by
  unfold Go.viewAt
  refine Keeps.bind (.shape _) fun o => ?_
  split
  · exact .pure _
  · refine Keeps.bind (.getObj _) fun o => ?_
    split <;> exact .pure _
theorem Keeps.noView (a : Addr) : Keeps (Go.noView a) := by
  unfold Go.noView
  refine Keeps.bind (.viewAt _) fun o => ?_
  split
  · exact .unsupported _
  · exact .pure _
theorem Keeps.byteOf (a : Addr) : Keeps (Go.byteOf a) := by
  unfold Go.byteOf
  have tail : Keeps (do
      let p ← Go.program
      Go.noView a
      let some (e, _) ← Go.shape a.block | Go.stuck "byteOf: no such block"
      let s := p.cellsOf e
      if s = 0 then return 0
      let some b := byteOfCell p p.depth e (a.off % s) | Go.stuck "byteOf: no such cell"
      Pure.pure (a.off / s * p.bytesOf e + b)) := by
    refine Keeps.bind .program fun p => Keeps.bind (.noView a) fun _ => Keeps.bind (.shape _) fun o => ?_
    split
    · dsimp only
      split
      · exact .pure _
      · split
        · exact .pure _
        · exact .stuck _
    · exact .stuck _
  split
  · exact .pure _
  · exact tail
theorem Keeps.partAt (a : Addr) (c b : Nat) : Keeps (Go.partAt a c b) := by
  unfold Go.partAt
  refine Keeps.bind (.byteOf a) fun _ => Keeps.bind (.byteOf _) fun _ => .pure _
theorem Keeps.fieldPlace (a : Addr) (f : Field) : Keeps (Go.fieldPlace a f) := by
  unfold Go.fieldPlace
  refine Keeps.bind (.sizeOf _) fun n => ?_
  split
  · exact .partAt _ _ _
  · exact .pure _
theorem Keeps.fieldAt (s : TypeId) (x : Value) (f : Nat) : Keeps (Instr.fieldAt s x f) := by
  unfold Instr.fieldAt
  refine Keeps.bind (.underlying s) fun d => ?_
  split
  · split
    · exact Keeps.bind (.sureAddr _) fun a => Keeps.bind (.fieldPlace _ _) fun _ => .pure _
    · exact .stuck _
  · exact .stuck _
theorem tame_v {s : Sem Value} (h : Keeps s) {P : Program} {w w' : World} {n : Next} (hr : (do Pure.pure (Next.value (← s)) : Sem Next).run P w = .ok n w') : (∃ u, n = .value u) ∧ Ext w w' := by
  rw [Sem.run_bind] at hr
  cases e : s.run P w with
  | ok v w1 =>
    rw [e] at hr
    simp only [Result.andThen_ok, Sem.run_pure] at hr
    cases hr
    exact ⟨⟨v, rfl⟩, h P w v _ e⟩
  | halt x w1 => rw [e] at hr; cases hr
theorem tame_ok {o : Oper} (ht : tame o.op = true) {ρ : Operand → Value} {P : Program} {w w' : World} {n : Next} (hr : (execOp ρ o).run P w = .ok n w') : (∃ u, n = .value u) ∧ Ext w w' := by
  unfold execOp at hr
  cases hop : o.op with
  | move x => simp only [hop] at hr; cases hr; exact ⟨⟨_, rfl⟩, Ext.refl w⟩
  | assign x => simp only [hop] at hr; cases hr; exact ⟨⟨_, rfl⟩, Ext.refl w⟩
  | load t x => simp only [hop] at hr; exact tame_v (.loadAt _ _) hr
  | fieldAddr t x f => simp only [hop] at hr; exact tame_v (.fieldAt _ _ _) hr
  | indexAddr t x i => simp only [hop] at hr; exact tame_v (.indexAt _ _ _) hr
  | alloc e => simp only [hop] at hr; exact tame_v (.alloc _ _) hr
  | box e x => simp only [hop] at hr; exact tame_v (.box _ _) hr
  | build t ps => simp only [hop] at hr; exact tame_v (.build _ _) hr
  | buildSlice t m ps => simp only [hop] at hr; exact tame_v (.buildSlice _ _ _) hr
  | call c =>
    obtain ⟨ce, ar, at'⟩ := c
    rw [hop] at ht
    cases ce with
    | builtin b =>
      cases b <;> first | (cases ht; done) | skip
      simp only [hop, resolve] at hr
      exact tame_v (.len _ _ _) hr
    | value x => cases ht
    | invoke => cases ht
  | _ => rw [hop] at ht; cases ht
end Go.Tree

/- Trees of values: regions whose order is drawn. -/
namespace Go.Tree
set_option linter.unusedSectionVars false
set_option linter.unusedVariables false
set_option linter.unusedSimpArgs false
variable {w0 : World} {F : Fm} {nt : Nat} {H : List Value} {L : List (AV Value)} {XD : List Nat} {X : List LT} {a : Act} {w : World} {α : Type} {res : α} {P : Program} {ops : Array Oper} {Q : Exit → Act → World → Prop}
variable [Pol]

theorem quiet_not_load {o : Op} (h : quiet o = true) : ¬ isLoad o = true := by
  cases o <;> first | (simp [isLoad]; done) | (cases h)
theorem YieldsW.quiet {o : Oper} {v : Value} (h : YieldsW P ops o v a w) (hq : Tree.quiet o.op = true) : Yields P ops o v a :=
  h.imp (fun h => ⟨h.1, fun w' => h.2 w' fun hl => absurd hl (quiet_not_load hq)⟩) id
/-- What is listed stands behind what is listed. -/
def Closed (ops : Array Oper) (listed : Array Bool) : Prop := ∀ (j : Nat) (o : Oper), ops[j]? = some o → listed.getD j false = true → ∀ e ∈ o.after, Region.binds .any e = true → listed.getD e.on false = true
theorem Closed.set {listed : Array Bool} (h : Closed ops listed) {i : Nat} (hr : i ∈ Region.ready .any ops listed) : Closed ops (listed.setIfInBounds i true) := fun j o ho hl e he hb => by
  obtain ⟨_, oi, hoi, hall⟩ := mem_ready.1 hr
  by_cases hij : i = j
  · subst hij
    rw [hoi] at ho
    cases ho
    exact getD_set_true (hall e he hb)
  · rw [Go.getD_set_ne false hij] at hl
    exact getD_set_true (h j o ho hl e he hb)
theorem behind_listed {listed : Array Bool} (hc : Closed ops listed) {i : Nat} : ∀ (n j : Nat) (o : Oper), ops[j]? = some o → (∀ e ∈ o.after, Region.binds .any e = true → listed.getD e.on false = true) → behind ops n i j = true → listed.getD i false = true
  | 0, _, _, _, _, h => by cases h
  | n + 1, j, o, ho, hd, h => by
    simp only [behind, ho] at h
    obtain ⟨e, he, hb⟩ := Array.any_eq_true'.1 h
    simp only [Bool.and_eq_true, Bool.or_eq_true, beq_iff_eq] at hb
    have h1 := hd e he hb.1
    rcases hb.2 with h2 | h2
    · rw [← h2]; exact h1
    · cases hoe : ops[e.on]? with
      | none =>
        cases n with
        | zero => cases h2
        | succ n => simp only [behind, hoe] at h2; cases h2
      | some oe => exact behind_listed hc n e.on oe hoe (fun e' he' hb' => hc e.on oe hoe h1 e' he' hb') h2
theorem YieldsW.step {o : Oper} {v : Value} {a' : Act} {w' : World} (h : YieldsW P ops o v a w) (he : execOp a'.eval o = execOp a.eval o) (hw : Region.wanted o (yielded ops a'.tmps) = Region.wanted o (yielded ops a.tmps)) (hx : Ext w w') : YieldsW P ops o v a' w' := by
  unfold YieldsW at *
  rw [he, hw]
  exact h.imp (fun h => ⟨h.1, fun w'' hc => h.2 w'' fun hl => hx.trans (hc hl)⟩) id
theorem YieldsW.wpOp {i : Nat} {o : Oper} {v : Value} (hi : ops[i]? = some o) (hy : YieldsW P ops o v a w) {K : Act → World → Prop} (h : K (a.put o.dst v) w) : wpOp P ops Q i K a w := by
  unfold Go.wpOp
  simp only [hi]
  rcases hy with ⟨hw, hv⟩ | ⟨hw, rfl⟩
  · simp only [hw, if_true, Oper.wp, hv w (fun _ => Ext.refl w), Oper.upon]; exact .inl h
  · simp only [hw, Bool.false_eq_true, if_false]; exact h
theorem wpOp_putW {j : Nat} {oi oj : Oper} {v : Value} (hj : ops[j]? = some oj) (hap : oi.apart ops oj = true) (ht : tame oj.op = true)
    (hsi : ∀ cs b, oi.op ≠ .select cs b) (hsj : ∀ cs b, oj.op ≠ .select cs b)
    (hQ : ∀ c a w, Q (.panic c) (a.put oi.dst v) w → Q (.panic c) a w) {K : Act → World → Prop} {a : Act} {w : World}
    (hy : YieldsW P ops oi v a w) (h : wpOp P ops Q j K (a.put oi.dst v) w) :
    wpOp P ops Q j (fun a' w' => YieldsW P ops oi v a' w' ∧ K (a'.put oi.dst v) w') a w := by
  obtain ⟨h1, h2, h3⟩ := Oper.apart_spec hap
  have keep : ∀ (u : Value) (w' : World), Ext w w' → YieldsW P ops oi v (a.put oj.dst u) w' := fun u w' hx =>
    hy.step (execOp_put oi hsi a oj.dst u h3) (wanted_put oi a oj.dst u h3) hx
  unfold Go.wpOp at *
  simp only [hj] at *
  rw [wanted_put oj a oi.dst v h1] at h
  split
  · rename_i hw
    simp only [hw, if_true] at h
    rcases h with h | ⟨hasks, hlets⟩
    case inr => exact .inr ⟨by unfold Oper.asks at *; rw [execOp_put oj hsj a oi.dst v h1] at hasks; exact hasks, hlets⟩
    refine .inl ?_
    unfold Oper.wp at *
    rw [execOp_put oj hsj a oi.dst v h1] at h
    cases hr : (execOp a.eval oj).run P w with
    | ok n w' =>
      obtain ⟨⟨u, rfl⟩, hx⟩ := tame_ok ht hr
      rw [hr] at h
      simp only [Oper.upon] at h ⊢
      exact ⟨keep u w' hx, by rw [← Act.put_comm a v u h2]; exact h⟩
    | halt x w' =>
      rw [hr] at h
      cases x <;> simp only [Oper.upon] at h ⊢
      case panic u => exact hQ _ _ _ h
  · rename_i hw
    simp only [hw] at h
    exact ⟨keep undef w (Ext.refl w), by rw [← Act.put_comm a v undef h2]; exact h⟩
theorem wpAny_firstW {i : Nat} {oi : Oper} {v : Value} (hi : ops[i]? = some oi) (hsel : ∀ (j : Nat) (o : Oper) cs b, ops[j]? = some o → o.op ≠ .select cs b)
    (hQ : ∀ c a w, Q (.panic c) (a.put oi.dst v) w → Q (.panic c) a w) :
    ∀ (fuel : Nat) (listed : Array Bool) (a : Act) (w : World), Closed ops listed →
      (∀ j oj, ops[j]? = some oj → j ≠ i → listed.getD j true = false → (∀ e ∈ oj.after, Region.binds .any e = true → e.on ≠ i) → oi.apart ops oj = true) →
      (∀ j oj, ops[j]? = some oj → j ≠ i → listed.getD j true = false → tame oj.op = true ∨ behind ops ops.size i j = true) →
      i ∈ Region.ready .any ops listed → YieldsW P ops oi v a w →
      wpAny P .any ops Q fuel (listed.setIfInBounds i true) (a.put oi.dst v) w → wpAny P .any ops Q (fuel + 1) listed a w := by
  intro fuel
  induction fuel with
  | zero =>
    intro listed a w _ _ _ hr hy H
    refine ⟨fun h => (by rw [h] at hr; cases hr), fun j hj => ?_⟩
    by_cases hji : j = i
    · subst hji; exact hy.wpOp hi H
    · have := ready_mono hj hji
      rw [H.1] at this
      cases this
  | succ fuel ih =>
    intro listed a w hcl hfree htame hr hy H
    refine ⟨fun h => (by rw [h] at hr; cases hr), fun j hj => ?_⟩
    by_cases hji : j = i
    · subst hji; exact hy.wpOp hi H
    · have h1 := H.2 j (ready_mono hj hji)
      obtain ⟨hjun, oj, hoj, hall⟩ := mem_ready.1 hj
      have hun : listed.getD i false = true → False := fun h1 => by
        have h0 := (mem_ready.1 hr).1
        rcases Nat.lt_or_ge i listed.size with h' | h'
        · simp [h'] at h0 h1; rw [h0] at h1; cases h1
        · simp [Array.getElem?_eq_none h'] at h1
      have hnot : ∀ e ∈ oj.after, Region.binds .any e = true → e.on ≠ i := fun e he hb heq => hun (by rw [← heq]; exact hall e he hb)
      have ht : tame oj.op = true := (htame j oj hoj hji hjun).resolve_right fun hb => hun (behind_listed hcl _ j oj hoj hall hb)
      have h2 := wpOp_putW hoj (hfree j oj hoj hji hjun hnot) ht (fun cs b => hsel i oi cs b hi) (fun cs b => hsel j oj cs b hoj) hQ hy h1
      have hsub : ∀ k, (listed.setIfInBounds j true).getD k true = false → listed.getD k true = false := fun k hk => by
        by_cases hjk : j = k
        · subst hjk; exact hjun
        · rw [Go.getD_set_ne true hjk] at hk; exact hk
      refine wpOp_mono (fun a' w' h3 => ih (listed.setIfInBounds j true) a' w' (hcl.set hj) (fun k ok hk hki hun' hno => hfree k ok hk hki (hsub k hun') hno) (fun k ok hk hki hun' => htame k ok hk hki (hsub k hun')) (ready_mono hr (Ne.symm hji)) h3.1 ?_) h2
      rw [Array.setIfInBounds_comm _ _ hji]
      exact h3.2
/-- A region in whatever order. -/
theorem evAny_ok {cx : Ctx} {call : FuncId → List TV → Option Res} (hC : CallsOk cx.P cx.sig call) (hN : ∀ (f : FuncId) (fn : Func), cx.P.funcs[f]? = some fn → (fn.name == "runtime.NumGoroutine") = false)
    {fn : Func} {ops : Array Oper} (hfits : ops.toList.all (fitOp nt) = true) (hns : Region.noSelect ops = true) {K : Env → Option α} {Q : Exit → Act → World → Prop} (hQ : ∀ a w, Nxt cx.P w0 F nt H K res a w → Q .normal a w) (hQp : ∀ c a w, ¬ Q (.panic c) a w) :
    ∀ (n : Nat) (listed : Array Bool) {L : List (AV Value)} {a : Act} {w : World}, Closed ops listed → G cx.P w0 F nt H L [] [] a w → evAny cx call fn ops n listed (L.map erA) K = some res → wpAny cx.P .any ops Q n listed a w
  | 0, listed, L, a, w, hcl, g, h => by
    simp only [evAny] at h
    split at h
    · rename_i hr
      exact ⟨hr, hQ a w ⟨L, g, h⟩⟩
    · cases h
  | n + 1, listed, L, a, w, hcl, g, h => by
    simp only [evAny] at h
    split at h
    · rename_i hr
      exact wpAny_done hr (hQ a w ⟨L, g, h⟩) _
    · rename_i rs hne
      split at h
      · rename_i i hi
        have hfi := List.find?_some hi
        have hmem : i ∈ Region.ready .any ops listed := List.mem_of_find?_eq_some hi
        split at h
        · rename_i o ho
          unfold first at hfi
          rw [ho] at hfi
          simp only [Bool.and_eq_true, Bool.or_eq_true] at hfi
          have hst : still o.op = true := by
            rcases hfi.2 with h1 | h1
            · simp [still, h1]
            · simp [still, h1.1]
          obtain ⟨v, hy, L', g', h'⟩ := evOne_still g hfits (Array.mem_of_getElem? ho) hst h
          have hrest := evAny_ok hC hN hfits hns hQ hQp n _ (hcl.set hmem) g' h'
          rcases hfi.2 with hq | hl
          · exact wpAny_take ho hns hfi.1 (by simpa using hmem) (fun c a w hq => absurd hq (hQp _ _ _)) (hy.quiet hq) hrest
          · refine wpAny_firstW ho (Region.noSelect_spec hns) (fun c a w hq => absurd hq (hQp _ _ _)) n listed a w hcl (Region.free_spec ho hfi.1) (fun j oj hoj hji hun => ?_) hmem hy hrest
            have := List.all_eq_true.1 hl.2 j (List.mem_range.2 (Array.getElem?_eq_some_iff.1 hoj).1)
            simp only [hoj, Option.any_some, Bool.or_eq_true, beq_iff_eq, hji, false_or, hun, Bool.false_eq_true] at this
            exact this
        · cases h
      · have hall := amb_spec h
        refine wpAny_all rfl (by intro h0; exact hne h0) fun i hi => ?_
        have h1 := hall _ (List.mem_map.2 ⟨i, hi, rfl⟩)
        split at h1
        · rename_i o ho
          unfold Go.wpOp
          rw [ho]
          simp only
          rcases evOne_ok hC hN g hfits (Array.mem_of_getElem? ho) h1 with ⟨hw, h2⟩ | ⟨hw, L', g', h2⟩
          · rw [if_pos hw]
            exact .inl (Oper.wp_mono (fun a' w' ⟨L', g', h'⟩ => evAny_ok hC hN hfits hns hQ hQp n _ (hcl.set hi) g' h') (h2 Q))
          · rw [if_neg (by rw [hw]; simp)]
            exact evAny_ok hC hN hfits hns hQ hQp n _ (hcl.set hi) g' h2
        · cases h1
theorem closed_none (ops : Array Oper) (n : Nat) : Closed ops (Array.replicate n false) := fun j o ho hl => by
  simp only [Array.getD_eq_getD_getElem?, Array.getElem?_replicate] at hl
  split at hl <;> cases hl
end Go.Tree

/- Trees of values: code. -/
namespace Go.Tree
set_option linter.unusedSectionVars false
set_option linter.unusedVariables false
set_option linter.unusedSimpArgs false
variable {w0 : World} {F : Fm} {nt : Nat} {H : List Value} {L : List (AV Value)} {XD : List Nat} {X : List LT} {a : Act} {w : World} {α : Type} {res : α}
variable [Pol]

/-- What must hold behind a piece of code. -/
structure Qs (P : Program) (w0 : World) (F : Fm) (nt : Nat) (H : List Value) (K : Ex → Env → Option α) (res : α) (Q : Exit → Act → World → Prop) : Prop where
  normal : ∀ a w, Nxt P w0 F nt H (K .normal) res a w → Q .normal a w
  exit : ∀ i a w, Nxt P w0 F nt H (K (.exit i)) res a w → Q (.exit i) a w
  ret : ∀ a w, Nxt P w0 F nt H (K .ret) res a w → Q .ret a w
  panic : ∀ c a w, ¬ Q (.panic c) a w
theorem keepAV_er (ks : List Nat) (v : AV Value) : keepAV ks (erA v) = erA (keepAV ks v) := by
  cases v <;> simp only [erA, keepAV] <;> (try split) <;> rfl
theorem havoc_er (ks : List Nat) (L : List (AV Value)) : havoc ks (L.map erA) = (havoc ks L).map erA := by
  unfold havoc
  refine List.ext_getElem? fun i => ?_
  simp only [List.getElem?_mapIdx, List.getElem?_map]
  cases L[i]? with
  | none => rfl
  | some v =>
    simp only [Option.map_some]
    split
    · rw [keepAV_er]
    · rfl
theorem havoc_slot (ks : List Nat) (L : List (AV Value)) (i : Nat) : slot (havoc ks L) i = slot L i ∨ slot (havoc ks L) i = .un := by
  simp only [slot, havoc, List.getD_eq_getElem?_getD, List.getElem?_mapIdx]
  cases L[i]? with
  | none => right; rfl
  | some v =>
    simp only [Option.map_some, Option.getD_some]
    split
    · cases v <;> simp only [keepAV] <;> (try split) <;> simp
    · right; rfl
theorem G.havoc {P : Program} (g : G P w0 F nt H L XD X a w) (ks : List Nat) : G P w0 F nt H (Tree.havoc ks L) XD X a w :=
  g.drop (by simp [Tree.havoc]) (havoc_slot ks L)
/-- The least number. -/
theorem least {S : Nat → Prop} (h : ∃ m, S m) : ∃ m, S m ∧ ∀ k, S k → m ≤ k := by
  obtain ⟨m, hm⟩ := h
  induction m using Nat.strongRecOn with
  | ind m ih =>
    by_cases hk : ∃ k, k < m ∧ S k
    · obtain ⟨k, h1, h2⟩ := hk
      exact ih k h1 h2
    · refine ⟨m, hm, fun k hk' => ?_⟩
      rcases Nat.lt_or_ge k m with h1 | h1
      · exact absurd ⟨k, h1, hk'⟩ hk
      · exact h1
theorem cutE_er (cx : Ctx) (f : FuncId) (c : Code) (L : List (AV Value)) : cutE cx f c (L.map erA) = (cutE cx f c L).map erA := by
  unfold cutE
  split
  · exact havoc_er _ L
  · rfl
theorem G.cut {P : Program} (g : G P w0 F nt H L XD X a w) (cx : Ctx) (f : FuncId) (c : Code) : G P w0 F nt H (cutE cx f c L) XD X a w := by
  unfold cutE
  split
  · exact g.havoc _
  · exact g
theorem ev_ok {cx : Ctx} {call : FuncId → List TV → Option Res} (hC : CallsOk cx.P cx.sig call) (hN : ∀ (f : FuncId) (fn : Func), cx.P.funcs[f]? = some fn → (fn.name == "runtime.NumGoroutine") = false) (hm : cx.P.follows .mixedOrders = true)
    {f : FuncId} {fn : Func} {n : Nat} : ∀ (c : Code), fitCode nt c = true → ∀ {K : Ex → Env → Option α} {Q : Exit → Act → World → Prop} {L : List (AV Value)} {a : Act} {w : World}, G cx.P w0 F nt H L [] [] a w → ev cx call f fn n c K (L.map erA) = some res → Qs cx.P w0 F nt H K res Q → c.wp cx.P Q a w
  | .skip, _, K, Q, L, a, w, g, h, hQ => wp_skip (hQ.normal a w ⟨L, g, h⟩)
  | .region id ops draw, hf, K, Q, L, a, w, g, h, hQ => by
    simp only [fitCode, Bool.and_eq_true] at hf
    simp only [ev] at h
    cases draw with
    | true => exact wp_region_any hm (evAny_ok hC hN hf.1 hf.2 hQ.normal hQ.panic _ _ (closed_none ops _) g.draw h)
    | false => exact wp_region_list (evList_ok hC hN hf.1 hQ.normal _ (fun o ho => Array.mem_toList_iff.1 ho) g h)
  | .seq x y, hf, K, Q, L, a, w, g, h, hQ => by
    simp only [fitCode, Bool.and_eq_true] at hf
    simp only [ev] at h
    refine wp_seq (ev_ok hC hN hm x hf.1 g h ⟨fun a' w' hn => ?_, fun i a' w' hn => hQ.exit i a' w' hn, fun a' w' hn => hQ.ret a' w' hn, hQ.panic⟩)
    obtain ⟨L', g', h'⟩ := hn
    exact ev_ok hC hN hm y hf.2 (g'.cut cx f y) (by rw [← cutE_er]; exact h') hQ
  | .cond c x y, hf, K, Q, L, a, w, g, h, hQ => by
    simp only [fitCode, Bool.and_eq_true] at hf
    simp only [ev] at h
    split at h
    · rename_i t hc
      have e := flatO_ok g hf.1.1 hc
      cases t with
      | true => exact wp_cond_true e (ev_ok hC hN hm x hf.1.2 g h hQ)
      | false => exact wp_cond_false e (ev_ok hC hN hm y hf.2 g h hQ)
    · cases h
  | .block id c, hf, K, Q, L, a, w, g, h, hQ => by
    simp only [fitCode] at hf
    simp only [ev] at h
    refine wp_block (ev_ok hC hN hm c hf g h ⟨fun a' w' hn => hQ.normal a' w' hn, fun i a' w' hn => ?_, fun a' w' hn => hQ.ret a' w' hn, hQ.panic⟩)
    obtain ⟨L', g', h'⟩ := hn
    simp only at h'
    by_cases hi : i = id
    · rw [if_pos hi] at h'
      simp only [Exit.inBlock, if_pos hi]
      exact hQ.normal a' w' ⟨L', g', h'⟩
    · rw [if_neg hi] at h'
      simp only [Exit.inBlock, if_neg hi]
      exact hQ.exit i a' w' ⟨L', g', h'⟩
  | .loop c, hf, K, Q, L, a, w, g, h, hQ => by
    simp only [fitCode] at hf
    simp only [ev] at h
    classical
    let S : Act → World → Nat → Prop := fun a w m => ∃ L, G cx.P w0 F nt H L [] [] a w ∧ evLoop (ev cx call f fn n c) (havoc (cx.keep f (firstRegion c))) m K (L.map erA) = some res
    refine wp_loop (fun a w => ∃ m, S a w m) (fun a w => if hx : ∃ m, S a w m then (least hx).choose else 0) ⟨n, _, g.havoc _, by rw [← havoc_er]; exact h⟩ (fun a w hI => ?_)
    have hmin := (least hI).choose_spec.1
    rw [dif_pos hI]
    generalize (least hI).choose = m at hmin
    obtain ⟨L, g, h⟩ := hmin
    cases m with
    | zero => cases h
    | succ m =>
      simp only [evLoop] at h
      refine ev_ok hC hN hm c hf g h ⟨fun a' w' hn => ?_, fun i a' w' hn => hQ.exit i a' w' hn, fun a' w' hn => hQ.ret a' w' hn, hQ.panic⟩
      obtain ⟨L', g', h'⟩ := hn
      have h' : evLoop (ev cx call f fn n c) (havoc (cx.keep f (firstRegion c))) m K ((Tree.havoc (cx.keep f (firstRegion c)) L').map erA) = some res := by rw [← havoc_er]; exact h'
      have hS : ∃ m, S a' w' m := ⟨m, _, g'.havoc _, h'⟩
      refine ⟨hS, ?_⟩
      rw [dif_pos hS]
      exact Nat.lt_succ_of_le ((least hS).choose_spec.2 m ⟨_, g'.havoc _, h'⟩)
  | .exit id, _, K, Q, L, a, w, g, h, hQ => wp_exit (hQ.exit id a w ⟨L, g, h⟩)
  | .ret, _, K, Q, L, a, w, g, h, hQ => wp_ret (hQ.ret a w ⟨L, g, h⟩)
  | .rangeFunc .., _, K, Q, L, a, w, g, h, hQ => by simp [ev] at h
  | .scope _, _, K, Q, L, a, w, g, h, hQ => by simp [ev] at h
  | .label _, _, K, Q, L, a, w, g, h, hQ => by simp [ev] at h
  | .goto _, _, K, Q, L, a, w, g, h, hQ => by simp [ev] at h
  | .refuse _, _, K, Q, L, a, w, g, h, hQ => by simp [ev] at h
end Go.Tree

/- Trees of values: functions. -/
namespace Go.Tree
set_option linter.unusedSectionVars false
set_option linter.unusedVariables false
set_option linter.unusedSimpArgs false
variable {w0 : World} {F : Fm} {nt : Nat} {H : List Value} {L : List (AV Value)} {XD : List Nat} {X : List LT} {a : Act} {w : World} {α : Type} {res : α}
variable [Pol]

theorem env0_er (fn : Func) (ws : List Bool) (Ts : List LT) : (env0 fn ws Ts).map erA = env0 fn ws (Ts.map er) := by
  refine List.ext_getElem? fun i => ?_
  simp only [env0, List.map_append, List.map_map, List.length_map, List.map_replicate, erA]
  congr 1
  congr 1
  · congr 1
    refine List.ext_getElem? fun i => ?_
    simp only [List.getElem?_map, List.getElem?_zipIdx, Option.map_map]
    cases Ts[i]? with
    | none => rfl
    | some T => simp only [Option.map_some, Function.comp]; split <;> rfl
  · refine List.ext_getElem? fun i => ?_
    simp only [List.getElem?_map, List.getElem?_zipIdx, Option.map_map]
    cases Ts[i]? with
    | none => rfl
    | some T => simp only [Option.map_some, Function.comp]; split <;> rfl
theorem env0_slot {fn : Func} {ws : List Bool} {Ts : List LT} (hn : Ts.length ≤ fn.ntmps) (i : Nat) :
    slot (env0 fn ws Ts) i = (match Ts[i]? with | some T => (if ws.getD i false then AV.ref (fn.ntmps + i) [] none (fn.params.getD i 0) false else AV.val [] T) | none => match (if fn.ntmps ≤ i then Ts[i - fn.ntmps]? else none) with | some T => (if ws.getD (i - fn.ntmps) false then AV.val [] T else .un) | none => .un) := by
  simp only [slot, env0, List.getD_eq_getElem?_getD]
  rcases Nat.lt_or_ge i Ts.length with h1 | h1
  · rw [List.getElem?_append_left (by simp; omega), List.getElem?_append_left (by simp; omega)]
    simp only [List.getElem?_map, List.getElem?_zipIdx, List.getElem?_eq_getElem h1, Option.map_some, Option.getD_some, Nat.zero_add]
  · rw [List.getElem?_eq_none h1]
    rcases Nat.lt_or_ge i fn.ntmps with h2 | h2
    · rw [List.getElem?_append_left (by simp; omega), List.getElem?_append_right (by simp; omega)]
      simp only [if_neg (show ¬ fn.ntmps ≤ i by omega)]
      rw [List.getElem?_replicate]
      split <;> rfl
    · rw [List.getElem?_append_right (by simp; omega)]
      simp only [if_pos h2, List.length_append, List.length_map, List.length_zipIdx, List.length_replicate]
      have e : i - (Ts.length + (fn.ntmps - Ts.length)) = i - fn.ntmps := by omega
      rw [e]
      simp only [List.getElem?_map, List.getElem?_zipIdx, Option.map_map]
      cases Ts[i - fn.ntmps]? with
      | none => rfl
      | some T => simp only [Option.map_some, Option.getD_some, Function.comp, Nat.zero_add, List.getD_eq_getElem?_getD]
theorem Wm_get : ∀ {ws : List Bool} {Ts : List LT}, Wm false ws Ts → ∀ {i : Nat} {T : LT}, Ts[i]? = some T → (ws.getD i false = false → own T = []) ∧ (ws.getD i false = true → isSt T = false)
  | ws, [], _, i, T, hT => by simp at hT
  | ws, U :: Ts, h, 0, T, hT => by
    simp only [List.getElem?_cons_zero, Option.some.injEq] at hT
    subst hT
    have e : ws.getD 0 false = ws.headD false := by cases ws <;> rfl
    rw [e]; exact ⟨h.1, fun hw => h.2.1 hw rfl⟩
  | ws, U :: Ts, h, i + 1, T, hT => by
    have e : ws.getD (i + 1) false = ws.tail.getD i false := by cases ws <;> simp
    rw [e]
    exact Wm_get h.2.2 (by simpa using hT)
/-- Slots of the arguments. -/
theorem own_at : ∀ {Ts : List LT} {i j : Nat} {T U : LT}, (ownL Ts).Nodup → Ts[i]? = some T → Ts[j]? = some U → ∀ b ∈ own T, b ∈ own U → i = j
  | [], i, j, T, U, _, hT, _, b, _, _ => by simp at hT
  | V :: Ts, i, j, T, U, hn, hT, hU, b, h1, h2 => by
    simp only [ownL] at hn
    obtain ⟨n1, n2, n3⟩ := List.nodup_append.1 hn
    cases i with
    | zero =>
      simp only [List.getElem?_cons_zero, Option.some.injEq] at hT
      subst hT
      cases j with
      | zero => rfl
      | succ j =>
        exfalso
        exact n3 b h1 b (ownL_mem (List.mem_of_getElem? (by simpa using hU)) b h2) rfl
    | succ i =>
      cases j with
      | zero =>
        simp only [List.getElem?_cons_zero, Option.some.injEq] at hU
        subst hU
        exfalso
        exact n3 b h2 b (ownL_mem (List.mem_of_getElem? (by simpa using hT)) b h1) rfl
      | succ j => exact congrArg (· + 1) (own_at n2 (i := i) (j := j) (by simpa using hT) (by simpa using hU) b h1 h2)
theorem own_nd : ∀ {Ts : List LT}, (ownL Ts).Nodup → ∀ {T : LT}, T ∈ Ts → (own T).Nodup
  | [], _, T, hT => by cases hT
  | U :: Ts, hn, T, hT => by
    simp only [ownL] at hn
    obtain ⟨n1, n2, _⟩ := List.nodup_append.1 hn
    rcases List.mem_cons.1 hT with h | h
    · rw [h]; exact n1
    · exact own_nd n2 h
/-- A function is entered. -/
theorem enter_ok {P : Program} {fn : Func} {ws : List Bool} {Ts : List LT} (hn : Ts.length ≤ fn.ntmps) (hm : MemL w Ts) (hnd : (ownL Ts).Nodup) (hxx : ∀ b ∈ shrL Ts, b ∉ ownL Ts) (hwm : Wm false ws Ts) :
    G P w ⟨ownL Ts, shrL Ts⟩ fn.ntmps (Ts.map valOf) (env0 fn ws Ts) [] [] { tmps := (Ts.map valOf).toArray ++ Array.replicate (fn.ntmps - (Ts.map valOf).toArray.size) undef, defers := [] } w := by
  have hs := env0_slot (ws := ws) hn
  -- what a slot may be
  have key : ∀ i, (∃ T j, Ts[j]? = some T ∧ slot (env0 fn ws Ts) i = .val [] T ∧ (own T ≠ [] → i = fn.ntmps + j)) ∨ (ownA (slot (env0 fn ws Ts) i) = [] ∧ shrA (slot (env0 fn ws Ts) i) = [] ∧ ∀ w, MemA w (slot (env0 fn ws Ts) i)) := by
    intro i
    rw [hs]
    cases h1 : Ts[i]? with
    | some T =>
      simp only
      cases hw : ws.getD i false with
      | true => right; simp [ownA, shrA, MemA]
      | false => left; exact ⟨T, i, h1, by simp, fun h => absurd ((Wm_get hwm h1).1 hw) h⟩
    | none =>
      simp only
      split
      · rename_i T h2
        split at h2
        · rename_i hle
          cases hw : ws.getD (i - fn.ntmps) false with
          | true => left; exact ⟨T, _, h2, by simp, fun _ => by omega⟩
          | false => right; simp [ownA, shrA, MemA]
        · cases h2
      · right; simp [ownA, shrA, MemA]
  have hown : ∀ i b, b ∈ ownA (slot (env0 fn ws Ts) i) → ∃ T j, Ts[j]? = some T ∧ b ∈ own T ∧ i = fn.ntmps + j := fun i b hb => by
    rcases key i with ⟨T, j, h1, h2, h3⟩ | ⟨h1, _⟩
    · rw [h2] at hb
      have hb : b ∈ own T := hb
      exact ⟨T, j, h1, hb, h3 fun h => by rw [h] at hb; cases hb⟩
    · rw [h1] at hb; cases hb
  have hshr : ∀ i b, b ∈ shrA (slot (env0 fn ws Ts) i) → b ∈ shrL Ts := fun i b hb => by
    rcases key i with ⟨T, j, h1, h2, _⟩ | ⟨_, h1, _⟩
    · rw [h2] at hb; exact shrL_mem (List.mem_of_getElem? h1) b hb
    · rw [h1] at hb; cases hb
  have hownL : ∀ i b, b ∈ ownA (slot (env0 fn ws Ts) i) → b ∈ ownL Ts := fun i b hb => by
    obtain ⟨T, j, h1, h2, _⟩ := hown i b hb
    exact ownL_mem (List.mem_of_getElem? h1) b h2
  refine ⟨rfl, by simp; omega, by simp [env0]; omega, fun i hi => ?_, fun j v hj => ?_, fun i => ?_, trivial, ⟨fun i => ?_, fun i j b h1 h2 => ?_, fun i b h1 h2 => hxx b (hshr i b h1) (hownL i b h2), fun i j b h1 h2 => absurd (hownL j b h2) (hxx b (hshr i b h1)), List.nodup_nil, (fun i b hx => by cases hx), (fun i b _ hx => by cases hx), (fun b hx => by cases hx), (fun j b hx => by cases hx)⟩, fun i b hb => .inl (hownL i b hb), (fun b hb => by cases hb), ⟨rfl, rfl, rfl, Nat.le_refl _, fun _ _ _ => rfl⟩, fun i b hb => .inl (hshr i b hb), (fun b hb => by cases hb)⟩
  · rw [hs]
    cases h1 : Ts[i]? with
    | none =>
      simp only [if_neg (show ¬ fn.ntmps ≤ i by omega)]
      trivial
    | some T =>
      have hlt : i < Ts.length := (List.getElem?_eq_some_iff.1 h1).1
      have hv : ((Ts.map valOf).toArray ++ Array.replicate (fn.ntmps - (Ts.map valOf).toArray.size) undef).getD i undef = valOf T := by
        have h2 := (List.getElem?_eq_some_iff.1 h1).2
        simp [Array.getD_eq_getD_getElem?, Array.getElem?_append, hlt, h2]
      simp only [hv]
      cases hw : ws.getD i false with
      | false => simp [SlotOk]
      | true =>
        simp only [if_true]
        intro deps t ht
        rw [hs] at ht
        rw [List.getElem?_eq_none (by omega)] at ht
        simp only [if_pos (Nat.le_add_right _ _), Nat.add_sub_cancel_left, h1, hw, if_true] at ht
        cases ht
        exact ⟨trivial, rfl, fun _ => (Wm_get hwm h1).2 hw⟩
  · rw [hs]
    have h0 : Ts[fn.ntmps + j]? = none := List.getElem?_eq_none (by
      have : j < Ts.length := by have := (List.getElem?_eq_some_iff.1 hj).1; simpa using this
      omega)
    rw [h0]
    simp only [if_pos (Nat.le_add_right _ _), Nat.add_sub_cancel_left]
    rw [List.getElem?_map] at hj
    cases h1 : Ts[j]? with
    | none => rw [h1] at hj; cases hj
    | some T =>
      rw [h1] at hj
      simp only [Option.map_some, Option.some.injEq] at hj
      simp only
      split
      · exact hj
      · trivial
  · rcases key i with ⟨T, j, h1, h2, _⟩ | ⟨_, _, h3⟩
    · rw [h2]; exact memL_iff.1 hm T (List.mem_of_getElem? h1)
    · exact h3 w
  · rcases key i with ⟨T, j, h1, h2, _⟩ | ⟨h1, _⟩
    · rw [h2]; exact own_nd hnd (List.mem_of_getElem? h1)
    · rw [h1]; exact List.nodup_nil
  · obtain ⟨T, i', h3, h4, rfl⟩ := hown i b h1
    obtain ⟨U, j', h5, h6, rfl⟩ := hown j b h2
    rw [own_at hnd h3 h5 b h4 h6]
end Go.Tree
