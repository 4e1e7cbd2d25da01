/- Trees of values, third part: functions, points of a program, what a law is handed. Conditions: none. -/
import Derived.Test.YtipikejhchpfnaaTree2
import Derived.Deep.Slices
import Derived.ChangeArms
import Derived.WideShapes
import Derived.Below
/- Trees of values: what a function hands back; all functions. -/
namespace Go.Tree
set_option linter.unusedSectionVars false
set_option linter.unusedVariables false
set_option linter.unusedSimpArgs false
variable {P : Program} {w0 : World} {F : Fm} {nt : Nat} {H : List Value} {L : List (AV Value)} {XD : List Nat} {X : List LT} {a : Act} {w : World} {α : Type} {res : α}
variable [Pol]

/-- Trees that stand in hidden slots, one behind the other. -/
def At (L : List (AV Value)) (nt : Nat) : Nat → List LT → Prop
  | _, [] => True
  | j, V :: Vs => ∃ i, j ≤ i ∧ slot L (nt + i) = .val [] V ∧ At L nt (i + 1) Vs
theorem At.mono : ∀ {Vs : List LT} {i j : Nat}, i ≤ j → At L nt j Vs → At L nt i Vs
  | [], _, _, _, _ => trivial
  | V :: Vs, i, j, h, ⟨k, h1, h2⟩ => ⟨k, Nat.le_trans h h1, h2⟩
theorem At.mem : ∀ {Vs : List LT} {j : Nat}, At L nt j Vs → ∀ V ∈ Vs, ∃ i, j ≤ i ∧ slot L (nt + i) = .val [] V
  | [], _, _, V, hV => by cases hV
  | U :: Vs, j, ⟨k, h1, h2, h3⟩, V, hV => by
    rcases List.mem_cons.1 hV with h | h
    · exact ⟨k, h1, by rw [h]; exact h2⟩
    · obtain ⟨i, h4, h5⟩ := h3.mem V h
      exact ⟨i, by omega, h5⟩
theorem At.own {Vs : List LT} {j : Nat} (h : At L nt j Vs) {b : Nat} (hb : b ∈ ownL Vs) : ∃ i, j ≤ i ∧ b ∈ ownA (slot L (nt + i)) := by
  rw [ownL_eq] at hb
  obtain ⟨V, hV, hb⟩ := List.mem_flatMap.1 hb
  obtain ⟨i, h1, h2⟩ := h.mem V hV
  exact ⟨i, h1, by rw [h2]; exact hb⟩
theorem At.shr {Vs : List LT} {j : Nat} (h : At L nt j Vs) {b : Nat} (hb : b ∈ shrL Vs) : ∃ i, slot L (nt + i) = .val [] (Vs.getD 0 (.dead default)) ∨ True := ⟨0, .inr trivial⟩
theorem At.shr' {Vs : List LT} {j : Nat} (h : At L nt j Vs) {b : Nat} (hb : b ∈ shrL Vs) : ∃ i V, slot L (nt + i) = .val [] V ∧ b ∈ Tree.shr V := by
  rw [shrL_eq] at hb
  obtain ⟨V, hV, hb⟩ := List.mem_flatMap.1 hb
  obtain ⟨i, h1, h2⟩ := h.mem V hV
  exact ⟨i, V, h2, hb⟩
theorem At.nodup (dj : Dj L XD X) : ∀ {Vs : List LT} {j : Nat}, At L nt j Vs → (ownL Vs).Nodup
  | [], _, _ => List.nodup_nil
  | V :: Vs, j, ⟨k, h1, h2, h3⟩ => by
    simp only [ownL]
    refine List.nodup_append.2 ⟨by have := dj.nd (nt + k); rw [h2] at this; exact this, h3.nodup dj, fun b hb c hc hbc => ?_⟩
    subst hbc
    obtain ⟨i, h4, h5⟩ := h3.own hc
    have := dj.dj (nt + k) (nt + i) b (by rw [h2]; exact hb) h5
    omega
theorem lent_nil' : ∀ (cs : List Bool) (Ts : List LT), Lent [] cs Ts []
  | _, [] => rfl
  | cs, T :: Ts => .inr ⟨.inl rfl, lent_nil' cs.tail Ts⟩
theorem fins_ok {Ts0 : List LT} {w' : World} (g : G P w0 F nt (Ts0.map valOf) L XD X a w') (hm : MemL w0 Ts0) {ws0 : List Bool} (hwm : Wm false ws0 Ts0) : ∀ (ws cs : List Bool) (Ts : List LT) (j : Nat) (us : List TV), Ts = Ts0.drop j → ws = ws0.drop j → ws.length ≤ Ts.length → fins (L.map erA) nt ws cs j = some us →
    ∃ Vs, us = Vs.map er ∧ Lent ws cs Ts Vs ∧ At L nt j Vs
  | [], cs, Ts, j, us, _, _, _, h => by
    simp only [fins, Option.some.injEq] at h
    exact ⟨[], by rw [← h]; rfl, lent_nil' cs Ts, trivial⟩
  | false :: ws, cs, Ts, j, us, hT, hw, hl, h => by
    cases Ts with
    | nil => simp at hl
    | cons T Ts =>
      simp only [fins] at h
      obtain ⟨Vs, h1, h2, h3⟩ := fins_ok g hm hwm ws cs.tail Ts (j + 1) us (by have := congrArg List.tail hT; simpa using this) (by have := congrArg List.tail hw; simpa using this) (by simpa using hl) h
      exact ⟨Vs, h1, .inr ⟨.inl rfl, h2⟩, h3.mono (by omega)⟩
  | true :: ws, cs, Ts, j, us, hT, hw, hl, h => by
    cases Ts with
    | nil => simp at hl
    | cons T Ts =>
      have hT' : Ts = Ts0.drop (j + 1) := by have := congrArg List.tail hT; simpa using this
      have hw' : ws = ws0.drop (j + 1) := by have := congrArg List.tail hw; simpa using this
      have hl' : ws.length ≤ Ts.length := by simpa using hl
      simp only [fins] at h
      cases hc : cs.headD false with
      | true =>
        rw [hc] at h
        simp only [if_true] at h
        obtain ⟨Vs, h1, h2, h3⟩ := fins_ok g hm hwm ws cs.tail Ts (j + 1) us hT' hw' hl' h
        exact ⟨Vs, h1, .inr ⟨.inr hc, h2⟩, h3.mono (by omega)⟩
      | false =>
        rw [hc] at h
        simp only [Bool.false_eq_true, if_false] at h
        rw [slot_er] at h
        split at h
        · rename_i t ht
          obtain ⟨V, e, rfl⟩ := erA_val ht
          obtain ⟨us', h', rfl⟩ := Option.map_eq_some_iff.1 h
          obtain ⟨Vs, h1, h2, h3⟩ := fins_ok g hm hwm ws cs.tail Ts (j + 1) us' hT' hw' hl' h'
          have hTj : Ts0[j]? = some T := by
            have : (Ts0.drop j)[0]? = some T := by rw [← hT]; rfl
            simpa using this
          have hwj : ws0.getD j false = true := by
            have : (ws0.drop j)[0]? = some true := by rw [← hw]; rfl
            have h5 : ws0[j]? = some true := by simpa using this
            simp [List.getD_eq_getElem?_getD, h5]
          have hh := g.hid j (valOf T) (by rw [List.getElem?_map, hTj]; rfl)
          rw [e] at hh
          have hmV := g.mem (nt + j)
          rw [e] at hmV
          exact ⟨V :: Vs, by rw [h1]; rfl, .inl ⟨rfl, hc, V, Vs, rfl, hh, h2⟩, j, Nat.le_refl _, e, h3⟩
        · cases h
def resV (tmps : Array Value) (v : ResultVar) : Sem Value :=
  match v with
  | .tmp t => pure (tmps.getD t undef)
  | .cell a t => do loadVar t (← asAddr (tmps.getD a undef))
theorem run_loadVarT {P : Program} {ty : TypeId} {b o : Nat} {T : LT} (hr : w.rangeAt b o (cells T)) (hf : okTy P ty = true ∧ isSt T = isAggT P ty ∧ (cells T).length = P.cellsOf ty ∧ P.cellsOf ty ≠ 0) : (loadVar ty ⟨b, o, none⟩).run P w = .ok (valOf T) w := by
  have := run_loadT hr hf
  simpa [Instr.loadAt, Instr.sureAddr] using this
/-- The results, as they are read. -/
theorem takeRes_ok {P : Program} : ∀ (l : List ResultVar) {XD : List Nat} {X : List LT} {L : List (AV Value)} (g : G P w0 F nt H L XD X a w) {K : List Nat → List TV → Env → Option α}, takeRes P nt XD (L.map erA) l K = some res →
    ∃ D Ts L', K D (Ts.map er) (L'.map erA) = some res ∧ G P w0 F nt H L' D (X ++ Ts) a w ∧ (l.mapM (resV a.tmps)).run P w = .ok (Ts.map valOf) w
  | [], XD, X, L, g, K, h => ⟨XD, [], L, h, by simpa using g, rfl⟩
  | .tmp t :: l, XD, X, L, g, K, h => by
    simp only [takeRes] at h
    cases hb : (!decide (t < nt) || XD.any (rootOf (L.map erA) (.tmp t))) with
    | true => rw [hb] at h; cases h
    | false =>
      rw [hb] at h
      simp only [Bool.or_eq_false_iff, Bool.not_eq_false', decide_eq_true_eq] at hb
      rw [cond_false] at h
      obtain ⟨D, T, L1, h, g1, hv⟩ := take_ok g hb.1 (rootOf_spec rfl hb.2) h
      obtain ⟨D2, Ts, L2, h, g2, hvs⟩ := takeRes_ok l g1 h
      refine ⟨D2, T :: Ts, L2, h, by simpa using g2, ?_⟩
      rw [List.mapM_cons]
      simp only [Sem.run_bind, resV, Sem.run_pure, Result.andThen_ok, hvs, List.map_cons, hv]
  | .cell t ty :: l, XD, X, L, g, K, h => by
    simp only [takeRes] at h
    cases hb : (!decide (t < nt) || XD.contains t) with
    | true => rw [hb] at h; cases h
    | false =>
      rw [hb] at h
      simp only [Bool.or_eq_false_iff, Bool.not_eq_false', decide_eq_true_eq] at hb
      obtain ⟨hlt, hX⟩ := hb
      rw [cond_false, slot_er] at h
      split at h
      · rename_i deps hh u hs
        obtain ⟨T, e, e2⟩ := erA_val hs
        obtain ⟨hd, U, rfl, rfl⟩ := er_pt_inv e2.symm
        cases hf : fitsTy P ty (er U) with
        | false => rw [hf] at h; cases h
        | true =>
          rw [hf, cond_true] at h
          have hm := g.mem t
          have hso := g.slots t hlt
          rw [e] at hm hso
          have hm : Mem w (.pt false hd U) := hm
          have hso : a.tmps.getD t undef = hd := hso
          have g1 := take_core (p := []) (u' := .pt false hd U) (T' := deaden (.pt false hd U)) g e (by simpa using hX) (Vk.refl _) hm trivial (Vk.refl _) hm rfl (by simp [Flt]) rfl
          have hsl : t < L.length := Nat.lt_of_lt_of_le hlt g.len
          have g2 : G P w0 F nt H (putS L t .un) (XD ++ deps) (X ++ [.pt false hd U]) a w := g1.drop (by simp [putS]) (fun i => by
            rw [putS, slot_set, slot_set, slot_map L _ (killS_un t), slot_map L _ (killC_un t [])]
            by_cases c : t = i
            · subst c; simp [hsl]
            · simp only [c, false_and, if_false]
              exact killS_killC t _)
          have hmX := g2.memX
          have g3 : G P w0 F nt H (putS L t .un) (XD ++ deps) (X ++ [U]) a w := g2.swap (memL_iff.2 fun x hx => by
              rcases List.mem_append.1 hx with hx | hx
              · exact memL_iff.1 hmX x (List.mem_append.2 (.inl hx))
              · rw [List.mem_singleton.1 hx]; exact hm.2) (by
              have := g2.dj.xn
              simp only [ownL_append, ownL, own, List.append_nil, Bool.false_eq_true, if_false] at this ⊢
              obtain ⟨n1, n2, n3⟩ := List.nodup_append.1 this
              exact List.nodup_append.2 ⟨n1, (List.nodup_append.1 n2).2.1, fun x hx y hy => n3 x hx y (List.mem_append.2 (.inr hy))⟩) (fun b hb => by
              simp only [ownL_append, ownL, own, List.append_nil, Bool.false_eq_true, if_false, List.mem_append] at hb ⊢
              rcases hb with hb | hb
              · exact .inl hb
              · exact .inr (.inr hb)) (fun b hb => by
              simp only [shrL_append, shrL, shr, List.append_nil, Bool.false_eq_true, if_false, List.mem_append] at hb ⊢
              exact hb)
          rw [show putS (L.map erA) t .un = (putS L t .un).map erA from putS_er L t .un] at h
          obtain ⟨D2, Ts, L2, h, g4, hvs⟩ := takeRes_ok l g3 h
          refine ⟨D2, U :: Ts, L2, h, by simpa using g4, ?_⟩
          obtain ⟨b, o, rfl, hlt', hrange, _⟩ := hm.1
          rw [List.mapM_cons]
          simp only [Sem.run_bind, resV, hso, run_loadVarT hrange (fitsTy_spec hf), Result.andThen_ok, Sem.run_pure, hvs, List.map_cons, asAddr]
      · cases h
theorem results_eq (fn : Func) (tmps : Array Value) : results fn tmps = (do let vs ← fn.results.mapM (resV tmps); pure (if h : vs.size = 1 then vs[0] else .tuple vs)) := by
  unfold results
  congr 1
theorem results_ok {P : Program} {fn : Func} {Rs : List LT} (h1 : (fn.results.toList.mapM (resV a.tmps)).run P w = .ok (Rs.map valOf) w) : (results fn a.tmps).run P w = .ok (retV Rs) w := by
  have hr : (if h : (Rs.map valOf).toArray.size = 1 then (Rs.map valOf).toArray[0] else Value.tuple (Rs.map valOf).toArray) = retV Rs := by
    cases Rs with
    | nil => rfl
    | cons T Ts =>
      cases Ts with
      | nil => rfl
      | cons U Us => simp [retV]
  have h2 : (fn.results.mapM (resV a.tmps)).run P w = .ok (Rs.map valOf).toArray w := by
    rw [Array.mapM_eq_mapM_toList]
    simp [h1]
  rw [results_eq, Sem.run_bind, h2]
  simp only [Result.andThen_ok, Sem.run_pure]
  rw [hr]
end Go.Tree

/- Trees of values: every function does what the evaluator says. -/
namespace Go.Tree
set_option linter.unusedSectionVars false
set_option linter.unusedVariables false
set_option linter.unusedSimpArgs false
variable {w0 : World} {F : Fm} {nt : Nat} {H : List Value} {L : List (AV Value)} {XD : List Nat} {X : List LT} {a : Act} {w : World} {α : Type} {res : α}
section
variable [Pol]

/-- A function is left. -/
theorem leave_ok {cx : Ctx} {f : FuncId} {fn : Func} {Ts : List LT} (hm : MemL w Ts) (hwm : Wm false (cx.sig f).wm Ts) (hl : (cx.sig f).wm.length ≤ Ts.length) {r : Res} {e : Ex} (he : ∀ i, e ≠ .exit i) {w' : World}
    (h : Nxt cx.P w ⟨ownL Ts, shrL Ts⟩ fn.ntmps (Ts.map valOf) (resK cx f fn e) r a w') : a.defers = [] ∧ ∃ v, (results fn a.tmps).run cx.P w' = .ok v w' ∧ Post (cx.sig f) Ts w r v w' := by
  obtain ⟨L, g, h⟩ := h
  refine ⟨g.defers, ?_⟩
  have h : (takeRes cx.P fn.ntmps [] (L.map erA) fn.results.toList fun deps ts env =>
      (fins env fn.ntmps (cx.sig f).wm (cx.sig f).cm 0).bind fun us =>
        if deps.isEmpty || (!(ts.any hasOwn) && deps.all fun d => decide (d < fn.ntmps)) then some (ts, us) else none) = some r := by
    cases e with
    | exit i => exact absurd rfl (he i)
    | normal => exact h
    | ret => exact h
  · obtain ⟨D, Rs, L', h, g', hv⟩ := takeRes_ok _ g h
    rw [List.nil_append] at g'
    obtain ⟨us, hus, h⟩ := Option.bind_eq_some_iff.1 h
    obtain ⟨Vs, rfl, hlent, hat⟩ := fins_ok g' hm hwm _ _ Ts 0 us rfl rfl hl hus
    split at h
    · rename_i hc
      simp only [Option.some.injEq] at h
      subst h
      -- results lead into no lent argument
      have hno : ∀ i b, b ∈ shrL Rs → b ∈ ownA (slot L' (fn.ntmps + i)) → False := fun i b h1 h2 => by
        have := g'.dj.xd _ b h1 h2
        simp only [Bool.or_eq_true, Bool.and_eq_true, List.isEmpty_iff] at hc
        rcases hc with hc | hc
        · rw [hc] at this; cases this
        · have := of_decide_eq_true (List.all_eq_true.1 hc.2 _ this)
          omega
      refine ⟨retV Rs, results_ok hv, Rs, Vs, rfl, rfl, rfl, memL_iff.2 fun x hx => ?_, ?_, fun b hb hb' => ?_, fun b hb => ?_, fun b hb => ?_, g'.fr, hlent⟩
      · rcases List.mem_append.1 hx with hx | hx
        · exact memL_iff.1 g'.memX x hx
        · obtain ⟨i, _, h1⟩ := hat.mem x hx
          have := g'.mem (fn.ntmps + i)
          rw [h1] at this; exact this
      · rw [ownL_append]
        refine List.nodup_append.2 ⟨g'.dj.xn, hat.nodup g'.dj, fun b hb c hc' hbc => ?_⟩
        subst hbc
        obtain ⟨i, _, h1⟩ := hat.own hc'
        exact g'.dj.xo _ b hb h1
      · rw [shrL_append] at hb
        rw [ownL_append] at hb'
        rcases List.mem_append.1 hb with hb | hb <;> rcases List.mem_append.1 hb' with hb' | hb'
        · exact g'.dj.xx b hb hb'
        · obtain ⟨i, _, h1⟩ := hat.own hb'
          exact hno i b hb h1
        · obtain ⟨i, V, h1, h2⟩ := hat.shr' hb
          exact g'.dj.xs _ b (by rw [h1]; exact h2) hb'
        · obtain ⟨i, V, h1, h2⟩ := hat.shr' hb
          obtain ⟨j, _, h3⟩ := hat.own hb'
          have := g'.dj.sh _ _ b (by rw [h1]; exact h2) h3
          rw [h1] at this
          cases this
      · rw [ownL_append] at hb
        rcases List.mem_append.1 hb with hb | hb
        · exact g'.mineX b hb
        · obtain ⟨i, _, h1⟩ := hat.own hb
          exact g'.mine _ b h1
      · rw [shrL_append] at hb
        rcases List.mem_append.1 hb with hb | hb
        · exact g'.seesX b hb
        · obtain ⟨i, V, h1, h2⟩ := hat.shr' hb
          exact g'.sees _ b (by rw [h1]; exact h2)
    · cases h
end
/-- Contracts that are given by hand hold. -/
def GivenOk (cx : Ctx) : Prop := ∀ (f : FuncId) (k : List TV → Option Res), cx.given f = some k → ∀ (Ts : List LT) (w : World) (r : Res), k (Ts.map er) = some r → MemL w Ts → (ownL Ts).Nodup → (∀ b ∈ shrL Ts, b ∉ ownL Ts) → Wm (cx.sig f).sm (cx.sig f).wm Ts →
    Calls cx.P f (Ts.map valOf).toArray w fun | .returned v, w' => Post (cx.sig f) Ts w r v w' | _, _ => False
theorem tcall_ok {cx : Ctx} (hG : GivenOk cx) (hN : ∀ (f : FuncId) (fn : Func), cx.P.funcs[f]? = some fn → (fn.name == "runtime.NumGoroutine") = false) (hmo : cx.P.follows .mixedOrders = true) : ∀ n, CallsOk cx.P cx.sig (tcall cx n)
  | 0, f, Ts, w, r, h, _, _, _, _ => by cases h
  | n + 1, f, Ts, w, r, h, hm, hnd, hxx, hwm => by
    simp only [tcall] at h
    split at h
    · rename_i k hk
      exact hG f k hk Ts w r h hm hnd hxx hwm
    · split at h
      · rename_i fn hfn
        split at h
        · rename_i c hc
          split at h
          · rename_i hcond
            obtain ⟨h1, h2, h3, h4⟩ := hcond
            rw [h4] at hwm
            letI := cx.pol f
            simp only [List.length_map] at h1 h2
            rw [← env0_er] at h
            refine calls_of_wp hfn hc (ev_ok (tcall_ok hG hN hmo n) hN hmo c h3 (enter_ok h1 hm hnd hxx hwm) h ⟨fun a' w' hn => ?_, fun i a' w' hn => ?_, fun a' w' hn => ?_, fun c' a' w' hp => ?_⟩)
            · exact leave_ok hm hwm h2 (fun i hi => by cases hi) hn
            · obtain ⟨L', _, h'⟩ := hn
              cases h'
            · exact leave_ok hm hwm h2 (fun i hi => by cases hi) hn
            · exact hp.2
          · cases h
        · cases h
      · cases h
end Go.Tree

/- Trees of values: program points: what stands there, and the evaluator that stops at points. -/
namespace Go.Tree
set_option linter.unusedVariables false
set_option linter.unusedSectionVars false
abbrev Kt := Ex → Env → Option Res
/-- How many loops stand around. -/
def c5 : List Nat → Nat
  | [] => 0
  | x :: p => bif Nat.beq x 5 then c5 p + 1 else c5 p
theorem c5_ne {x : Nat} (h : x ≠ 5) (p : List Nat) : c5 (x :: p) = c5 p := by
  have : Nat.beq x 5 = false := by
    cases hb : Nat.beq x 5 with
    | false => rfl
    | true => exact absurd (Nat.eq_of_beq_eq_true hb) h
  rw [c5, this]; rfl
theorem c5_five (p : List Nat) : c5 (5 :: p) = c5 p + 1 := rfl
section
variable [Pol]
/-- What stands at a place in a piece of code, and what is behind it: 0, 1: a sequence's parts; 2: a block; 3, 4: a condition's arms; 5: a loop's round (k: the rounds that the loops around have left). -/
noncomputable def contAt (cx : Ctx) (call : FuncId → List TV → Option Res) (f : FuncId) (fn : Func) (n : Nat) (k : Nat → Nat) : Nat → List Nat → Code → Kt → Option (Code × Kt)
  | _, [], c, K => some (c, K)
  | d, 0 :: p, .seq a b, K => contAt cx call f fn n k d p a (fun e env => match e with | .normal => ev cx call f fn n b K (cutE cx f b env) | e => K e env)
  | d, 1 :: p, .seq _ b, K => contAt cx call f fn n k d p b K
  | d, 2 :: p, .block id c, K => contAt cx call f fn n k d p c (fun e env => match e with | .exit i => if i = id then K .normal env else K (.exit i) env | e => K e env)
  | d, 3 :: p, .cond _ a _, K => contAt cx call f fn n k d p a K
  | d, 4 :: p, .cond _ _ b, K => contAt cx call f fn n k d p b K
  | d, 5 :: p, .loop c, K => contAt cx call f fn n k (d + 1) p c (fun e env => match e with | .normal => evLoop (ev cx call f fn n c) (havoc (cx.keep f (firstRegion c))) (k d) K (havoc (cx.keep f (firstRegion c)) env) | e => K e env)
  | _, _, _, _ => none
/-- How many operations are still to come. -/
def left (ops : Array Oper) (listed : Array Bool) : Nat := ((List.range ops.size).filter fun i => !listed.getD i true).length
/-- A region whose order is drawn, up to where there is a choice. -/
noncomputable def evAnyS (cx : Ctx) (call : FuncId → List TV → Option Res) (rg : Array Bool → Env → Option Res) (fn : Func) (ops : Array Oper) : Nat → Array Bool → Env → (Env → Option Res) → Option Res
  | 0, listed, env, K => match Region.ready .any ops listed with | [] => K env | _ => none
  | n + 1, listed, env, K =>
    match Region.ready .any ops listed with
    | [] => K env
    | rs =>
      match rs.find? (first ops listed) with
      | some i => match ops[i]? with
        | some o => evOne cx call fn ops o env fun env => evAnyS cx call rg fn ops n (listed.setIfInBounds i true) env K
        | none => none
      | none => match rs with
        | [i] => (match ops[i]? with
          | some o => evOne cx call fn ops o env fun env => evAnyS cx call rg fn ops n (listed.setIfInBounds i true) env K
          | none => none)
        | rs => amb (rs.map fun i => match ops[i]? with
          | some o => evOne cx call fn ops o env fun env => rg (listed.setIfInBounds i true) env
          | none => none)
theorem left_set {ops : Array Oper} {listed : Array Bool} {i : Nat} (hi : i ∈ Region.ready .any ops listed) : left ops (listed.setIfInBounds i true) + 1 = left ops listed := by
  unfold Region.ready at hi
  simp only [List.mem_filter, List.mem_range, Bool.and_eq_true, Bool.not_eq_true'] at hi
  obtain ⟨hlt, hl, _⟩ := hi
  have hsz : i < listed.size := by
    rcases Nat.lt_or_ge i listed.size with h | h
    · exact h
    · simp [Array.getD, Nat.not_lt.2 h] at hl
  have e : ∀ j, (listed.setIfInBounds i true).getD j true = if i = j then true else listed.getD j true := fun j => by
    by_cases c : i = j
    · subst c; simp [Array.getD, hsz]
    · rw [if_neg c, Array.getD_eq_getD_getElem?, Array.getD_eq_getD_getElem?, Array.getElem?_setIfInBounds, if_neg c]
  have key : ∀ l : List Nat, l.Nodup → i ∈ l → (l.filter fun j => !(listed.setIfInBounds i true).getD j true).length + 1 = (l.filter fun j => !listed.getD j true).length := fun l => by
    induction l with
    | nil => intro _ h; cases h
    | cons x l ih =>
      intro hnd hm
      obtain ⟨hx, hnd⟩ := List.nodup_cons.1 hnd
      by_cases c : i = x
      · subst c
        have : (l.filter fun j => !(listed.setIfInBounds i true).getD j true) = l.filter fun j => !listed.getD j true := List.filter_congr fun j hj => by
          have hne : i ≠ j := fun h => hx (by rw [h]; exact hj)
          rw [e, if_neg hne]
        rw [List.filter_cons, List.filter_cons, e, if_pos rfl, hl, this]
        simp
      · have hm' : i ∈ l := (List.mem_cons.1 hm).resolve_left c
        have := ih hnd hm'
        rw [List.filter_cons, List.filter_cons, e, if_neg c]
        split
        · simp only [List.length_cons]; omega
        · exact this
  exact key _ List.nodup_range (List.mem_range.2 hlt)
theorem evAnyS_eq (cx : Ctx) (call : FuncId → List TV → Option Res) (fn : Func) (ops : Array Oper) (K : Env → Option Res) : ∀ (n : Nat) (listed : Array Bool) (env : Env), n = left ops listed →
    evAny cx call fn ops n listed env K = evAnyS cx call (fun l e => evAny cx call fn ops (left ops l) l e K) fn ops n listed env K
  | 0, listed, env, _ => rfl
  | n + 1, listed, env, h => by
    have hstep : ∀ i ∈ Region.ready .any ops listed, n = left ops (listed.setIfInBounds i true) := fun i hi => by
      have := left_set hi
      omega
    simp only [evAny, evAnyS]
    cases hr : Region.ready .any ops listed with
    | nil => rfl
    | cons r rs =>
      simp only
      rw [hr] at hstep
      cases hf : (r :: rs).find? (first ops listed) with
      | some i =>
        have hi := List.mem_of_find?_eq_some hf
        simp only
        cases ops[i]? with
        | none => rfl
        | some o =>
          simp only
          congr 1
          funext env'
          exact evAnyS_eq cx call fn ops K n _ env' (hstep i hi)
      | none =>
        simp only
        cases rs with
        | nil =>
          simp only [List.map_cons, List.map_nil, amb]
          cases ops[r]? with
          | none => rfl
          | some o =>
            simp only
            congr 1
            funext env'
            exact evAnyS_eq cx call fn ops K n _ env' (hstep r (by simp))
        | cons r' rs =>
          simp only
          congr 1
          refine List.map_congr_left fun i hi => ?_
          cases ops[i]? with
          | none => rfl
          | some o =>
            simp only
            congr 1
            funext env'
            rw [← hstep i hi]
theorem left_all (ops : Array Oper) : ops.size = left ops (Array.replicate ops.size false) := by
  unfold left
  rw [List.filter_eq_self.2, List.length_range]
  intro i hi
  simp [Array.getD, List.mem_range.1 hi]
/-- The evaluator that stops at points. -/
noncomputable def evS (cx : Ctx) (call : FuncId → List TV → Option Res) (hd pt : List Nat → Env → Option Res) (rg : List Nat → Array Bool → Env → Option Res) (f : FuncId) (fn : Func) : Code → List Nat → Kt → Env → Option Res
  | .skip, _, K, env => K .normal env
  | .region id ops draw, p, K, env =>
    match draw with
    | true => bif (cx.cut f (id + 500)).isSome then evAnyS cx call (rg p) fn ops ops.size (Array.replicate ops.size false) env (K .normal) else evAny cx call fn ops ops.size (Array.replicate ops.size false) env (K .normal)
    | false => evList cx call fn ops ops.toList env (K .normal)
  | .seq a b, p, K, env => evS cx call hd pt rg f fn a (p ++ [0]) (fun e env => match e with
    | .normal => (match cx.cut f (firstRegion b) with | some ks => pt (p ++ [1]) (havoc ks env) | none => evS cx call hd pt rg f fn b (p ++ [1]) K env)
    | e => K e env) env
  | .cond c a b, p, K, env =>
    match flatO env c with
    | some (.bool t) => bif t then evS cx call hd pt rg f fn a (p ++ [3]) K env else evS cx call hd pt rg f fn b (p ++ [4]) K env
    | _ => none
  | .block id c, p, K, env => evS cx call hd pt rg f fn c (p ++ [2]) (fun e env => match e with | .exit i => if i = id then K .normal env else K (.exit i) env | e => K e env) env
  | .loop c, p, _, env => hd p (havoc (cx.keep f (firstRegion c)) env)
  | .exit id, _, K, env => K (.exit id) env
  | .ret, _, K, env => K .ret env
  | _, _, _, _ => none
/-- What stands at a place, with points. 'done': the way so far. -/
noncomputable def contS (cx : Ctx) (call : FuncId → List TV → Option Res) (hd hb pt : List Nat → Env → Option Res) (rg : List Nat → Array Bool → Env → Option Res) (f : FuncId) (fn : Func) : List Nat → List Nat → Code → Kt → Option (Code × Kt)
  | _, [], c, K => some (c, K)
  | z, 0 :: p, .seq a b, K => contS cx call hd hb pt rg f fn (z ++ [0]) p a (fun e env => match e with
    | .normal => (match cx.cut f (firstRegion b) with | some ks => pt (z ++ [1]) (havoc ks env) | none => evS cx call hd pt rg f fn b (z ++ [1]) K env)
    | e => K e env)
  | z, 1 :: p, .seq _ b, K => contS cx call hd hb pt rg f fn (z ++ [1]) p b K
  | z, 2 :: p, .block id c, K => contS cx call hd hb pt rg f fn (z ++ [2]) p c (fun e env => match e with | .exit i => if i = id then K .normal env else K (.exit i) env | e => K e env)
  | z, 3 :: p, .cond _ a _, K => contS cx call hd hb pt rg f fn (z ++ [3]) p a K
  | z, 4 :: p, .cond _ _ b, K => contS cx call hd hb pt rg f fn (z ++ [4]) p b K
  | z, 5 :: p, .loop c, K => contS cx call hd hb pt rg f fn (z ++ [5]) p c (fun e env => match e with | .normal => hb z (havoc (cx.keep f (firstRegion c)) env) | e => K e env)
  | _, _, _, _ => none

theorem contAt_append (cx : Ctx) (call : FuncId → List TV → Option Res) (f : FuncId) (fn : Func) (n : Nat) (k : Nat → Nat) (q : List Nat) : ∀ (p : List Nat) (d : Nat) (c : Code) (K : Kt),
    contAt cx call f fn n k d (p ++ q) c K = (contAt cx call f fn n k d p c K).bind fun r => contAt cx call f fn n k (d + c5 p) q r.1 r.2
  | [], d, c, K => by simp [contAt, c5]
  | x :: p, d, c, K => by
    rw [List.cons_append]
    by_cases h5 : x = 5
    · subst h5
      cases c <;> simp only [contAt, Option.bind_none] <;> (try rfl)
      rw [contAt_append cx call f fn n k q p, c5_five, Nat.add_right_comm, Nat.add_assoc]
    · have e5 : c5 (x :: p) = c5 p := c5_ne h5 p
      rw [e5]
      rcases Nat.lt_or_ge x 5 with h | h
      · rcases (show x = 0 ∨ x = 1 ∨ x = 2 ∨ x = 3 ∨ x = 4 by omega) with rfl | rfl | rfl | rfl | rfl <;> cases c <;> simp only [contAt, Option.bind_none] <;> first | rfl | exact contAt_append cx call f fn n k q p _ _ _
      · obtain ⟨y, rfl⟩ : ∃ y, x = y + 6 := ⟨x - 6, by omega⟩
        cases c <;> rfl
theorem contAt_congr (cx : Ctx) (call : FuncId → List TV → Option Res) (f : FuncId) (fn : Func) (n : Nat) (k k' : Nat → Nat) : ∀ (p : List Nat) (d : Nat) (c : Code) (K : Kt), (∀ i, d ≤ i → i < d + c5 p → k i = k' i) →
    contAt cx call f fn n k d p c K = contAt cx call f fn n k' d p c K
  | [], d, c, K, _ => by simp [contAt]
  | x :: p, d, c, K, h => by
    by_cases h5 : x = 5
    · subst h5
      cases c <;> simp only [contAt] <;> (try rfl)
      rw [h d (Nat.le_refl _) (by rw [c5_five]; omega)]
      exact contAt_congr cx call f fn n k k' p _ _ _ fun i h1 h2 => h i (by omega) (by rw [c5_five]; omega)
    · have e5 : c5 (x :: p) = c5 p := c5_ne h5 p
      rw [e5] at h
      rcases Nat.lt_or_ge x 5 with hx | hx
      · rcases (show x = 0 ∨ x = 1 ∨ x = 2 ∨ x = 3 ∨ x = 4 by omega) with rfl | rfl | rfl | rfl | rfl <;> cases c <;> simp only [contAt] <;> first | rfl | exact contAt_congr cx call f fn n k k' p _ _ _ h
      · obtain ⟨y, rfl⟩ : ∃ y, x = y + 6 := ⟨x - 6, by omega⟩
        cases c <;> rfl
end
/-- A loop's head, with m rounds left. -/
noncomputable def loopAt (cx : Ctx) (n : Nat) (k : Nat → Nat) (f : FuncId) (p : List Nat) (m : Nat) (env : Env) : Option Res :=
  letI := cx.pol f
  match cx.P.funcs[f]? with
  | some fn => match fn.body with
    | some c => match contAt cx (tcall cx n) f fn n k 0 p c (resK cx f fn) with
      | some (.loop c, K) => evLoop (ev cx (tcall cx n) f fn n c) (havoc (cx.keep f (firstRegion c))) m K env
      | _ => none
    | none => none
  | none => none
/-- A place in a piece of code. -/
noncomputable def ptAt (cx : Ctx) (n : Nat) (k : Nat → Nat) (f : FuncId) (p : List Nat) (env : Env) : Option Res :=
  letI := cx.pol f
  match cx.P.funcs[f]? with
  | some fn => match fn.body with
    | some c => match contAt cx (tcall cx n) f fn n k 0 p c (resK cx f fn) with
      | some (c, K) => ev cx (tcall cx n) f fn n c K env
      | none => none
    | none => none
  | none => none
/-- A place in a region whose order is drawn. -/
noncomputable def rgAt (cx : Ctx) (n : Nat) (k : Nat → Nat) (f : FuncId) (p : List Nat) (listed : Array Bool) (env : Env) : Option Res :=
  letI := cx.pol f
  match cx.P.funcs[f]? with
  | some fn => match fn.body with
    | some c => match contAt cx (tcall cx n) f fn n k 0 p c (resK cx f fn) with
      | some (.region _ ops true, K) => evAny cx (tcall cx n) fn ops (left ops listed) listed env (K .normal)
      | _ => none
    | none => none
  | none => none
/-- The same, up to the next points: a function, a loop's round, a place, a place in a region. -/
noncomputable def rdCall (cx : Ctx) (call : FuncId → List TV → Option Res) (hd pt : List Nat → Env → Option Res) (rg : List Nat → Array Bool → Env → Option Res) (f : FuncId) (args : List TV) : Option Res :=
  letI := cx.pol f
  match cx.given f with
  | some _ => none
  | none => match cx.P.funcs[f]? with
    | some fn => match fn.body with
      | some c => if args.length ≤ fn.ntmps ∧ (cx.sig f).wm.length ≤ args.length ∧ fitCode fn.ntmps c = true ∧ (cx.sig f).sm = false then evS cx call hd pt rg f fn c [] (resK cx f fn) (env0 fn (cx.sig f).wm args) else none
      | none => none
    | none => none
noncomputable def rdPt (cx : Ctx) (call : FuncId → List TV → Option Res) (hd hb pt : List Nat → Env → Option Res) (rg : List Nat → Array Bool → Env → Option Res) (f : FuncId) (p : List Nat) (env : Env) : Option Res :=
  letI := cx.pol f
  match cx.P.funcs[f]? with
  | some fn => match fn.body with
    | some c => match contS cx call hd hb pt rg f fn [] p c (resK cx f fn) with
      | some (c, K) => evS cx call hd pt rg f fn c p K env
      | none => none
    | none => none
  | none => none
noncomputable def rdHd (cx : Ctx) (call : FuncId → List TV → Option Res) (hd hb pt : List Nat → Env → Option Res) (rg : List Nat → Array Bool → Env → Option Res) (f : FuncId) (p : List Nat) (env : Env) : Option Res :=
  letI := cx.pol f
  match cx.P.funcs[f]? with
  | some fn => match fn.body with
    | some c => match contS cx call hd hb pt rg f fn [] p c (resK cx f fn) with
      | some (.loop c, K) => evS cx call hd pt rg f fn c (p ++ [5]) (fun e env => match e with | .normal => hb p (havoc (cx.keep f (firstRegion c)) env) | e => K e env) env
      | _ => none
    | none => none
  | none => none

noncomputable def rdRg (cx : Ctx) (call : FuncId → List TV → Option Res) (hd hb pt : List Nat → Env → Option Res) (rg : List Nat → Array Bool → Env → Option Res) (f : FuncId) (p : List Nat) (listed : Array Bool) (env : Env) : Option Res :=
  letI := cx.pol f
  match cx.P.funcs[f]? with
  | some fn => match fn.body with
    | some c => match contS cx call hd hb pt rg f fn [] p c (resK cx f fn) with
      | some (.region _ ops true, K) => evAnyS cx call (rg p) fn ops (left ops listed) listed env (K .normal)
      | _ => none
    | none => none
  | none => none

section
variable {cx : Ctx} {f : FuncId} {fn : Func} {n : Nat} {k : Nat → Nat} {c0 : Code}
noncomputable abbrev hdE (cx : Ctx) (f : FuncId) (n : Nat) (k : Nat → Nat) (p : List Nat) (env : Env) : Option Res := loopAt cx n k f p n env
noncomputable abbrev hdB (cx : Ctx) (f : FuncId) (n : Nat) (k : Nat → Nat) (p : List Nat) (env : Env) : Option Res := loopAt cx n k f p (k (c5 p)) env
noncomputable abbrev ptR (cx : Ctx) (f : FuncId) (n : Nat) (k : Nat → Nat) (p : List Nat) (env : Env) : Option Res := ptAt cx n k f p env
noncomputable abbrev rgR (cx : Ctx) (f : FuncId) (n : Nat) (k : Nat → Nat) (p : List Nat) (listed : Array Bool) (env : Env) : Option Res := rgAt cx n k f p listed env
theorem loopAt_of (hf : cx.P.funcs[f]? = some fn) (hb : fn.body = some c0) {p : List Nat} {c : Code} {K : Kt} (h : @contAt (cx.pol f) cx (tcall cx n) f fn n k 0 p c0 (@resK (cx.pol f) cx f fn) = some (.loop c, K)) (m : Nat) (env : Env) :
    loopAt cx n k f p m env = evLoop (@ev _ (cx.pol f) cx (tcall cx n) f fn n c) (havoc (cx.keep f (firstRegion c))) m K env := by
  simp only [loopAt, hf, hb, h]
theorem ptAt_of (hf : cx.P.funcs[f]? = some fn) (hb : fn.body = some c0) {p : List Nat} {c : Code} {K : Kt} (h : @contAt (cx.pol f) cx (tcall cx n) f fn n k 0 p c0 (@resK (cx.pol f) cx f fn) = some (c, K)) (env : Env) :
    ptAt cx n k f p env = @ev _ (cx.pol f) cx (tcall cx n) f fn n c K env := by
  simp only [ptAt, hf, hb, h]
theorem rgAt_of (hf : cx.P.funcs[f]? = some fn) (hb : fn.body = some c0) {p : List Nat} {id : Nat} {ops : Array Oper} {K : Kt} (h : @contAt (cx.pol f) cx (tcall cx n) f fn n k 0 p c0 (@resK (cx.pol f) cx f fn) = some (.region id ops true, K)) (listed : Array Bool) (env : Env) :
    rgAt cx n k f p listed env = @evAny _ (cx.pol f) cx (tcall cx n) fn ops (left ops listed) listed env (K .normal) := by
  simp only [rgAt, hf, hb, h]
theorem evS_eq (hf : cx.P.funcs[f]? = some fn) (hb : fn.body = some c0) : ∀ (c : Code) (p : List Nat) (K : Kt), @contAt (cx.pol f) cx (tcall cx n) f fn n k 0 p c0 (@resK (cx.pol f) cx f fn) = some (c, K) → ∀ env,
    @ev _ (cx.pol f) cx (tcall cx n) f fn n c K env = @evS (cx.pol f) cx (tcall cx n) (hdE cx f n k) (ptR cx f n k) (rgR cx f n k) f fn c p K env := by
  letI := cx.pol f
  have ap : ∀ {p : List Nat} {c : Code} {K : Kt} (q : List Nat), contAt cx (tcall cx n) f fn n k 0 p c0 (resK cx f fn) = some (c, K) → contAt cx (tcall cx n) f fn n k 0 (p ++ q) c0 (resK cx f fn) = contAt cx (tcall cx n) f fn n k (0 + c5 p) q c K := fun q h => by
    rw [contAt_append, h]; rfl
  intro c
  induction c with
  | seq a b iha ihb =>
    intro p K h env
    have h0 := (ap [0] h).trans (by rw [contAt, contAt])
    have h1 := (ap [1] h).trans (by rw [contAt, contAt])
    have := iha _ _ h0 env
    simp only [ev, evS]
    refine Eq.trans this ?_
    congr 1
    funext e env
    cases e with
    | normal =>
      simp only [cutE]
      cases hc : cx.cut f (firstRegion b) with
      | none => exact ihb _ _ h1 env
      | some ks => exact (ptAt_of hf hb h1 _).symm
    | exit i => rfl
    | ret => rfl
  | cond x a b iha ihb =>
    intro p K h env
    have h0 := (ap [3] h).trans (by rw [contAt, contAt])
    have h1 := (ap [4] h).trans (by rw [contAt, contAt])
    simp only [ev, evS]
    cases flatO env x with
    | none => rfl
    | some v =>
      cases v with
      | bool t =>
        cases t with
        | true => exact iha _ _ h0 env
        | false => exact ihb _ _ h1 env
      | _ => rfl
  | block id c ih =>
    intro p K h env
    have h0 := (ap [2] h).trans (by rw [contAt, contAt])
    simp only [ev, evS]
    exact ih _ _ h0 env
  | loop c ih =>
    intro p K h env
    simp only [ev, evS]
    exact (loopAt_of hf hb h n _).symm
  | region id ops draw =>
    intro p K h env
    cases draw with
    | false => rfl
    | true =>
      simp only [ev, evS]
      cases (cx.cut f (id + 500)).isSome with
      | false => rfl
      | true =>
      rw [cond_true, evAnyS_eq cx (tcall cx n) fn ops (K .normal) _ _ env (left_all ops)]
      congr 1
      funext l e
      exact (rgAt_of hf hb h l e).symm
  | _ => intro p K h env; first | rfl | simp only [ev, evS]
theorem contS_eq (hf : cx.P.funcs[f]? = some fn) (hb : fn.body = some c0) : ∀ (p z : List Nat) (c : Code) (K : Kt), @contAt (cx.pol f) cx (tcall cx n) f fn n k 0 z c0 (@resK (cx.pol f) cx f fn) = some (c, K) →
    @contS (cx.pol f) cx (tcall cx n) (hdE cx f n k) (hdB cx f n k) (ptR cx f n k) (rgR cx f n k) f fn z p c K = @contAt (cx.pol f) cx (tcall cx n) f fn n k (c5 z) p c K := by
  letI := cx.pol f
  have ap : ∀ {p : List Nat} {c : Code} {K : Kt} (q : List Nat), contAt cx (tcall cx n) f fn n k 0 p c0 (resK cx f fn) = some (c, K) → contAt cx (tcall cx n) f fn n k 0 (p ++ q) c0 (resK cx f fn) = contAt cx (tcall cx n) f fn n k (0 + c5 p) q c K := fun q h => by
    rw [contAt_append, h]; rfl
  have c5a : ∀ (z : List Nat) (x : Nat), c5 (z ++ [x]) = c5 z + (if x = 5 then 1 else 0) := fun z x => by
    induction z with
    | nil =>
      by_cases h : x = 5
      · subst h; rfl
      · rw [List.nil_append, c5_ne h, if_neg h]; rfl
    | cons y z ih =>
      rw [List.cons_append]
      by_cases h : y = 5
      · subst h; rw [c5_five, c5_five, ih]; omega
      · rw [c5_ne h, c5_ne h, ih]
  intro p
  induction p with
  | nil => intro z c K h; simp only [contS, contAt]
  | cons x p ih =>
    intro z c K h
    by_cases h5 : x = 5
    · subst h5
      cases c with
      | loop c =>
        have h0 := (ap [5] h).trans (by rw [contAt, contAt])
        have e := c5a z 5
        simp only [if_true] at e
        simp only [contS, contAt]
        have hK : (fun (e : Ex) (env : Env) => match e with | .normal => hdB cx f n k z (havoc (cx.keep f (firstRegion c)) env) | e => K e env) = (fun e env => match e with | .normal => evLoop (ev cx (tcall cx n) f fn n c) (havoc (cx.keep f (firstRegion c))) (k (0 + c5 z)) K (havoc (cx.keep f (firstRegion c)) env) | e => K e env) := by
          funext e env
          cases e with
          | normal => simp only [hdB, Nat.zero_add]; exact loopAt_of hf hb h _ _
          | exit i => rfl
          | ret => rfl
        rw [hK, ih _ _ _ h0, e, Nat.zero_add]
      | _ => simp only [contS, contAt]
    · have e := c5a z x
      simp only [h5, if_false, Nat.add_zero] at e
      rcases Nat.lt_or_ge x 5 with hx | hx
      · rcases (show x = 0 ∨ x = 1 ∨ x = 2 ∨ x = 3 ∨ x = 4 by omega) with rfl | rfl | rfl | rfl | rfl
        · cases c with
          | seq a b =>
            have h0 := (ap [0] h).trans (by rw [contAt, contAt])
            have h1 := (ap [1] h).trans (by rw [contAt, contAt])
            simp only [contS, contAt]
            have hK : (fun (e : Ex) (env : Env) => match e with
                | .normal => (match cx.cut f (firstRegion b) with | some ks => ptR cx f n k (z ++ [1]) (havoc ks env) | none => evS cx (tcall cx n) (hdE cx f n k) (ptR cx f n k) (rgR cx f n k) f fn b (z ++ [1]) K env)
                | e => K e env) = (fun e env => match e with | .normal => ev cx (tcall cx n) f fn n b K (cutE cx f b env) | e => K e env) := by
              funext e env
              cases e with
              | normal =>
                simp only [cutE]
                cases hc : cx.cut f (firstRegion b) with
                | none => exact (evS_eq hf hb b _ _ h1 env).symm
                | some ks => exact ptAt_of hf hb h1 _
              | exit i => rfl
              | ret => rfl
            rw [hK, ih _ _ _ h0, e]
          | _ => simp only [contS, contAt]
        · cases c with
          | seq a b =>
            have h1 := (ap [1] h).trans (by rw [contAt, contAt])
            simp only [contS, contAt]
            rw [ih _ _ _ h1, e]
          | _ => simp only [contS, contAt]
        · cases c with
          | block id c =>
            have h1 := (ap [2] h).trans (by rw [contAt, contAt])
            simp only [contS, contAt]
            rw [ih _ _ _ h1, e]
          | _ => simp only [contS, contAt]
        · cases c with
          | cond q a b =>
            have h1 := (ap [3] h).trans (by rw [contAt, contAt])
            simp only [contS, contAt]
            rw [ih _ _ _ h1, e]
          | _ => simp only [contS, contAt]
        · cases c with
          | cond q a b =>
            have h1 := (ap [4] h).trans (by rw [contAt, contAt])
            simp only [contS, contAt]
            rw [ih _ _ _ h1, e]
          | _ => simp only [contS, contAt]
      · obtain ⟨y, rfl⟩ : ∃ y, x = y + 6 := ⟨x - 6, by omega⟩
        cases c <;> rfl
theorem rdCall_eq (args : List TV) {r : Res} (h : rdCall cx (tcall cx n) (hdE cx f n k) (ptR cx f n k) (rgR cx f n k) f args = some r) : tcall cx (n + 1) f args = some r := by
  simp only [rdCall] at h
  simp only [tcall]
  split at h
  · cases h
  · rename_i hg
    rw [hg]
    split at h
    · rename_i fn hf
      simp only [hf]
      split at h
      · rename_i c hb
        simp only [hb]
        split at h
        · rename_i hc
          rw [if_pos hc, evS_eq (k := k) hf hb c [] _ rfl]
          exact h
        · cases h
      · cases h
    · cases h
theorem rdPt_eq (p : List Nat) (env : Env) : rdPt cx (tcall cx n) (hdE cx f n k) (hdB cx f n k) (ptR cx f n k) (rgR cx f n k) f p env = ptAt cx n k f p env := by
  simp only [rdPt, ptAt]
  cases hf : cx.P.funcs[f]? with
  | none => rfl
  | some fn =>
    cases hb : fn.body with
    | none => simp only [hb]
    | some c =>
      simp only [hb]
      rw [contS_eq hf hb p [] c _ rfl, show c5 [] = 0 from rfl]
      split
      · rename_i c' K h
        first | exact (evS_eq hf hb c' p K h env).symm | (rw [h]; exact (evS_eq hf hb c' p K h env).symm)
      · rename_i h
        first | rfl | rw [h]
theorem rdHd_eq (p : List Nat) (env : Env) : rdHd cx (tcall cx n) (hdE cx f n k) (hdB cx f n k) (ptR cx f n k) (rgR cx f n k) f p env = loopAt cx n k f p (k (c5 p) + 1) env := by
  simp only [rdHd, loopAt]
  cases hf : cx.P.funcs[f]? with
  | none => rfl
  | some fn =>
    cases hb : fn.body with
    | none => simp only [hb]
    | some c =>
      simp only [hb]
      rw [contS_eq hf hb p [] c _ rfl, show c5 [] = 0 from rfl]
      split
      · rename_i c' K h
        have ha : @contAt (cx.pol f) cx (tcall cx n) f fn n k 0 (p ++ [5]) c (@resK (cx.pol f) cx f fn) = some (c', fun e env => match e with | .normal => evLoop (@ev _ (cx.pol f) cx (tcall cx n) f fn n c') (havoc (cx.keep f (firstRegion c'))) (k (0 + c5 p)) K (havoc (cx.keep f (firstRegion c')) env) | e => K e env) := by
          rw [@contAt_append (cx.pol f), h]; rfl
        have hs := evS_eq hf hb c' (p ++ [5]) _ ha env
        rw [Nat.zero_add] at hs
        refine Eq.trans ?_ ((hs.symm).trans ?_)
        · congr 1
        · simp only [evLoop]
          congr 1
      · rfl
theorem rdRg_eq (p : List Nat) (listed : Array Bool) (env : Env) : rdRg cx (tcall cx n) (hdE cx f n k) (hdB cx f n k) (ptR cx f n k) (rgR cx f n k) f p listed env = rgAt cx n k f p listed env := by
  simp only [rdRg, rgAt]
  cases hf : cx.P.funcs[f]? with
  | none => rfl
  | some fn =>
    cases hb : fn.body with
    | none => simp only [hb]
    | some c =>
      simp only [hb]
      rw [contS_eq hf hb p [] c _ rfl, show c5 [] = 0 from rfl]
      split
      · rename_i id ops K h
        have e := @evAnyS_eq (cx.pol f) cx (tcall cx n) fn ops (K .normal) _ listed env rfl
        refine Eq.trans ?_ e.symm
        congr 1
        funext l e
        exact rgAt_of hf hb h l e
      · rfl
end
end Go.Tree

/- Trees of values: what stands at a program point, as a piece of data; what it comes to, without fuel. -/
namespace Go.Tree
set_option linter.unusedVariables false

/-- What stands at a point: what is looked at, called, gone on to, answered. -/
inductive Nd where
  | ret (rs us : List TV)
  | non
  | bif (c : Bool) (a b : Nd)
  | ck (c : Bool) (a : Nd)
  | int (k : IntKind) (t : TV) (K : Int → Nd)
  | bool (t : TV) (K : Bool → Nd)
  | str (t : TV) (K : ByteArray → Nd)
  | slR (n : Ek) (t : TV) (K : List TV → Nd)
  | slO (n : Ek) (t : TV) (K : List TV → Nd)
  | slS (n : Ek) (t : TV) (K : List TV → Nd)
  | slB (n : Ek) (t : TV) (K : Bool → List TV → Nd)
  | st (t : TV) (K : List TV → Nd)
  | ptR (t : TV) (N : Nd) (K : TV → Nd)
  | ptO (t : TV) (N : Nd) (K : TV → Nd)
  | ptS (t : TV) (N : Nd) (K : TV → Nd)
  | ptB (t : TV) (N : Nd) (K : Bool → TV → Nd)
  | cons (ts : List TV) (K : TV → List TV → Nd)
  | nil (ts : List TV) (a : Nd)
  | call (f : FuncId) (args : List TV) (K : Res → Nd)
  | head (p : List Nat) (env : Env)
  | back (p : List Nat) (env : Env)
  | go (p : List Nat) (env : Env)
  | rg (p : List Nat) (l : List Bool) (env : Env)
  | isNil (ts : List TV) (a b : Nd)
  | amb2 (a b : Nd)
  | amb3 (a b c : Nd)
  | amb4 (a b c d : Nd)
  | amb5 (a b c d e : Nd)
  | amb6 (a b c d e g : Nd)

section
variable {α : Type}
def mNull (ts : List TV) (A B : Option α) : Option α := match ts with | [] => A | _ :: _ => B
def mSlR (n : Ek) (t : TV) (K : List TV → Option α) : Option α := match t with | .sl r m _ xs => if m = n then K xs else none | _ => none
def mSlO (n : Ek) (t : TV) (K : List TV → Option α) : Option α := match t with | .sl r m _ xs => if m = n then cond r none (K xs) else none | _ => none
def mSlS (n : Ek) (t : TV) (K : List TV → Option α) : Option α := match t with | .sl r m _ xs => if m = n then cond r (K xs) none else none | _ => none
def mSlB (n : Ek) (t : TV) (K : Bool → List TV → Option α) : Option α := match t with | .sl r m _ xs => if m = n then cond r (K true xs) (K false xs) else none | _ => none
def mPtR (t : TV) (N : Option α) (K : TV → Option α) : Option α := match t with | .fl (.pointer none) => N | .pt r _ x => K x | _ => none
def mPtO (t : TV) (N : Option α) (K : TV → Option α) : Option α := match t with | .fl (.pointer none) => N | .pt r _ x => cond r none (K x) | _ => none
def mPtS (t : TV) (N : Option α) (K : TV → Option α) : Option α := match t with | .fl (.pointer none) => N | .pt r _ x => cond r (K x) none | _ => none
def mPtB (t : TV) (N : Option α) (K : Bool → TV → Option α) : Option α := match t with | .fl (.pointer none) => N | .pt r _ x => cond r (K true x) (K false x) | _ => none
end
noncomputable def sem (call : FuncId → List TV → Option Res) (hd hb pt : List Nat → Env → Option Res) (rg : List Nat → Array Bool → Env → Option Res) : Nd → Option Res
  | .ret rs us => some (rs, us)
  | .non => none
  | .bif c a b => cond c (sem call hd hb pt rg a) (sem call hd hb pt rg b)
  | .ck c a => cond c (sem call hd hb pt rg a) none
  | .int k t K => mInt k t fun x => sem call hd hb pt rg (K x)
  | .bool t K => mBool t fun x => sem call hd hb pt rg (K x)
  | .str t K => mStr t fun x => sem call hd hb pt rg (K x)
  | .slR n t K => mSlR n t fun xs => sem call hd hb pt rg (K xs)
  | .slO n t K => mSlO n t fun xs => sem call hd hb pt rg (K xs)
  | .slS n t K => mSlS n t fun xs => sem call hd hb pt rg (K xs)
  | .slB n t K => mSlB n t fun r xs => sem call hd hb pt rg (K r xs)
  | .st t K => mSt t fun xs => sem call hd hb pt rg (K xs)
  | .ptR t N K => mPtR t (sem call hd hb pt rg N) fun x => sem call hd hb pt rg (K x)
  | .ptO t N K => mPtO t (sem call hd hb pt rg N) fun x => sem call hd hb pt rg (K x)
  | .ptS t N K => mPtS t (sem call hd hb pt rg N) fun x => sem call hd hb pt rg (K x)
  | .ptB t N K => mPtB t (sem call hd hb pt rg N) fun r x => sem call hd hb pt rg (K r x)
  | .cons ts K => mCons ts fun t ts => sem call hd hb pt rg (K t ts)
  | .nil ts a => mNil ts (sem call hd hb pt rg a)
  | .call f args K => (call f args).bind fun r => sem call hd hb pt rg (K r)
  | .head p env => hd p env
  | .back p env => hb p env
  | .go p env => pt p env
  | .rg p l env => rg p l.toArray env
  | .isNil ts a b => mNull ts (sem call hd hb pt rg a) (sem call hd hb pt rg b)
  | .amb2 a b => amb [sem call hd hb pt rg a, sem call hd hb pt rg b]
  | .amb3 a b c => amb [sem call hd hb pt rg a, sem call hd hb pt rg b, sem call hd hb pt rg c]
  | .amb4 a b c d => amb [sem call hd hb pt rg a, sem call hd hb pt rg b, sem call hd hb pt rg c, sem call hd hb pt rg d]
  | .amb5 a b c d e => amb [sem call hd hb pt rg a, sem call hd hb pt rg b, sem call hd hb pt rg c, sem call hd hb pt rg d, sem call hd hb pt rg e]
  | .amb6 a b c d e g => amb [sem call hd hb pt rg a, sem call hd hb pt rg b, sem call hd hb pt rg c, sem call hd hb pt rg d, sem call hd hb pt rg e, sem call hd hb pt rg g]

/-- From some fuel on it is so. -/
def Ev (F : Nat → (Nat → Nat) → Option Res) (r : Res) : Prop := ∃ N, ∀ n k, N ≤ n → (∀ d, N ≤ k d) → F n k = some r
open Classical in
noncomputable def limit (F : Nat → (Nat → Nat) → Option Res) : Option Res := if h : ∃ r, Ev F r then some h.choose else none
theorem Ev.uniq {F : Nat → (Nat → Nat) → Option Res} {r s : Res} : Ev F r → Ev F s → r = s := by
  rintro ⟨N, h⟩ ⟨M, g⟩
  have h1 := h (N + M) (fun _ => N + M) (by omega) (fun _ => by omega)
  have h2 := g (N + M) (fun _ => N + M) (by omega) (fun _ => by omega)
  rw [h1] at h2
  exact Option.some.inj h2
theorem limit_some {F : Nat → (Nat → Nat) → Option Res} {r : Res} : limit F = some r ↔ Ev F r := by
  unfold limit
  constructor
  · intro h
    split at h
    · rename_i hh
      rw [← Option.some.inj h]
      exact hh.choose_spec
    · cases h
  · intro h
    have hh : ∃ r, Ev F r := ⟨r, h⟩
    rw [dif_pos hh]
    exact congrArg some (Ev.uniq hh.choose_spec h)
noncomputable def tw (cx : Ctx) (f : FuncId) (args : List TV) : Option Res := limit fun n _ => tcall cx n f args
noncomputable def hw (cx : Ctx) (f : FuncId) (p : List Nat) (env : Env) : Option Res := limit fun n k => loopAt cx n k f p (k (c5 p)) env
noncomputable def pw (cx : Ctx) (f : FuncId) (p : List Nat) (env : Env) : Option Res := limit fun n k => ptR cx f n k p env
noncomputable def gw (cx : Ctx) (f : FuncId) (p : List Nat) (l : Array Bool) (env : Env) : Option Res := limit fun n k => rgR cx f n k p l env
/-- What a point comes to. -/
noncomputable def S (cx : Ctx) (f : FuncId) (N : Nd) : Option Res := sem (tw cx) (hw cx f) (hw cx f) (pw cx f) (gw cx f) N

theorem Ev.cond {c : Bool} {A B : Option Res} {F G : Nat → (Nat → Nat) → Option Res} {r : Res} (hA : A = some r → Ev F r) (hB : B = some r → Ev G r) (h : cond c A B = some r) : Ev (fun n k => cond c (F n k) (G n k)) r := by
  cases c with
  | true => exact hA h
  | false => exact hB h
theorem Ev.none {F : Nat → (Nat → Nat) → Option Res} {r : Res} (h : (none : Option Res) = some r) : Ev F r := by cases h
theorem loopAt_upd (cx : Ctx) (n m : Nat) (k : Nat → Nat) (f : FuncId) (p : List Nat) (r : Nat) (env : Env) : loopAt cx n (fun i => if i = c5 p then m else k i) f p r env = loopAt cx n k f p r env := by
  unfold loopAt
  have : ∀ (P : Pol) (fn : Func) (c : Code), @contAt P cx (tcall cx n) f fn n (fun i => if i = c5 p then m else k i) 0 p c (@resK P cx f fn) = @contAt P cx (tcall cx n) f fn n k 0 p c (@resK P cx f fn) := fun P fn c => @contAt_congr P cx _ f fn n _ _ p 0 c _ fun i _ h => by
    rw [if_neg (by omega)]
  simp only [this]
theorem amb_all {α : Type} {x : Option α} {xs : List (Option α)} {r : α} (h : amb (x :: xs) = some r) : x = some r ∧ ∀ y ∈ xs, y = some r := by
  cases xs with
  | nil => exact ⟨h, fun y hy => by cases hy⟩
  | cons y ys =>
    simp only [amb] at h
    split at h
    · rename_i hh
      exact ⟨h, fun z hz => (hh z hz).trans h⟩
    · cases h
theorem amb_of {α : Type} {x : Option α} {xs : List (Option α)} {r : α} (h : x = some r) (hs : ∀ y ∈ xs, y = some r) : amb (x :: xs) = some r := by
  cases xs with
  | nil => exact h
  | cons y ys =>
    simp only [amb]
    rw [if_pos (fun z hz => (hs z hz).trans h.symm)]
    exact h
theorem sem_ev (cx : Ctx) (f : FuncId) : ∀ (N : Nd) (r : Res), S cx f N = some r → Ev (fun n k => sem (tcall cx n) (hdE cx f n k) (hdB cx f n k) (ptR cx f n k) (rgR cx f n k) N) r
  | .ret rs us, r, h => ⟨0, fun _ _ _ _ => h⟩
  | .non, r, h => by cases h
  | .bif c a b, r, h => Ev.cond (sem_ev cx f a r) (sem_ev cx f b r) h
  | .ck c a, r, h => Ev.cond (sem_ev cx f a r) (fun h => Ev.none h) h
  | .int k t K, r, h => by
    simp only [S, sem, mInt] at h ⊢
    split at h
    · split at h
      · rename_i hk
        simp only [hk, if_true]
        exact sem_ev cx f _ r h
      · cases h
    · cases h
  | .bool t K, r, h => by
    simp only [S, sem, mBool] at h ⊢
    split at h
    · exact sem_ev cx f _ r h
    · cases h
  | .str t K, r, h => by
    simp only [S, sem, mStr] at h ⊢
    split at h
    · exact sem_ev cx f _ r h
    · cases h
  | .slR m t K, r, h => by
    simp only [S, sem, mSlR] at h ⊢
    split at h
    · split at h
      · rename_i hk
        simp only [hk, if_true]
        exact sem_ev cx f _ r h
      · cases h
    · cases h
  | .slO m t K, r, h => by
    simp only [S, sem, mSlO] at h ⊢
    split at h
    · split at h
      · rename_i hk
        simp only [hk, if_true]
        exact Ev.cond (fun h => Ev.none h) (sem_ev cx f _ r) h
      · cases h
    · cases h
  | .slS m t K, r, h => by
    simp only [S, sem, mSlS] at h ⊢
    split at h
    · split at h
      · rename_i hk
        simp only [hk, if_true]
        exact Ev.cond (sem_ev cx f _ r) (fun h => Ev.none h) h
      · cases h
    · cases h
  | .slB m t K, r, h => by
    simp only [S, sem, mSlB] at h ⊢
    split at h
    · split at h
      · rename_i hk
        simp only [hk, if_true]
        exact Ev.cond (sem_ev cx f _ r) (sem_ev cx f _ r) h
      · cases h
    · cases h
  | .st t K, r, h => by
    simp only [S, sem, mSt] at h ⊢
    split at h
    · exact sem_ev cx f _ r h
    · cases h
  | .ptR t N K, r, h => by
    simp only [S, sem, mPtR] at h ⊢
    split at h
    · exact sem_ev cx f _ r h
    · exact sem_ev cx f _ r h
    · cases h
  | .ptO t N K, r, h => by
    simp only [S, sem, mPtO] at h ⊢
    split at h
    · exact sem_ev cx f _ r h
    · exact Ev.cond (fun h => Ev.none h) (sem_ev cx f _ r) h
    · cases h
  | .ptS t N K, r, h => by
    simp only [S, sem, mPtS] at h ⊢
    split at h
    · exact sem_ev cx f _ r h
    · exact Ev.cond (sem_ev cx f _ r) (fun h => Ev.none h) h
    · cases h
  | .ptB t N K, r, h => by
    simp only [S, sem, mPtB] at h ⊢
    split at h
    · exact sem_ev cx f _ r h
    · exact Ev.cond (sem_ev cx f _ r) (sem_ev cx f _ r) h
    · cases h
  | .cons ts K, r, h => by
    simp only [S, sem, mCons] at h ⊢
    split at h
    · exact sem_ev cx f _ r h
    · cases h
  | .nil ts a, r, h => by
    simp only [S, sem, mNil] at h ⊢
    split at h
    · exact sem_ev cx f _ r h
    · cases h
  | .call g args K, r, h => by
    simp only [S, sem] at h ⊢
    obtain ⟨s, hs, h⟩ := Option.bind_eq_some_iff.1 h
    obtain ⟨N, hN⟩ := limit_some.1 hs
    obtain ⟨M, hM⟩ := sem_ev cx f (K s) r h
    refine ⟨N + M, fun n k h1 h2 => ?_⟩
    show (tcall cx n g args).bind _ = some r
    rw [show tcall cx n g args = some s from hN n k (by omega) (fun d => by have := h2 d; omega)]
    exact hM n k (by omega) (fun d => by have := h2 d; omega)
  | .head p env, r, h => by
    obtain ⟨N, hN⟩ := limit_some.1 (show hw cx f p env = some r from h)
    refine ⟨N, fun n k h1 h2 => ?_⟩
    show hdE cx f n k p env = some r
    have := hN n (fun i => if i = c5 p then n else k i) h1 (fun d => by split; exact h1; exact h2 d)
    have this : loopAt cx n (fun i => if i = c5 p then n else k i) f p (if c5 p = c5 p then n else k (c5 p)) env = some r := this
    rw [loopAt_upd, if_pos rfl] at this
    exact this
  | .back p env, r, h => by
    obtain ⟨N, hN⟩ := limit_some.1 (show hw cx f p env = some r from h)
    exact ⟨N, hN⟩
  | .go p env, r, h => by
    obtain ⟨N, hN⟩ := limit_some.1 (show pw cx f p env = some r from h)
    exact ⟨N, hN⟩
  | .rg p l env, r, h => by
    obtain ⟨N, hN⟩ := limit_some.1 (show gw cx f p l.toArray env = some r from h)
    exact ⟨N, hN⟩
  | .isNil ts a b, r, h => by
    simp only [S, sem, mNull] at h ⊢
    split at h
    · exact sem_ev cx f a r h
    · exact sem_ev cx f b r h
  | .amb2 a b, r, h => by
    obtain ⟨h0, hb⟩ := amb_all (show amb [S cx f a, S cx f b] = some r from h)
    obtain ⟨N0, H0⟩ := sem_ev cx f a r h0
    obtain ⟨N1, H1⟩ := sem_ev cx f b r (hb _ (by simp))
    refine ⟨N0 + N1, fun n k h1 h2 => amb_of (H0 n k (by omega) fun d => by have := h2 d; omega) fun y hy => ?_⟩
    simp only [List.mem_cons, List.not_mem_nil, or_false] at hy
    rw [hy]
    exact H1 n k (by omega) fun d => by have := h2 d; omega
  | .amb3 a b c, r, h => by
    obtain ⟨h0, hb⟩ := amb_all (show amb [S cx f a, S cx f b, S cx f c] = some r from h)
    obtain ⟨N0, H0⟩ := sem_ev cx f a r h0
    obtain ⟨N1, H1⟩ := sem_ev cx f b r (hb _ (by simp))
    obtain ⟨N2, H2⟩ := sem_ev cx f c r (hb _ (by simp))
    refine ⟨N0 + N1 + N2, fun n k h1 h2 => amb_of (H0 n k (by omega) fun d => by have := h2 d; omega) fun y hy => ?_⟩
    simp only [List.mem_cons, List.not_mem_nil, or_false] at hy
    rcases hy with hy | hy
    · rw [hy]
      exact H1 n k (by omega) fun d => by have := h2 d; omega
    · rw [hy]
      exact H2 n k (by omega) fun d => by have := h2 d; omega
  | .amb4 a b c d, r, h => by
    obtain ⟨h0, hb⟩ := amb_all (show amb [S cx f a, S cx f b, S cx f c, S cx f d] = some r from h)
    obtain ⟨N0, H0⟩ := sem_ev cx f a r h0
    obtain ⟨N1, H1⟩ := sem_ev cx f b r (hb _ (by simp))
    obtain ⟨N2, H2⟩ := sem_ev cx f c r (hb _ (by simp))
    obtain ⟨N3, H3⟩ := sem_ev cx f d r (hb _ (by simp))
    refine ⟨N0 + N1 + N2 + N3, fun n k h1 h2 => amb_of (H0 n k (by omega) fun d => by have := h2 d; omega) fun y hy => ?_⟩
    simp only [List.mem_cons, List.not_mem_nil, or_false] at hy
    rcases hy with hy | hy | hy
    · rw [hy]
      exact H1 n k (by omega) fun d => by have := h2 d; omega
    · rw [hy]
      exact H2 n k (by omega) fun d => by have := h2 d; omega
    · rw [hy]
      exact H3 n k (by omega) fun d => by have := h2 d; omega
  | .amb5 a b c d e, r, h => by
    obtain ⟨h0, hb⟩ := amb_all (show amb [S cx f a, S cx f b, S cx f c, S cx f d, S cx f e] = some r from h)
    obtain ⟨N0, H0⟩ := sem_ev cx f a r h0
    obtain ⟨N1, H1⟩ := sem_ev cx f b r (hb _ (by simp))
    obtain ⟨N2, H2⟩ := sem_ev cx f c r (hb _ (by simp))
    obtain ⟨N3, H3⟩ := sem_ev cx f d r (hb _ (by simp))
    obtain ⟨N4, H4⟩ := sem_ev cx f e r (hb _ (by simp))
    refine ⟨N0 + N1 + N2 + N3 + N4, fun n k h1 h2 => amb_of (H0 n k (by omega) fun d => by have := h2 d; omega) fun y hy => ?_⟩
    simp only [List.mem_cons, List.not_mem_nil, or_false] at hy
    rcases hy with hy | hy | hy | hy
    · rw [hy]
      exact H1 n k (by omega) fun d => by have := h2 d; omega
    · rw [hy]
      exact H2 n k (by omega) fun d => by have := h2 d; omega
    · rw [hy]
      exact H3 n k (by omega) fun d => by have := h2 d; omega
    · rw [hy]
      exact H4 n k (by omega) fun d => by have := h2 d; omega
  | .amb6 a b c d e g, r, h => by
    obtain ⟨h0, hb⟩ := amb_all (show amb [S cx f a, S cx f b, S cx f c, S cx f d, S cx f e, S cx f g] = some r from h)
    obtain ⟨N0, H0⟩ := sem_ev cx f a r h0
    obtain ⟨N1, H1⟩ := sem_ev cx f b r (hb _ (by simp))
    obtain ⟨N2, H2⟩ := sem_ev cx f c r (hb _ (by simp))
    obtain ⟨N3, H3⟩ := sem_ev cx f d r (hb _ (by simp))
    obtain ⟨N4, H4⟩ := sem_ev cx f e r (hb _ (by simp))
    obtain ⟨N5, H5⟩ := sem_ev cx f g r (hb _ (by simp))
    refine ⟨N0 + N1 + N2 + N3 + N4 + N5, fun n k h1 h2 => amb_of (H0 n k (by omega) fun d => by have := h2 d; omega) fun y hy => ?_⟩
    simp only [List.mem_cons, List.not_mem_nil, or_false] at hy
    rcases hy with hy | hy | hy | hy | hy
    · rw [hy]
      exact H1 n k (by omega) fun d => by have := h2 d; omega
    · rw [hy]
      exact H2 n k (by omega) fun d => by have := h2 d; omega
    · rw [hy]
      exact H3 n k (by omega) fun d => by have := h2 d; omega
    · rw [hy]
      exact H4 n k (by omega) fun d => by have := h2 d; omega
    · rw [hy]
      exact H5 n k (by omega) fun d => by have := h2 d; omega
theorem tw_of {cx : Ctx} {f : FuncId} {args : List TV} {N : Nd} (e : ∀ call hd hb pt rg, rdCall cx call hd pt rg f args = sem call hd hb pt rg N) {r : Res} (h : S cx f N = some r) : tw cx f args = some r := by
  obtain ⟨M, hM⟩ := sem_ev cx f N r h
  refine limit_some.2 ⟨M + 1, fun n k h1 h2 => ?_⟩
  obtain ⟨m, rfl⟩ : ∃ m, n = m + 1 := ⟨n - 1, by omega⟩
  refine rdCall_eq (k := k) args ?_
  rw [e _ _ (hdB cx f m k) _ _]
  exact hM m k (by omega) fun d => by have := h2 d; omega
theorem hw_of {cx : Ctx} {f : FuncId} {p : List Nat} {env : Env} {N : Nd} (e : ∀ call hd hb pt rg, rdHd cx call hd hb pt rg f p env = sem call hd hb pt rg N) {r : Res} (h : S cx f N = some r) : hw cx f p env = some r := by
  obtain ⟨M, hM⟩ := sem_ev cx f N r h
  refine limit_some.2 ⟨M + 1, fun n k h1 h2 => ?_⟩
  have := hM n (fun i => if i = c5 p then k (c5 p) - 1 else k i) (by omega) (fun d => by have := h2 d; have := h2 (c5 p); split <;> omega)
  have h3 := ((rdHd_eq (n := n) (k := fun i => if i = c5 p then k (c5 p) - 1 else k i) p env).symm.trans (e _ _ _ _ _)).trans this
  rw [loopAt_upd] at h3
  simp only [if_true] at h3
  rw [show k (c5 p) - 1 + 1 = k (c5 p) by have := h2 (c5 p); omega] at h3
  exact h3
theorem pw_of {cx : Ctx} {f : FuncId} {p : List Nat} {env : Env} {N : Nd} (e : ∀ call hd hb pt rg, rdPt cx call hd hb pt rg f p env = sem call hd hb pt rg N) {r : Res} (h : S cx f N = some r) : pw cx f p env = some r := by
  obtain ⟨M, hM⟩ := sem_ev cx f N r h
  refine limit_some.2 ⟨M, fun n k h1 h2 => ?_⟩
  exact ((rdPt_eq (n := n) (k := k) p env).symm.trans (e _ _ _ _ _)).trans (hM n k h1 h2)
theorem gw_of {cx : Ctx} {f : FuncId} {p : List Nat} {l : List Bool} {env : Env} {N : Nd} (e : ∀ call hd hb pt rg, rdRg cx call hd hb pt rg f p l.toArray env = sem call hd hb pt rg N) {r : Res} (h : S cx f N = some r) : gw cx f p l.toArray env = some r := by
  obtain ⟨M, hM⟩ := sem_ev cx f N r h
  refine limit_some.2 ⟨M, fun n k h1 h2 => ?_⟩
  exact ((rdRg_eq (n := n) (k := k) p l.toArray env).symm.trans (e _ _ _ _ _)).trans (hM n k h1 h2)
theorem tw_calls {cx : Ctx} (hc : ∀ n, CallsOk cx.P cx.sig (tcall cx n)) : CallsOk cx.P cx.sig (tw cx) := by
  intro f Ts w r h hm hnd hxx hwm
  obtain ⟨N, hN⟩ := limit_some.1 h
  exact hc N f Ts w r (hN N (fun _ => N) (Nat.le_refl _) (fun _ => Nat.le_refl _)) hm hnd hxx hwm
end Go.Tree

/- Trees of values: what pieces of a point come to. -/
namespace Go.Tree
set_option linter.unusedVariables false
set_option linter.unusedSimpArgs false
variable {cx : Ctx} {f : FuncId} {r : Res}
theorem S_ret {rs us : List TV} : S cx f (.ret rs us) = some (rs, us) := rfl
theorem S_non : S cx f .non = none := rfl
theorem S_bif {c : Bool} {A B : Nd} : S cx f (.bif c A B) = if c = true then S cx f A else S cx f B := by cases c <;> rfl
theorem S_ck {c : Bool} {A : Nd} : S cx f (.ck c A) = if c = true then S cx f A else none := by cases c <;> rfl
theorem ck_pos {c : Bool} {A : Nd} {X : Option Res} (h : c = true) (e : S cx f A = X) : S cx f (.ck c A) = X := by rw [h]; exact e
theorem bif_pos {c : Bool} {A B : Nd} {X : Option Res} (h : c = true) (e : S cx f A = X) : S cx f (.bif c A B) = X := by rw [h]; exact e
theorem bif_neg {c : Bool} {A B : Nd} {X : Option Res} (h : c = false) (e : S cx f B = X) : S cx f (.bif c A B) = X := by rw [h]; exact e
theorem S_int {k : IntKind} {n : Int} {K : Int → Nd} : S cx f (.int k (.fl (.int k n)) K) = S cx f (K n) := by
  simp only [S, sem, mInt, if_true, cond_true, cond_false]
theorem S_bool {b : Bool} {K : Bool → Nd} : S cx f (.bool (.fl (.bool b)) K) = S cx f (K b) := rfl
theorem S_str {s : ByteArray} {K : ByteArray → Nd} : S cx f (.str (.fl (.string s)) K) = S cx f (K s) := rfl
theorem S_slR {n : Ek} {q : Bool} {xs : List TV} {K : List TV → Nd} : S cx f (.slR n (.sl q n () xs) K) = S cx f (K xs) := by
  simp only [S, sem, mSlR, if_true, cond_true, cond_false]
theorem S_slO {n : Ek} {xs : List TV} {K : List TV → Nd} : S cx f (.slO n (.sl false n () xs) K) = S cx f (K xs) := by
  simp only [S, sem, mSlO, if_true, cond_true, cond_false]
theorem S_slS {n : Ek} {xs : List TV} {K : List TV → Nd} : S cx f (.slS n (.sl true n () xs) K) = S cx f (K xs) := by
  simp only [S, sem, mSlS, if_true, cond_true, cond_false]
theorem S_slB {n : Ek} {q : Bool} {xs : List TV} {K : Bool → List TV → Nd} : S cx f (.slB n (.sl q n () xs) K) = S cx f (K q xs) := by
  cases q <;> simp only [S, sem, mSlB, if_true, cond_true, cond_false]
theorem S_st {xs : List TV} {K : List TV → Nd} : S cx f (.st (.st xs) K) = S cx f (K xs) := rfl
theorem S_ptR {q : Bool} {x : TV} {N : Nd} {K : TV → Nd} : S cx f (.ptR (.pt q () x) N K) = S cx f (K x) := rfl
theorem S_ptO {x : TV} {N : Nd} {K : TV → Nd} : S cx f (.ptO (.pt false () x) N K) = S cx f (K x) := rfl
theorem S_ptS {x : TV} {N : Nd} {K : TV → Nd} : S cx f (.ptS (.pt true () x) N K) = S cx f (K x) := rfl
theorem S_ptN {N : Nd} {K : TV → Nd} : S cx f (.ptO (.fl (.pointer none)) N K) = S cx f N := rfl
theorem S_ptRN {N : Nd} {K : TV → Nd} : S cx f (.ptR (.fl (.pointer none)) N K) = S cx f N := rfl
theorem S_cons {t : TV} {ts : List TV} {K : TV → List TV → Nd} : S cx f (.cons (t :: ts) K) = S cx f (K t ts) := rfl
theorem S_nil {A : Nd} : S cx f (.nil [] A) = S cx f A := rfl
theorem S_call {g : FuncId} {args : List TV} {v : Res} {K : Res → Nd} (h : tw cx g args = some v) : S cx f (.call g args K) = S cx f (K v) := by
  show Option.bind (tw cx g args) _ = _
  rw [h]; rfl
theorem amb_same {α : Type} {X : Option α} : ∀ (xs : List (Option α)), xs ≠ [] → (∀ y ∈ xs, y = X) → amb xs = X
  | [], h, _ => absurd rfl h
  | [x], _, h => h x (by simp)
  | x :: y :: xs, _, h => by
    have hx := h x (by simp)
    simp only [amb]
    rw [if_pos (fun z hz => (h z (by simp [List.mem_cons.1 hz])).trans hx.symm)]
    exact hx
theorem S_amb2 {A B : Nd} {X : Option Res} (a : S cx f A = X) (b : S cx f B = X) : S cx f (.amb2 A B) = X := by
  show amb [S cx f A, S cx f B] = X
  exact amb_same _ (by simp) (by intro y hy; simp only [List.mem_cons, List.not_mem_nil, or_false] at hy; rcases hy with rfl | rfl <;> assumption)
theorem S_amb3 {A B C : Nd} {X : Option Res} (a : S cx f A = X) (b : S cx f B = X) (c : S cx f C = X) : S cx f (.amb3 A B C) = X := by
  show amb [S cx f A, S cx f B, S cx f C] = X
  exact amb_same _ (by simp) (by intro y hy; simp only [List.mem_cons, List.not_mem_nil, or_false] at hy; rcases hy with rfl | rfl | rfl <;> assumption)
theorem S_amb4 {A B C D : Nd} {X : Option Res} (a : S cx f A = X) (b : S cx f B = X) (c : S cx f C = X) (d : S cx f D = X) : S cx f (.amb4 A B C D) = X := by
  show amb [S cx f A, S cx f B, S cx f C, S cx f D] = X
  exact amb_same _ (by simp) (by intro y hy; simp only [List.mem_cons, List.not_mem_nil, or_false] at hy; rcases hy with rfl | rfl | rfl | rfl <;> assumption)
theorem S_amb5 {A B C D E : Nd} {X : Option Res} (a : S cx f A = X) (b : S cx f B = X) (c : S cx f C = X) (d : S cx f D = X) (e : S cx f E = X) : S cx f (.amb5 A B C D E) = X := by
  show amb [S cx f A, S cx f B, S cx f C, S cx f D, S cx f E] = X
  exact amb_same _ (by simp) (by intro y hy; simp only [List.mem_cons, List.not_mem_nil, or_false] at hy; rcases hy with rfl | rfl | rfl | rfl | rfl <;> assumption)
theorem S_isNil {ts : List TV} {A B : Nd} {X : Option Res} (a : ts = [] → S cx f A = X) (b : ts ≠ [] → S cx f B = X) : S cx f (.isNil ts A B) = X := by
  cases ts with
  | nil => exact a rfl
  | cons t ts => exact b (by simp)
theorem tw_given {g : List TV → Option Res} {args : List TV} (h : cx.given f = some g) (hr : g args = some r) : tw cx f args = some r := by
  refine limit_some.2 ⟨1, fun n k h1 _ => ?_⟩
  obtain ⟨m, rfl⟩ : ∃ m, n = m + 1 := ⟨n - 1, by omega⟩
  show tcall cx (m + 1) f args = some r
  simp only [tcall, h, hr]
/-! Rows. -/
theorem getD_map' {β : Type} {e : β → TV} {xs : List β} {i : Nat} {x : β} (h : xs[i]? = some x) : (xs.map e).getD i (.dead ()) = e x := by
  rw [List.getD_eq_getElem?_getD, List.getElem?_map, h]; rfl
theorem at_some {β : Type} {xs : List β} {i : Nat} (h : i < xs.length) : ∃ x, xs[i]? = some x := ⟨_, List.getElem?_eq_getElem h⟩
theorem set_map' {β : Type} {e : β → TV} {xs : List β} {i : Nat} {x : β} : (xs.map e).set i (e x) = (xs.set i x).map e := by rw [List.map_set]
end Go.Tree

/- Trees of values: what a law is handed, told as trees that are for reading alone. -/
namespace Go.Tree
open Go.Deep
set_option linter.unusedVariables false
set_option linter.unusedSimpArgs false
section
variable {H : Type} {enc : TypeId × Value → H} {P : Program} {W : World}
/-- Whatever reads as data of type t is a tree that lies in memory, for reading alone, of which Q holds. -/
def OpensT (enc : TypeId × Value → H) (P : Program) (W : World) (t : TypeId) (Q : LT → Prop) : Prop :=
  ∀ (fuel : Nat) (cs : List Value) (x : DataW H × List MemPlace), DataW.trod enc P W 0 (fun _ => true) true fuel t cs = some x → ∃ T : LT, cells T = cs ∧ Mem W T ∧ own T = [] ∧ Q T
theorem OpensT.imp {t : TypeId} {Q R : LT → Prop} (h : OpensT enc P W t Q) (i : ∀ T, Q T → R T) : OpensT enc P W t R := fun fuel cs x hx => by
  obtain ⟨T, h1, h2, h3, h4⟩ := h fuel cs x hx
  exact ⟨T, h1, h2, h3, i T h4⟩
theorem opensT_int {t : TypeId} {ik : IntKind} (ht : P.underlying t = some (.int ik)) : OpensT enc P W t fun T => ∃ n, er T = .fl (.int ik n) ∧ (Lit.int ik n).wf = true := fun fuel cs x h => by
  obtain ⟨n, rfl, _, hw⟩ := DataW.trod_int ht h
  exact ⟨.fl (.int ik n), rfl, rfl, rfl, n, rfl, hw⟩
theorem opensT_bool {t : TypeId} (ht : P.underlying t = some .bool) : OpensT enc P W t fun T => ∃ b, er T = .fl (.bool b) := fun fuel cs x h => by
  obtain ⟨b, rfl, _⟩ := DataW.trod_bool ht h
  exact ⟨.fl (.bool b), rfl, rfl, rfl, b, rfl⟩
theorem opensT_string {t : TypeId} (ht : P.underlying t = some .string) : OpensT enc P W t fun T => ∃ s : ByteArray, er T = .fl (.string s) ∧ s.size ≤ 9223372036854775807 := fun fuel cs x h => by
  obtain ⟨s, rfl, _, hm⟩ := DataW.trod_string ht h
  exact ⟨.fl (.string s), rfl, rfl, rfl, s, rfl, by unfold maxLen at hm; exact hm⟩
/-- Fields, one behind the other. -/
def OpensL (enc : TypeId × Value → H) (P : Program) (W : World) (tot : Nat) : Nat → List Field → List (LT → Prop) → Prop
  | off, [], Qs => Qs = [] ∧ tot ≤ off
  | off, f :: fs, Qs => f.offset = off ∧ ∃ Q Qs', Qs = Q :: Qs' ∧ OpensT enc P W f.type Q ∧ OpensL enc P W tot (off + P.cellsOf f.type) fs Qs'
def AllQ : List (LT → Prop) → List LT → Prop
  | [], Ts => Ts = []
  | Q :: Qs, Ts => ∃ T Ts', Ts = T :: Ts' ∧ Q T ∧ AllQ Qs Ts'
theorem opensT_fields {n : Nat} {cs : List Value} {tot : Nat} (hc : cs.length = tot) : ∀ (fs : List Field) (Qs : List (LT → Prop)) (off : Nat) (ys : List (DataW H × List MemPlace)), OpensL enc P W tot off fs Qs → ys.length = fs.length →
    (∀ (i : Nat) (f : Field), fs[i]? = some f → DataW.trod enc P W 0 (fun _ => true) true n f.type ((cs.drop f.offset).take (P.cellsOf f.type)) = ys[i]?) → ∃ Ts, cellsL Ts = cs.drop off ∧ MemL W Ts ∧ ownL Ts = [] ∧ AllQ Qs Ts
  | [], Qs, off, ys, ho, hy, hf => by
    obtain ⟨rfl, h⟩ := ho
    exact ⟨[], by rw [List.drop_of_length_le (by omega)]; rfl, trivial, rfl, rfl⟩
  | f :: fs, Qs, off, ys, ho, hy, hf => by
    obtain ⟨h0, Q, Qs', rfl, hQ, ho⟩ := ho
    obtain ⟨y, ys, rfl⟩ : ∃ y ys', ys = y :: ys' := by
      cases ys with
      | nil => simp at hy
      | cons y ys => exact ⟨y, ys, rfl⟩
    have h1 := hf 0 f rfl
    obtain ⟨T, t1, t2, t3, t4⟩ := hQ n _ y h1
    obtain ⟨Ts, u1, u2, u3, u4⟩ := opensT_fields hc fs Qs' _ ys ho (by simpa using hy) (fun i f' hi => by simpa using hf (i + 1) f' (by simpa using hi))
    refine ⟨T :: Ts, ?_, ⟨t2, u2⟩, by rw [ownL, t3, u3]; rfl, T, Ts, rfl, t4, u4⟩
    rw [cellsL, t1, u1, h0, ← List.drop_drop]
    exact List.take_append_drop _ _
theorem opensT_struct {t : TypeId} {fs : Array Field} {Qs : List (LT → Prop)} (ht : P.underlying t = some (.struct fs)) (ho : OpensL enc P W (P.cellsOf t) 0 fs.toList Qs) : OpensT enc P W t fun T => ∃ Ts, T = .st Ts ∧ AllQ Qs Ts := fun fuel cs x h => by
  obtain ⟨ys, n, _, _, hl, hyl, hf⟩ := DataW.trod_struct ht h
  obtain ⟨Ts, h1, h2, h3, h4⟩ := opensT_fields hl fs.toList Qs 0 ys ho (by simpa using hyl) (fun i f hi => hf i f (by simpa using hi))
  exact ⟨.st Ts, by rw [cells, h1]; simp, h2, h3, Ts, rfl, h4⟩
/-- A row. -/
theorem opensT_row {Q : LT → Prop} {e : TypeId} {m : Nat} (hC : P.cellsOf e = m) (he : OpensT enc P W e Q) (a : Addr) (hs : a.spot = none) : ∀ (len : Nat) (n : Nat) (D : Nat → DataW H) (Pl : Nat → List MemPlace),
    (∀ i, i < len → ∃ cs', W.cells? 0 (a.add (i * P.cellsOf e)) (P.cellsOf e) = some cs' ∧ DataW.trod enc P W 0 (fun _ => true) true n e cs' = some (D i, Pl i)) →
    ∃ xs : List LT, xs.length = len ∧ (∀ x ∈ xs, (cells x).length = m ∧ Mem W x ∧ own x = [] ∧ Q x) ∧ (cellsL xs).length = len * m ∧ W.rangeAt a.block a.off (cellsL xs) := by
  intro len
  induction len with
  | zero => exact fun n D Pl _ => ⟨[], rfl, by simp, by simp [cellsL], fun j v h => by simp [cellsL] at h⟩
  | succ len ih =>
    intro n D Pl h
    obtain ⟨xs, hl, hg, hcl, hr⟩ := ih n D Pl (fun i hi => h i (by omega))
    obtain ⟨cs', hc, ht⟩ := h len (by omega)
    obtain ⟨T, t1, t2, t3, t4⟩ := he n cs' _ ht
    obtain ⟨_, hcc, hat⟩ := World.cells?_some hc
    rw [hC] at hcc hat
    refine ⟨xs ++ [T], by simp [hl], fun x hx => ?_, ?_, fun j v hj => ?_⟩
    · rcases List.mem_append.1 hx with hx | hx
      · exact hg x hx
      · rw [List.mem_singleton.1 hx]; exact ⟨by rw [t1, hcc], t2, t3, t4⟩
    · rw [cellsL_append, List.length_append, hcl, Nat.succ_mul]; simp [cellsL, t1, hcc]
    · rw [cellsL_append] at hj
      by_cases hlt : j < (cellsL xs).length
      · rw [List.getElem?_append_left hlt] at hj
        exact hr j v hj
      · rw [List.getElem?_append_right (by omega)] at hj
        simp only [cellsL, List.append_nil, t1] at hj
        have hj2 := (List.getElem?_eq_some_iff.1 hj).1
        have h3 := hat (j - (cellsL xs).length) (by omega)
        rw [hj, add_add] at h3
        rw [← h3]
        congr 1
        unfold Addr.add
        by_cases h0 : len * m + (j - (cellsL xs).length) = 0
        · rw [if_pos h0]
          cases a with
          | mk b o s =>
            have hs : s = none := hs
            subst hs
            have : j = 0 := by omega
            subst this; rfl
        · rw [if_neg h0]
          simp only [Addr.mk.injEq, true_and, and_true]
          omega
theorem opensT_slice {Q : LT → Prop} {t e : TypeId} {k : Ek} (ht : P.underlying t = some (.slice e)) (hC : P.cellsOf e = k.n) (hk : 0 < k.n) (he : OpensT enc P W e Q) (hf : k.m = false → ∀ T, Q T → all T = []) :
    OpensT enc P W t fun T => ∃ h xs, T = .sl true k h xs ∧ xs.length ≤ 9223372036854775807 ∧ ∀ x ∈ xs, Q x := fun fuel cs x h => by
  rcases open_slice ht h with ⟨rfl, _⟩ | ⟨a, len, cap, m, n, D, Pl, rfl, _, hl, hm, hmm, _, hi⟩
  · exact ⟨.sl true k (.slice none 0 0) [], rfl, ⟨⟨none, 0, rfl, Nat.le_refl _, by simp [cellsL], fun h => absurd rfl h⟩, by simp, trivial⟩, rfl, _, [], rfl, by simp, by simp⟩
  · have hm2 : cap = m := by rw [hmm]; rfl
    subst hm2
    by_cases c0 : cap = 0
    · subst c0
      have : len = 0 := by omega
      subst this
      exact ⟨.sl true k (.slice (some a) 0 0) [], rfl, ⟨⟨some a, 0, rfl, Nat.le_refl _, by simp [cellsL], fun h => absurd rfl h⟩, by simp, trivial⟩, rfl, _, [], rfl, by simp, by simp⟩
    · obtain ⟨cs', hc, _⟩ := hi 0 (by omega)
      obtain ⟨_, hcl, hat⟩ := World.cells?_some hc
      obtain ⟨v, hv⟩ : ∃ v, cs'[0]? = some v := ⟨_, List.getElem?_eq_getElem (by omega)⟩
      have h0 := hat 0 (by omega)
      rw [hv, Nat.zero_mul] at h0
      have e0 : (a.add 0).add 0 = a := rfl
      rw [e0] at h0
      have hs : a.spot = none ∧ a.block < W.heap.size := by
        unfold World.cell? at h0
        split at h0
        · rename_i c0 _ _ hh
          refine ⟨?_, (Array.getElem?_eq_some_iff.1 hh).1⟩
          cases hsp : a.spot with
          | none => rfl
          | some s => rw [hsp] at h0; cases h0
        · cases h0
      obtain ⟨xs, hx, hg, hcl2, hr⟩ := opensT_row hC he a hs.1 len n D Pl (fun i h => hi i (by omega))
      subst hx
      refine ⟨.sl true k (.slice (some a) xs.length cap) xs, rfl, ⟨⟨some a, cap, rfl, hl, hcl2, fun _ => ⟨a.block, a.off, ?_, hs.2, hr, fun h => by cases h⟩⟩, fun x hx => ⟨(hg x hx).1, fun h => hf h x (hg x hx).2.2.2⟩, memL_iff.2 fun x hx => (hg x hx).2.1⟩, rfl, _, xs, rfl, by unfold maxLen at hm; omega, fun x hx => (hg x hx).2.2.2⟩
      cases a with
      | mk b o s =>
        have h2 : s = none := hs.1
        subst h2; rfl
/-- An argument. -/
theorem opensT_arg {t : TypeId} {v : Value} {d : DataW H} {ps : List MemPlace} {Q : LT → Prop} (he : OpensT enc P W t Q) (hv : ∀ T : LT, cells T = v.cells.toList → Q T → valOf T = v) (h : DataW.Trod enc P W 0 (fun _ => true) true t v d ps) :
    ∃ T : LT, valOf T = v ∧ Mem W T ∧ own T = [] ∧ Q T := by
  obtain ⟨fuel, hf⟩ := h
  obtain ⟨T, h1, h2, h3, h4⟩ := he fuel _ _ hf
  exact ⟨T, hv T h1 h4, h2, h3, h4⟩
end
/-- What a call has left that may turn nothing. -/
theorem Fr.below {w w' : World} (h : Fr w [] w') : Go.RowKit.Below w.heap.size w w' :=
  ⟨h.os, h.tape, h.output, h.size, fun k hk => h.block k hk (by simp)⟩
theorem map_of {α : Type} {e : α → TV} {G : α → Prop} : ∀ {xs : List LT}, (∀ x ∈ xs, ∃ a, er x = e a ∧ G a) → ∃ l : List α, xs.map er = l.map e ∧ l.length = xs.length ∧ ∀ a ∈ l, G a
  | [], _ => ⟨[], rfl, rfl, by simp⟩
  | x :: xs, h => by
    obtain ⟨a, h1, h2⟩ := h x (by simp)
    obtain ⟨l, h3, h4, h5⟩ := map_of (xs := xs) (fun y hy => h y (by simp [hy]))
    exact ⟨a :: l, by simp [h1, h3], by simp [h4], fun b hb => by
      rcases List.mem_cons.1 hb with rfl | hb
      · exact h2
      · exact h5 b hb⟩
theorem opensT_rowOf {H : Type} {enc : TypeId × Value → H} {P : Program} {W : World} {α : Type} {e' : α → TV} {G : α → Prop} {t e : TypeId} {k : Ek} (ht : P.underlying t = some (.slice e)) (hC : P.cellsOf e = k.n) (hk : 0 < k.n) (he : OpensT enc P W e fun T => ∃ a, er T = e' a ∧ G a) (hf : k.m = false → ∀ a, noMem (e' a) = true) :
    OpensT enc P W t fun T => ∃ l : List α, er T = .sl true k () (l.map e') ∧ l.length ≤ 9223372036854775807 ∧ ∀ a ∈ l, G a :=
  (opensT_slice ht hC hk he fun h T ⟨a, ha, _⟩ => by letI : Pol := ⟨fun _ _ _ => true⟩; exact noMem_all T (by rw [ha]; exact hf h a)).imp fun T ⟨h, xs, hT, hl, hx⟩ => by
    obtain ⟨l, h1, h2, h3⟩ := map_of hx
    exact ⟨l, by rw [hT, er_sl, h1], by rw [h2]; exact hl, h3⟩
theorem ownL_none {Ts : List LT} (h : ∀ T ∈ Ts, own T = []) : ownL Ts = [] := by
  rw [ownL_eq, List.flatMap_eq_nil_iff]; exact h
theorem Wm_nil : ∀ {Ts : List LT}, (∀ T ∈ Ts, own T = []) → Wm false [] Ts
  | [], _ => trivial
  | T :: Ts, h => ⟨fun _ => h T (by simp), fun h' => absurd h' (by simp), Wm_nil fun U hU => h U (by simp [hU])⟩
/-- A function that only reads, and returns one plain value. -/
theorem calls_ro {cx : Ctx} (ok : CallsOk cx.P cx.sig (tw cx)) {f : FuncId} (hs : cx.sig f = ⟨[], [], [], false⟩) {Ts : List LT} {v : Value} {w : World} (hm : ∀ T ∈ Ts, Mem w T) (ho : ∀ T ∈ Ts, own T = []) (h : tw cx f (Ts.map er) = some ([.fl v], [])) :
    Calls cx.P f (Ts.map valOf).toArray w fun e w' => e = .returned v ∧ Go.RowKit.Below w.heap.size w w' := by
  have h0 := ownL_none ho
  refine (ok f Ts w _ h (memL_iff.2 hm) (by rw [h0]; exact List.nodup_nil) (fun b _ => by rw [h0]; simp) (by rw [hs]; exact Wm_nil ho)).mono ?_
  intro e w' hp
  cases e with
  | returned u =>
    obtain ⟨Rs, Vs, hr, hv, rfl, hm', _, _, _, _, fr, _⟩ := hp
    have hr : Rs.map er = [.fl v] := hr
    obtain ⟨R, rfl, hr2⟩ := List.map_eq_singleton_iff.1 hr
    letI : Pol := cx.pol f
    have := er_fl_inv hr2
    subst this
    rw [h0] at fr
    exact ⟨rfl, fr.below⟩
  | _ => exact hp.elim
section
variable [Pol] {T : LT} {v : Value}
theorem val_sl {q : Bool} {k : Ek} {xs : List TV} (e : er T = .sl q k () xs) (h : cells T = [v]) : valOf T = v := by
  obtain ⟨hd, ys, rfl, _⟩ := er_sl_inv e
  exact (List.cons.inj h).1
theorem val_fl {u : Value} (e : er T = .fl u) (h : cells T = [v]) : valOf T = v := by
  have := er_fl_inv e
  subst this
  exact (List.cons.inj h).1
theorem val_st {xs : List TV} {cs : Array Value} (e : er T = .st xs) (h : cells T = cs.toList) : valOf T = .agg cs := by
  obtain ⟨ys, rfl, _⟩ := er_st_inv e
  show Value.agg (cellsL ys).toArray = _
  have h : cellsL ys = cs.toList := h
  rw [h]
end
end Go.Tree
