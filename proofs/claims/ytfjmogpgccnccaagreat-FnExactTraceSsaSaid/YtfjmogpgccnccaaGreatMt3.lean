/- Trees of values, third part: calls, regions, functions, points of a program, what a law is handed. Conditions: none. -/
import Derived.Test.YtfjmogpgccnccaaGreatMt2
import Derived.Test.YtfjmogpgccnccaaGreatMt1
import Derived.Laws.Strings
import Derived.Deep.Slices
import Derived.ChangeArms
import Derived.WideShapes
import Derived.Below
/- Trees of values: a call does what its contract says. -/
namespace Go.Tree
set_option linter.unusedSectionVars false
set_option linter.unusedVariables false
set_option linter.unusedSimpArgs false
variable {P : Program} {w0 : World} {F : Fm} {nt : Nat} {H : List Value} {L : List (AV Value)} {XD : List Nat} {X : List LT} {a : Act} {w : World} {α : Type} {res : α}
variable [Pol]
/-- Arguments as a function wants them: what is not lent is for reading alone; what is lent is no struct. -/
def Wm (sm : Bool) : List Bool → List LT → Prop
  | _, [] => True
  | ws, T :: Ts => (ws.headD false = false → own T = []) ∧ (ws.headD false = true → sm = false → isSt T = false) ∧ Wm sm ws.tail Ts
/-- What came of the arguments that were lent and not used up. -/
def Lent : List Bool → List Bool → List LT → List LT → Prop
  | _, _, [], Vs => Vs = []
  | ws, cs, T :: Ts, Vs => (ws.headD false = true ∧ cs.headD false = false ∧ ∃ V Vs', Vs = V :: Vs' ∧ valOf V = valOf T ∧ Lent ws.tail cs.tail Ts Vs') ∨ ((ws.headD false = false ∨ cs.headD false = true) ∧ Lent ws.tail cs.tail Ts Vs)
def retV : List LT → Value
  | [T] => valOf T
  | Rs => .tuple (Rs.map valOf).toArray
/-- What a call leaves. -/
def Post (sg : Sig) (Ts : List LT) (w : World) (r : Res) (v : Value) (w' : World) : Prop :=
  ∃ Rs Vs, Rs.map er = r.1 ∧ Vs.map er = r.2 ∧ v = retV Rs ∧ MemL w' (Rs ++ Vs) ∧ (ownL (Rs ++ Vs)).Nodup ∧ (∀ b ∈ shrL (Rs ++ Vs), b ∉ ownL (Rs ++ Vs)) ∧ (∀ b ∈ ownL (Rs ++ Vs), b ∈ ownL Ts ∨ w.heap.size ≤ b) ∧
    (∀ b ∈ shrL (Rs ++ Vs), b ∈ shrL Ts ∨ b ∈ ownL Ts ∨ w.heap.size ≤ b) ∧ Fr w (ownL Ts) w' ∧ Lent sg.wm sg.cm Ts Vs
/-- The contract of all calls. -/
def CallsOk (P : Program) (sig : FuncId → Sig) (call : FuncId → List TV → Option Res) : Prop :=
  ∀ (f : FuncId) (Ts : List LT) (w : World) (r : Res), call f (Ts.map er) = some r → MemL w Ts → (ownL Ts).Nodup → (∀ b ∈ shrL Ts, b ∉ ownL Ts) → Wm (sig f).sm (sig f).wm Ts →
    Calls P f (Ts.map valOf).toArray w fun | .returned v, w' => Post (sig f) Ts w r v w' | _, _ => False

theorem rd_vals : ∀ (args : List (TypeId × Operand)) (ws cs : List Bool) (pl : List Lp) (Us Ts : List LT), Rd a args ws Us Ts → Ln a args ws cs pl Us → args.map (fun q => a.eval q.2) = Ts.map valOf
  | [], _, _, _, _, Ts, h, _ => by have h : Ts = [] := h; rw [h]; rfl
  | (ty, x) :: rest, ws, cs, pl, Us, [], h, _ => h.elim
  | (ty, x) :: rest, ws, cs, pl, Us, T :: Ts, h, hl => by
    rcases h with ⟨hw, Us', rfl, h⟩ | ⟨hw, hv, _, h⟩
    · rcases hl with ⟨_, e, pl', U, Us2, rfl, he, _, hv, hl⟩ | ⟨hw', _⟩
      · cases he
        rw [List.map_cons, List.map_cons, rd_vals rest _ _ _ _ Ts h hl, hv]
      · rw [hw] at hw'; cases hw'
    · rcases hl with ⟨hw', _⟩ | ⟨_, hl⟩
      · rw [hw] at hw'; cases hw'
      · rw [List.map_cons, List.map_cons, rd_vals rest _ _ _ _ Ts h hl, hv]
theorem rd_wm {sm : Bool} : ∀ (args : List (TypeId × Operand)) (ws cs : List Bool) (pl : List Lp) (Us Ts Cs : List LT), Rd a args ws Us Ts → Ln a args ws cs pl Us → Plcs sm L pl Us → ws.length ≤ args.length → ownL Cs = [] → Wm sm ws (Ts ++ Cs)
  | [], ws, _, _, _, Ts, Cs, h, _, _, hn, hC => by
    have h : Ts = [] := h
    have hw : ws = [] := List.length_eq_zero_iff.1 (by simpa using hn)
    subst h hw
    rw [List.nil_append]
    clear hn
    induction Cs with
    | nil => trivial
    | cons C Cs ih =>
      simp only [ownL, List.append_eq_nil_iff] at hC
      exact ⟨fun _ => hC.1, (fun h => by cases h), ih hC.2⟩
  | (ty, x) :: rest, ws, cs, pl, Us, [], Cs, h, _, _, _, _ => h.elim
  | (ty, x) :: rest, ws, cs, pl, Us, T :: Ts, Cs, h, hl, hp, hn, hC => by
    have hn' : ws.tail.length ≤ rest.length := by simp at hn ⊢; omega
    rcases h with ⟨hw, Us', rfl, h⟩ | ⟨hw, hv, ho, h⟩
    · rcases hl with ⟨_, e, pl', U, Us2, rfl, he, _, hv, hl⟩ | ⟨hw', _⟩
      · cases he
        obtain ⟨r, p, ty', us⟩ := e
        exact ⟨(fun h => by rw [hw] at h; cases h), fun _ => hp.2.2.1, rd_wm rest _ _ _ _ Ts Cs h hl hp.2.2.2.2 hn' hC⟩
      · rw [hw] at hw'; cases hw'
    · rcases hl with ⟨hw', _⟩ | ⟨_, hl⟩
      · rw [hw] at hw'; cases hw'
      · exact ⟨fun _ => ho, (fun h => by rw [hw] at h; cases h), rd_wm rest _ _ _ _ Ts Cs h hl hp hn' hC⟩
theorem lent_nil : ∀ (cs : List Bool) (Ts Vs : List LT), Lent [] cs Ts Vs → Vs = []
  | _, [], _, h => h
  | cs, T :: Ts, Vs, h => by
    rcases h with ⟨h, _⟩ | ⟨_, h⟩
    · cases h
    · exact lent_nil cs.tail Ts Vs h
theorem lent_bk : ∀ (args : List (TypeId × Operand)) (ws cs : List Bool) (pl : List Lp) (Us Ts Cs Vs : List LT), Rd a args ws Us Ts → Ln a args ws cs pl Us → ws.length ≤ args.length → Lent ws cs (Ts ++ Cs) Vs → Bk pl Us Vs
  | [], ws, cs, pl, Us, Ts, Cs, Vs, h, hl, hn, hV => by
    have h : Ts = [] := h
    have hw : ws = [] := List.length_eq_zero_iff.1 (by simpa using hn)
    obtain ⟨rfl, rfl⟩ := hl
    subst h hw
    exact lent_nil _ _ _ hV
  | (ty, x) :: rest, ws, cs, pl, Us, [], Cs, Vs, h, _, _, _ => h.elim
  | (ty, x) :: rest, ws, cs, pl, Us, T :: Ts, Cs, Vs, h, hl, hn, hV => by
    have hn' : ws.tail.length ≤ rest.length := by simp at hn ⊢; omega
    rcases h with ⟨hw, Us', rfl, h⟩ | ⟨hw, hv, ho, h⟩
    · rcases hl with ⟨_, e, pl', U, Us2, rfl, he, hu, hv, hl⟩ | ⟨hw', _⟩
      · cases he
        rcases hV with ⟨_, hc, V, Vs', rfl, k1, k3⟩ | ⟨hc, k3⟩
        · exact .inr ⟨by rw [hu, hc], V, Vs', rfl, k1, lent_bk rest _ _ _ _ Ts Cs Vs' h hl hn' k3⟩
        · rcases hc with hc | hc
          · rw [hw] at hc; cases hc
          · exact .inl ⟨by rw [hu, hc], lent_bk rest _ _ _ _ Ts Cs Vs h hl hn' k3⟩
      · rw [hw] at hw'; cases hw'
    · rcases hl with ⟨hw', _⟩ | ⟨_, hl⟩
      · rw [hw] at hw'; cases hw'
      · rcases hV with ⟨hw', _⟩ | ⟨_, k3⟩
        · rw [hw] at hw'; cases hw'
        · exact lent_bk rest _ _ _ _ Ts Cs Vs h hl hn' k3
/-- What has been taken out is laid open. -/
theorem G.view {T T' : LT} {ro : Bool} (g : G P w0 F nt H L XD (X ++ [T]) a w) (hv : Vk ro T T') (hm : Mem w T') : G P w0 F nt H L XD (X ++ [T']) a w := by
  cases ro with
  | false => exact g.less hm (by rw [hv.wr.1]; exact List.Sublist.refl _) (fun b hb => by rwa [hv.wr.2] at hb)
  | true =>
    have eo : ∀ x : LT, ownL (X ++ [x]) = ownL X ++ own x := fun x => by simp [ownL_append, ownL]
    have es : ∀ x : LT, shrL (X ++ [x]) = shrL X ++ shr x := fun x => by simp [shrL_append, shrL]
    have hn := g.dj.xn
    rw [eo] at hn
    obtain ⟨n1, n2, n3⟩ := List.nodup_append.1 hn
    have e0 : ownL (X ++ [T']) = ownL X := by rw [eo, hv.rd.1, List.append_nil]
    have hs : ∀ b ∈ shrL (X ++ [T']), b ∈ shrL (X ++ [T]) ∨ b ∈ own T := fun b hb => by
      rw [es, List.mem_append] at hb
      rw [es, List.mem_append]
      rcases hb with hb | hb
      · exact .inl (.inl hb)
      · rw [hv.rd.2] at hb
        rcases all_of T hb with h | h
        · exact .inr h
        · exact .inl (.inr h)
    have hX : ∀ b, b ∈ ownL X → b ∈ ownL (X ++ [T]) := fun b hb => by rw [eo]; simp [hb]
    refine g.flight' (memL_iff.2 fun x hx => ?_) (by rw [e0]; exact n1) (fun b hb => .inl (hX b (by rwa [e0] at hb))) (fun b hb => ?_) (fun b hb hb' => ?_) (fun _ _ _ => rfl) (Nat.le_refl _) rfl rfl rfl
    · rcases List.mem_append.1 hx with h | h
      · exact memL_iff.1 g.memX x (by simp [h])
      · rw [List.mem_singleton.1 h]; exact hm
    · rcases hs b hb with h | h
      · exact .inl h
      · exact .inr (.inl (by rw [eo]; simp [h]))
    · rw [e0] at hb'
      rcases hs b hb with h | h
      · exact g.dj.xx b h (hX b hb')
      · exact n3 b hb' b h rfl
theorem viewAll_ok : ∀ (tys : List TypeId) (rm : List Bool) (Rs : List LT) {X : List LT} (g : G P w0 F nt H L XD (X ++ Rs) a w) {K : List TV → Option α}, viewAll P rm tys (Rs.map er) K = some res →
    ∃ Rs', K (Rs'.map er) = some res ∧ G P w0 F nt H L XD (X ++ Rs') a w ∧ Rs'.map valOf = Rs.map valOf
  | [], rm, Rs, X, g, K, h => by
    cases Rs with
    | nil => exact ⟨[], by simpa [viewAll, mNil] using h, g, rfl⟩
    | cons => simp [viewAll, mNil] at h
  | ty :: tys, rm, Rs, X, g, K, h => by
    cases Rs with
    | nil => simp [viewAll, mCons] at h
    | cons T Rs =>
      simp only [viewAll, List.map_cons, mCons] at h
      have hmT : Mem w T := memL_iff.1 g.memX T (by simp)
      obtain ⟨T', h, hv, hmT'⟩ := view_ok _ hmT h
      have g1 : G P w0 F nt H L XD ((X ++ Rs) ++ [T]) a w := g.perm (by
        rw [List.append_assoc]
        exact (List.perm_append_comm (l₁ := Rs) (l₂ := [T])).append_left X)
      have g2 := g1.view hv hmT'
      have g3 : G P w0 F nt H L XD ((X ++ [T']) ++ Rs) a w := g2.perm (by
        rw [List.append_assoc, List.append_assoc]
        exact (List.perm_append_comm (l₁ := [T']) (l₂ := Rs)).append_left X)
      obtain ⟨Rs', h1, h2, h3⟩ := viewAll_ok tys rm.tail Rs g3 h
      exact ⟨T' :: Rs', by rw [List.map_cons]; exact h1, by simpa using h2, by rw [List.map_cons, List.map_cons, h3, hv.lk.valOf]⟩
theorem anyRo_shr {Rs : List LT} (hm : MemL w Rs) (h : (Rs.map er).any hasRo = false) : shrL Rs = [] := by
  rw [shrL_eq]
  refine List.flatMap_eq_nil_iff.2 fun x hx => hasRo_shr x (memL_iff.1 hm x hx) ?_
  have := List.any_eq_false.1 h (er x) (List.mem_map.2 ⟨x, hx, rfl⟩)
  simpa using this
theorem retV_congr {Rs Rs' : List LT} (h : Rs'.map valOf = Rs.map valOf) : retV Rs' = retV Rs := by
  cases Rs with
  | nil => cases Rs' with
    | nil => rfl
    | cons => cases h
  | cons T Ts =>
    cases Rs' with
    | nil => cases h
    | cons T' Ts' =>
      cases Ts with
      | nil =>
        cases Ts' with
        | nil => simpa [retV] using h
        | cons => simp at h
      | cons U Us =>
        cases Ts' with
        | nil => simp at h
        | cons U' Us' => simp only [retV, h]
/-- Results come to stand in the place that a call writes. -/
theorem landRets {Rs : List LT} {d : Option Tmp} {D : List Nat} (g : G P w0 F nt H L D Rs a w) (hd : fitD nt d = true) {K : Env → Option α}
    (h : (match Rs.map er with
              | [] => K (putD (L.map erA) d .un)
              | [t] => K (putD (L.map erA) d (.val (if (Rs.map er).any hasRo then D else []) t))
              | ts => K (putD (L.map erA) d (.tu (if (Rs.map er).any hasRo then D else []) ts))) = some res) : Nxt P w0 F nt H K res (a.put d (retV Rs)) w := by
  have g0 : G P w0 F nt H L (if (Rs.map er).any hasRo then D else []) Rs a w := by
    cases hr : (Rs.map er).any hasRo with
    | true => exact g
    | false => exact g.undep fun j b hb => by rw [anyRo_shr g.memX hr] at hb; cases hb
  cases Rs with
  | nil => exact landU g.dropX hd _ h
  | cons T Ts =>
    cases Ts with
    | nil => exact landT g0 hd rfl h
    | cons U Us =>
      cases d with
      | none => exact ⟨L, g.dropX, h⟩
      | some d =>
        refine ⟨putS L d (.tu _ (T :: U :: Us)), g0.land (by simpa [fitD] using hd) rfl rfl rfl g0.memX (fun _ => rfl), ?_⟩
        rw [← putS_er]; exact h
end Go.Tree

/- Trees of values: a call, in one step. -/
namespace Go.Tree
set_option linter.unusedSectionVars false
set_option linter.unusedVariables false
set_option linter.unusedSimpArgs false
variable {P : Program} {w0 : World} {F : Fm} {nt : Nat} {H : List Value} {L : List (AV Value)} {XD : List Nat} {X : List LT} {a : Act} {w : World} {α : Type} {res : α}
variable [Pol]
/-- Arguments and captures, as a function is handed them. -/
def argVals (a : Act) (args : List (TypeId × Operand)) (Cs : List LT) : Array Value := (args.map fun q => a.eval q.2).toArray ++ (Cs.map valOf).toArray
theorem nilA_ok : ∀ (q : Bool) (args : List (TypeId × Operand)) (Ts : List LT), args.map (fun x => a.eval x.2) = Ts.map valOf →
    ∃ Ts' : List LT, nilA q args (Ts.map er) = Ts'.map er ∧ Ts'.map valOf = Ts.map valOf ∧ ownL Ts' = ownL Ts ∧ shrL Ts' = shrL Ts ∧ (MemL w Ts → MemL w Ts') ∧ (∀ sm ws Cs, Wm sm ws (Ts ++ Cs) → Wm sm ws (Ts' ++ Cs)) ∧ (∀ ws cs Cs Vs, Lent ws cs (Ts' ++ Cs) Vs → Lent ws cs (Ts ++ Cs) Vs) := by
  intro q args Ts hv
  have same : ∀ {l : List TV}, l = Ts.map er → ∃ Ts' : List LT, l = Ts'.map er ∧ Ts'.map valOf = Ts.map valOf ∧ ownL Ts' = ownL Ts ∧ shrL Ts' = shrL Ts ∧ (MemL w Ts → MemL w Ts') ∧ (∀ sm ws Cs, Wm sm ws (Ts ++ Cs) → Wm sm ws (Ts' ++ Cs)) ∧ (∀ ws cs Cs Vs, Lent ws cs (Ts' ++ Cs) Vs → Lent ws cs (Ts ++ Cs) Vs) :=
    fun h => ⟨Ts, h, rfl, rfl, rfl, id, fun _ _ _ => id, fun _ _ _ _ => id⟩
  unfold nilA
  split
  · rename_i k u ts e
    cases Ts with
    | nil => cases e
    | cons T Ts =>
      rw [List.map_cons] at e
      injection e with e1 e2
      obtain ⟨hh, X, rfl, hX⟩ : ∃ h X, T = .sl true k h X ∧ ([] : List TV) = X.map er := by
        cases T <;> simp only [er] at e1 <;> first | cases e1 | skip
        rename_i r2 k2 h2 X2
        injection e1 with a1 a2 a3 a4
        subst a1; subst a2
        cases X2 with
        | nil => exact ⟨_, _, rfl, rfl⟩
        | cons x xs => cases a4
      have hX := List.map_eq_nil_iff.1 hX.symm
      subst hX
      rw [List.map_cons, List.map_cons] at hv
      injection hv with v1 v2
      have v1 : hh = .slice none 0 0 := v1.symm
      subst v1
      have ho : own (.sl true k (.slice none 0 0) [] : LT) = [] := rfl
      have hs : shr (.sl true k (.slice none 0 0) [] : LT) = [] := rfl
      refine ⟨.fl (.slice none 0 0) :: Ts, by rw [List.map_cons, ← e2]; rfl, rfl, ?_, ?_, fun h => ⟨rfl, h.2⟩, fun sm ws Cs h => ⟨fun _ => rfl, fun _ _ => rfl, h.2.2⟩, fun ws cs Cs Vs h => ?_⟩
      · rw [ownL, ownL, ho]; rfl
      · rw [shrL, shrL, hs]; rfl
      · rcases h with ⟨h1, h2, V, Vs', h3, h4, h5⟩ | h
        · exact .inl ⟨h1, h2, V, Vs', h3, h4, h5⟩
        · exact .inr h
  · exact same rfl
theorem callE_ok {cx : Ctx} {call : FuncId → List TV → Option Res} (hP : cx.P = P) (hC : CallsOk P cx.sig call) (hN : ∀ (f : FuncId) (fn : Func), P.funcs[f]? = some fn → (fn.name == "runtime.NumGoroutine") = false)
    {D0 : List Nat} {X0 : List LT} (g : G P w0 F nt H L D0 X0 a w) {d : Option Tmp} (hd : fitD nt d = true) {f : FuncId} {args : List (TypeId × Operand)} (hf : args.all (fun q => fitO nt q.2) = true) {Cs : List LT} (hCm : MemL w Cs) (hCo : ownL Cs = []) (hCs : ∀ b ∈ shrL Cs, b ∈ shrL X0)
    {K : Env → Option α} (h : callE cx call (L.map erA) d f args (Cs.map er) D0 K = some res) {o : Oper} (ho : o.dst = d) (hrun : (execOp a.eval o).run P w = (callFunc f (argVals a args Cs)).run P w) {Q : Exit → Act → World → Prop} :
    o.wp P a w (Nxt P w0 F nt H K res) Q := by
  unfold callE at h
  rw [hP] at h
  split at h
  · cases h
  · rename_i fn hfn
    cases hc : (fn.body.isSome && decide ((cx.sig f).wm.length ≤ args.length)) with
    | false => rw [hc] at h; cases h
    | true =>
      rw [hc] at h
      simp only [Bool.not_true, cond_false] at h
      simp only [Bool.and_eq_true, decide_eq_true_eq] at hc
      obtain ⟨hbody, hlen⟩ := hc
      obtain ⟨D1, pl, Us, L1, h, g1, hln, hpl, _, _, _⟩ := lends_ok args _ _ [] g hf h
      obtain ⟨D2, Ts, Ro, h, hrd, hTU, hRo, hsub⟩ := reads_ok g1 args _ Us _ hf h
      obtain ⟨r, hcall, h⟩ := Option.bind_eq_some_iff.1 h
      have hvals := rd_vals args _ _ pl Us Ts hrd hln
      obtain ⟨Ts', n1, n2, n3, n4, n5, n6, n7⟩ := nilA_ok (w := w) (cx.own f) args Ts hvals
      rw [n1, ← List.map_append] at hcall
      have no : ownL (Ts' ++ Cs) = ownL (Ts ++ Cs) := by rw [ownL_append, ownL_append, n3]
      have ns : shrL (Ts' ++ Cs) = shrL (Ts ++ Cs) := by rw [shrL_append, shrL_append, n4]
      have nv : (Ts' ++ Cs).map valOf = (Ts ++ Cs).map valOf := by rw [List.map_append, List.map_append, n2]
      -- what has been taken out, with what is read
      have hshRo : ∀ b, b ∈ shrL Ro → ∃ T ∈ Ro, b ∈ shr T := fun b hb => by rw [shrL_eq] at hb; simpa using hb
      have hownRo : ownL Ro = [] := by rw [ownL_eq]; exact List.flatMap_eq_nil_iff.2 fun T hT => (hRo T hT).2.1
      have g2 := g1.addRo (T := .st Ro) (D := D2) (memL_iff.2 fun T hT => (hRo T hT).1) hownRo (fun j b hb hj => by
        obtain ⟨T, hT, hb⟩ := hshRo b hb
        exact (hRo T hT).2.2.1 j b hb hj) (fun b hb => by
        obtain ⟨T, hT, hb⟩ := hshRo b hb
        exact (hRo T hT).2.2.2.1 b hb) (fun b hb => by
        obtain ⟨T, hT, hb⟩ := hshRo b hb
        exact (hRo T hT).2.2.2.2 b hb)
      have hoX : ownL (X0 ++ Us ++ [.st Ro]) = ownL X0 ++ ownL Us := by
        rw [ownL_append, ownL_append]
        simp [ownL, own, hownRo]
      have hsX : ∀ b, b ∈ shrL X0 ∨ b ∈ shrL Us ∨ b ∈ shrL Ro → b ∈ shrL (X0 ++ Us ++ [.st Ro]) := fun b hb => by
        rw [shrL_append, shrL_append]
        simp only [shrL, shr, List.append_nil, List.mem_append]
        rcases hb with h | h | h
        · exact .inl (.inl h)
        · exact .inl (.inr h)
        · exact .inr h
      have hTo : ∀ b, b ∈ ownL (Ts ++ Cs) → b ∈ ownL Us := fun b hb => by
        rw [ownL_append, hCo, List.append_nil] at hb
        exact hsub.subset hb
      have hToX : ∀ b, b ∈ ownL (Ts ++ Cs) → b ∈ ownL (X0 ++ Us ++ [.st Ro]) := fun b hb => by rw [hoX]; exact List.mem_append.2 (.inr (hTo b hb))
      have hTs : ∀ b, b ∈ shrL (Ts ++ Cs) → b ∈ shrL (X0 ++ Us ++ [.st Ro]) := fun b hb => by
        rw [shrL_append] at hb
        rcases List.mem_append.1 hb with h | h
        · rw [shrL_eq] at h
          obtain ⟨T, hT, hb⟩ := List.mem_flatMap.1 h
          rcases hTU T hT with h | h
          · exact hsX b (.inr (.inl (shrL_mem h b hb)))
          · exact hsX b (.inr (.inr (shrL_mem h b hb)))
        · exact hsX b (.inl (hCs b h))
      have hUsn : (ownL Us).Nodup := by
        have := g2.dj.xn
        rw [hoX] at this
        exact (List.nodup_append.1 this).2.1
      have hmTC : MemL w (Ts ++ Cs) := memL_iff.2 fun T hT => by
        rcases List.mem_append.1 hT with h | h
        · rcases hTU T h with h | h
          · exact memL_iff.1 g1.memX T (by simp [h])
          · exact (hRo T h).1
        · exact memL_iff.1 hCm T h
      have hndTC : (ownL (Ts ++ Cs)).Nodup := by rw [ownL_append, hCo, List.append_nil]; exact hsub.nodup hUsn
      have hmTC' : MemL w (Ts' ++ Cs) := memL_iff.2 fun T hT => by
        rcases List.mem_append.1 hT with h | h
        · exact memL_iff.1 (n5 (memL_iff.2 fun T hT => memL_iff.1 hmTC T (List.mem_append.2 (.inl hT)))) T h
        · exact memL_iff.1 hCm T h
      have hcalls := hC f (Ts' ++ Cs) w r hcall hmTC' (no ▸ hndTC) (fun b hb hb' => g2.dj.xx b (hTs b (ns ▸ hb)) (hToX b (no ▸ hb'))) (n6 _ _ _ (rd_wm args _ _ pl Us Ts Cs hrd hln hpl hlen hCo))
      rw [nv] at hcalls
      have hav : argVals a args Cs = ((Ts ++ Cs).map valOf).toArray := by
        simp [argVals, hvals]
      have hbn : fn.body.isNone = false := by
        cases hb : fn.body with
        | none => rw [hb] at hbody; cases hbody
        | some c => rfl
      have hexec : (execOp a.eval o).run P w = .ok (.enter f ((Ts ++ Cs).map valOf).toArray) w := by
        rw [hrun, hav]
        have hne : ¬ fn.name = "runtime.NumGoroutine" := by simpa using hN f fn hfn
        have hbs : ¬ fn.body = none := by intro h; rw [h] at hbody; cases hbody
        simp [callFunc, run_program, hfn, hne, hbs]
      unfold Oper.wp
      rw [hexec, Oper.upon_enter]
      refine hcalls.mono fun e w' hpost => ?_
      cases e with
      | panicked c => exact hpost.elim
      | outgrown => exact hpost.elim
      | returned v =>
        obtain ⟨Rs, Vs, hr1, hr2, rfl, hm', hnd', hxx', ho', hs', hfr, hlent⟩ := hpost
        have hlent := n7 _ _ _ _ hlent
        simp only [no, ns] at ho' hs' hfr
        have hbk := lent_bk args _ _ pl Us Ts Cs Vs hrd hln hlen hlent
        have g3 : G P w0 F nt H L1 (D1 ++ D2) (Rs ++ Vs) a w' := g2.flight' hm' hnd' (fun b hb => (ho' b hb).imp (hToX b) id) (fun b hb => by
            rcases hs' b hb with h | h | h
            · exact .inl (hTs b h)
            · exact .inr (.inl (hToX b h))
            · exact .inr (.inr h)) hxx' (fun k hk hkX => hfr.block k hk fun h => hkX (hToX k h)) hfr.size hfr.os hfr.tape hfr.output
        have g4 : G P w0 F nt H L1 (D1 ++ D2) (Vs ++ Rs) a w' := g3.perm List.perm_append_comm
        rw [← hr1, ← hr2] at h
        obtain ⟨Rs', h, g5, hvR⟩ := viewAll_ok _ _ Rs g4 h
        obtain ⟨L2, h, g6⟩ := backs_ok pl Us Vs g5 hpl hbk h
        rw [ho, ← retV_congr hvR]
        cases hown : cx.own f with
        | false =>
          rw [hown, cond_false] at h
          exact landRets g6 hd h
        | true =>
          rw [hown, cond_true] at h
          cases hdp : deepL (Rs'.map er) with
          | false => rw [hdp] at h; cases h
          | true =>
            rw [hdp, cond_true] at h
            have g7 := g6.undep (XD' := []) (fun j b hb => by rw [deepL_shr Rs' g6.memX hdp] at hb; cases hb)
            refine landRets g7 hd ?_
            simp only [ite_self]
            exact h
theorem cpyT_map {β γ : Type} (f : β → γ) (xs ys : List β) : (cpyT xs ys).map f = cpyT (xs.map f) (ys.map f) := by simp [cpyT, List.map_take, List.map_drop]
theorem memL_flat {w w' : World} {xs : List LT} (h : MemL w xs) (ha : ∀ x ∈ xs, all x = []) : MemL w' xs :=
  MemL.congr _ (fun b hb => by
    obtain ⟨x, hx, hb⟩ := List.mem_flatMap.1 (by rwa [allL_eq] at hb)
    rw [ha x hx] at hb; cases hb) h
theorem take_drop_drop {β : Type} {l : List β} {k n : Nat} (h : k ≤ n) : (l.take n).drop k ++ l.drop n = l.drop k := by
  rw [List.drop_take]
  have := List.take_append_drop (n - k) (l.drop k)
  rw [List.drop_drop, show k + (n - k) = n by omega] at this
  exact this
/-- Where a copied part begins. -/
def loS (sub : Option (Nat × Nat)) : Nat := match sub with | none => 0 | some (lo, _) => lo
theorem lenS_map {β γ : Type} (f : β → γ) (sub : Option (Nat × Nat)) (xs : List β) : lenS sub (xs.map f) = lenS sub xs := by
  cases sub with
  | none => simp [lenS]
  | some q => rfl
theorem cpyS_map {β γ : Type} (f : β → γ) (sub : Option (Nat × Nat)) (xs ys : List β) : (cpyS sub xs ys).map f = cpyS sub (xs.map f) (ys.map f) := by
  cases sub with
  | none => exact cpyT_map f xs ys
  | some q => simp only [cpyS, List.map_append, cpyT_map, List.map_take, List.map_drop]
theorem cpyT_eq {β : Type} (xs ys : List β) : cpyT xs ys = ys.take (min ys.length xs.length) ++ xs.drop (min ys.length xs.length) := by
  unfold cpyT
  rcases Nat.le_total ys.length xs.length with h | h
  · rw [Nat.min_eq_left h, List.take_of_length_le h, List.take_of_length_le (Nat.le_refl _)]
  · rw [Nat.min_eq_right h, List.drop_eq_nil_of_le h, List.drop_eq_nil_of_le (Nat.le_refl _)]
theorem cpyS_eq {β : Type} (sub : Option (Nat × Nat)) (xs ys : List β) (h : loS sub + lenS sub xs ≤ xs.length) : cpyS sub xs ys = xs.take (loS sub) ++ (ys.take (min ys.length (lenS sub xs)) ++ xs.drop (loS sub + min ys.length (lenS sub xs))) := by
  cases sub with
  | none =>
    show cpyT xs ys = xs.take 0 ++ (_ ++ xs.drop (0 + _))
    rw [cpyT_eq, List.take_zero, List.nil_append, Nat.zero_add]; rfl
  | some q =>
    obtain ⟨lo, n⟩ := q
    have h : lo + n ≤ xs.length := h
    show xs.take lo ++ (cpyT ((xs.drop lo).take n) ys ++ xs.drop (lo + n)) = xs.take lo ++ (ys.take (min ys.length n) ++ xs.drop (lo + min ys.length n))
    rw [cpyT_eq, List.length_take, List.length_drop, Nat.min_eq_left (show n ≤ xs.length - lo by omega), List.append_assoc, show xs.drop (lo + n) = (xs.drop lo).drop n by rw [List.drop_drop], take_drop_drop (Nat.min_le_right _ _), List.drop_drop]
theorem cpyS_len {β : Type} (sub : Option (Nat × Nat)) (xs ys : List β) (h : loS sub + lenS sub xs ≤ xs.length) : (cpyS sub xs ys).length = xs.length := by
  rw [cpyS_eq sub xs ys h]; simp; omega
theorem cpyS_mem {β : Type} {sub : Option (Nat × Nat)} {xs ys : List β} (hh : loS sub + lenS sub xs ≤ xs.length) {x : β} (h : x ∈ cpyS sub xs ys) : x ∈ ys ∨ x ∈ xs := by
  rw [cpyS_eq sub xs ys hh] at h
  rcases List.mem_append.1 h with h | h
  · exact .inr (List.mem_of_mem_take h)
  · rcases List.mem_append.1 h with h | h
    · exact .inl (List.mem_of_mem_take h)
    · exact .inr (List.mem_of_mem_drop h)
/-- A row that is written in part is lent. -/
theorem lendS_ok {e : TypeId} (g : G P w0 F nt H L XD X a w) {s : Nat} (hs : s < nt) (hX : rootS L s ∉ XD) {K : List Nat → TV → Nat → List Stp → Option (Nat × Nat) → Env → Option α} (h : lendS P e (L.map erA) s K = some res) :
    ∃ D U r p sub L', K D (er U) r p sub (L'.map erA) = some res ∧ G P w0 F nt H L' (XD ++ D) (X ++ [U]) a w ∧ (sub = none → a.eval (.tmp s) = valOf U) ∧
      (∀ lo n, sub = some (lo, n) → ∃ A len c A', valOf U = .slice A len c ∧ lo + n ≤ len ∧ a.eval (.tmp s) = .slice A' n (c - lo) ∧ (c - lo ≠ 0 → A' = A.map (·.add (lo * P.cellsOf e)))) ∧
      isSt U = false ∧ Pl L' (r, p) (valOf U) ∧ Qt L' (r, p) := by
  have hso := g.slots s hs
  unfold lendS at h
  rw [slot_er] at h
  split at h
  · rename_i deps t ht
    obtain ⟨T, e, rfl⟩ := erA_val ht
    have hm := g.mem s
    rw [e] at hso hm
    split at h
    · rename_i hc
      simp only [Bool.and_eq_true] at hc
      rw [rootS, e] at hX
      have hst : isSt T = false := isBox_st hc.2
      have g1 := take_core (p := []) (u' := T) (T' := deaden T) g e hX (Vk.refl T) hm trivial (Vk.refl T) hm rfl (by simp [Flt]) rfl
      have hsl : s < L.length := Nat.lt_of_lt_of_le hs g.len
      obtain ⟨l1, l2, l3, l4⟩ := lent_places (p := []) (U := T) (T2 := T) (T' := deaden T) hsl e (Lk.refl T) (isSt_val hm) (Vk.refl T) trivial rfl
      refine ⟨deps, T, s, [], none, _, ?_, g1, fun _ => hso, fun _ _ h => (by cases h), hst, l1, l2⟩
      rw [← killC_map_er, ← er_deaden]; exact h
    · cases h
  · rename_i r p sub ty sn ht
    have e' := erA_ref ht
    rw [slot_er] at h
    split at h
    · rename_i deps t hr
      obtain ⟨T, er', rfl⟩ := erA_val hr
      rw [e'] at hso
      rw [rootS, e'] at hX
      obtain ⟨hv, hrv, _⟩ := hso deps T er'
      have hm := g.mem r
      rw [er'] at hm
      obtain ⟨_, _, opq, u, h, hlk, hmu, hvk⟩ := getK_ok p false false T _ hm hv.bd h
      obtain ⟨U, h, hv', hmU⟩ := lay_ok hmu h
      have evu : valOf U = valOf (get default false T p).2 := by rw [hv'.lk.valOf, hlk.valOf]
      split at h
      · rename_i hc
        simp only [Bool.and_eq_true] at hc
        have hst : isSt U = false := isBox_st hc.1.2
        rw [er_deaden] at h
        obtain ⟨T2, T', h, h2, h3, h4, h5, h6, h7, h8, h9⟩ := putK_ok (deaden U) p false T _ hm hv.bd (fun h => by cases h) h
        have hg := h2.get hv
        have h0 : (get default false T p).1 = false := by rw [← hg.1]; exact h7
        rw [h0] at hv'
        have g1 := take_core g er' hX h2 h3 h4 ((hvk h0).trans hv') hmU h5 h9 h7
        have hrl : r < L.length := slot_lt (by rw [er']; simp)
        obtain ⟨l1, l2, l3, l4⟩ := lent_places hrl er' (hlk.trans hv'.lk) (isSt_val hmU) h2 h4 h5
        refine ⟨deps, U, r, p, sub, _, ?_, g1, fun hsub => ?_, fun lo n hsub => ?_, hst, l1, l2⟩
        · rw [← killC_map_er]; exact h
        · subst hsub
          rw [eval_tmp, evu]; exact hrv
        · subst hsub
          obtain ⟨A, len, c, k, A', q1, q2, q3, q4, q5⟩ := hrv
          have hk : elemSz P ty = some (ekOf P e) := by
            rcases Bool.or_eq_true_iff.1 hc.2 with h | h
            · cases h
            · exact eq_of_beq h
          rw [q3] at hk
          have hk := Option.some.inj hk
          subst hk
          exact ⟨A, len, c, A', by rw [evu]; exact q1, q2, by rw [eval_tmp]; exact q4, q5⟩
      · cases h
    · cases h
  · cases h
/-- copy. -/
theorem copyE_ok (g : G P w0 F nt H L [] [] a w) {d : Option Tmp} (hd : fitD nt d = true) {ty tr : TypeId} {x y : Operand} (hx : fitO nt x = true) (hy : fitO nt y = true) {K : Env → Option α} (h : copyE P (L.map erA) d ty x y K = some res) :
    ∃ v w', (Builtin.copy_ #[ty, ty] tr #[a.eval x, a.eval y]).run P w = .ok v w' ∧ Nxt P w0 F nt H K res (a.put d v) w' := by
  unfold copyE at h
  split at h
  · rename_i e s hu
    by_cases hc0 : P.cellsOf e = 0
    · rw [hc0] at h; cases h
    · rw [decide_eq_false hc0, cond_false] at h
      obtain ⟨D2, V, h, hmV, hv2, _, hVX, _, _⟩ := lookO_ok g hy h
      obtain ⟨D, U, r, p, sub, L1, h, g1, hav, hav2, hst, hPl, hQt⟩ := lendS_ok g (by simpa [fitO] using hx) (by simp) h
      simp only [List.nil_append] at g1
      split at h
      · rename_i k hh xs ro k' hh' ys hU hV
        obtain ⟨hdu, xs, rfl, rfl⟩ := er_sl_inv hU
        obtain ⟨hdv, ys, rfl, rfl⟩ := er_sl_inv hV
        cases hc : (k == ekOf P e && k' == k && !k.m) with
        | false => rw [hc] at h; cases h
        | true =>
          rw [hc, cond_true] at h
          have hB := h
          clear h
          simp only [Bool.and_eq_true, beq_iff_eq, Bool.not_eq_true'] at hc
          obtain ⟨⟨rfl, rfl⟩, hkm⟩ := hc
          obtain ⟨i, hi, hsz⟩ := info_size (n := P.cellsOf e) rfl hc0
          have hmU := g1.memX.1
          have hmU0 := hmU
          obtain ⟨⟨A, c, rfl, hc, hl, hx⟩, hk, hmx⟩ := hmU
          have hmV0 := hmV
          obtain ⟨⟨B, c2, rfl, hc2, hl2, hx2⟩, hk2, hmy⟩ := hmV
          have hkn : (ekOf P e).n = P.cellsOf e := rfl
          -- the place that is written
          obtain ⟨A', ea, hsub, hA'⟩ : ∃ A', a.eval (.tmp s) = .slice A' (lenS sub xs) (c - loS sub) ∧ loS sub + lenS sub xs ≤ xs.length ∧ (c - loS sub ≠ 0 → A' = A.map (·.add (loS sub * P.cellsOf e))) := by
            cases sub with
            | none => exact ⟨A, hav rfl, by simp [loS, lenS], fun _ => by
                cases A with
                | none => rfl
                | some q => simp [loS, Addr.add]⟩
            | some q =>
              obtain ⟨lo, n⟩ := q
              obtain ⟨A2, len2, c3, A', q1, q2, q3, q4⟩ := hav2 lo n rfl
              have q1 : Value.slice A xs.length c = .slice A2 len2 c3 := q1
              cases q1
              exact ⟨A', q3, q2, q4⟩
          -- what becomes of it
          have fin : ∀ w', MemL w' [.sl false (ekOf P e) (.slice A xs.length c) (cpyS sub xs ys)] → (∀ b, A = none ∨ c = 0 → w' = w) → (∀ b o, A = some ⟨b, o, none⟩ → c ≠ 0 → (∀ j, j ≠ b → w'.heap[j]? = w.heap[j]?)) → w'.heap.size = w.heap.size → w'.os = w.os → w'.tape = w.tape → w'.output = w.output →
              Nxt P w0 F nt H K res (a.put d (.int .i64 ((min ys.length (lenS sub xs) : Nat) : Int))) w' := fun w' hm' h0 hb hs hos htp hout => by
            have hfl : ∀ x ∈ cpyS sub xs ys, all x = [] := fun x hx => by
              rcases cpyS_mem hsub hx with h | h
              · exact (hk2 x h).2 hkm
              · exact (hk x h).2 hkm
            obtain ⟨n1, n2⟩ := all_nilL hfl
            obtain ⟨m1, m2⟩ := all_nilL (Ts := xs) (fun x hx => (hk x hx).2 hkm)
            have eo : ownL [.sl false (ekOf P e) (.slice A xs.length c) (cpyS sub xs ys)] = ownL [.sl false (ekOf P e) (.slice A xs.length c) xs] := by simp [ownL, own, n1, m1]
            have es : shrL [.sl false (ekOf P e) (.slice A xs.length c) (cpyS sub xs ys)] = [] := by simp [shrL, shr, n2]
            have g2 : G P w0 F nt H L1 D [.sl false (ekOf P e) (.slice A xs.length c) (cpyS sub xs ys)] a w' := g1.flight' hm' (by rw [eo]; exact g1.dj.xn) (fun b hb' => .inl (by rw [← eo]; exact hb')) (fun b hb' => by rw [es] at hb'; cases hb') (fun b hb' => by rw [es] at hb'; cases hb') (fun j hj hjX => by
              by_cases hA : A = none ∨ c = 0
              · rw [h0 0 hA]
              · have hcn : c ≠ 0 := fun h => hA (.inr h)
                obtain ⟨b, o, rfl, _⟩ := hx hcn
                refine hb b o rfl hcn j fun e => hjX ?_
                rw [e]
                simp [ownL, own, blk_row, hcn]) (by rw [hs]; exact Nat.le_refl _) hos htp hout
            have hb1 : backs P (L1.map erA) D [(r, p, ty, false)] (List.map er [.sl false (ekOf P e) (.slice A xs.length c) (cpyS sub xs ys)]) (fun env => K (putD env d (.val [] (.fl (.int .i64 ((min ys.length (lenS sub xs) : Nat) : Int)))))) = some res := by
              rw [List.map_cons, er_sl, cpyS_map, List.map_nil]
              simpa only [List.length_map, lenS_map] using hB
            obtain ⟨L2, h2, g3⟩ := backs_ok (sm := false) [(r, p, ty, false)] [.sl false (ekOf P e) (.slice A xs.length c) xs] [.sl false (ekOf P e) (.slice A xs.length c) (cpyS sub xs ys)] (X := []) (by simpa using g2) ⟨hPl, hQt, fun _ => rfl, fun e he => (by cases he), rfl⟩ (.inr ⟨rfl, _, [], rfl, rfl, rfl⟩) hb1
            exact landV g3.dropX hd rfl h2
          have hm2 : min ys.length (lenS sub xs) ≤ ys.length := Nat.min_le_left _ _
          have hm3 : min ys.length (lenS sub xs) ≤ lenS sub xs := Nat.min_le_right _ _
          generalize hmm : min ys.length (lenS sub xs) = m at hm2 hm3 fin
          have hlt : (cellsL (ys.take m)).length = m * P.cellsOf e := by
            rw [cellsL_len (k := P.cellsOf e) fun x hx => (hk2 x (List.mem_of_mem_take hx)).1, List.length_take]
            congr 1; omega
          have hmT : Mem w (.sl ro (ekOf P e) (.slice B m c2) (ys.take m)) := by
            have hsp : cellsL ys = cellsL (ys.take m) ++ cellsL (ys.drop m) := by rw [← cellsL_append, List.take_append_drop]
            refine ⟨⟨B, c2, by rw [List.length_take]; congr 1; omega, by rw [List.length_take]; omega, by rw [hlt, List.length_take]; congr 1; omega, fun h0 => ?_⟩, fun x hx => hk2 x (List.mem_of_mem_take hx), memL_iff.2 fun x hx => memL_iff.1 hmy x (List.mem_of_mem_take hx)⟩
            obtain ⟨b, o, e1, e2, e3, e4⟩ := hx2 h0
            rw [hsp, rangeAt_append] at e3
            exact ⟨b, o, e1, e2, e3.1, e4⟩
          have hS := src_ok (P := P) hmT hu
          have hlen : (ys.take m).length = m := by rw [List.length_take]; omega
          have hfc : (Builtin.firstCells i.size m (.slice B ys.length c2)).run P w = .ok (cellsL (ys.take m)).toArray w := by
            have := hS.cells
            rw [hlen, hkn, ← hsz] at this
            cases B <;> exact this
          by_cases hm0 : m = 0
          · have hz : cellsL (ys.take m) = [] := by rw [hm0]; rfl
            have hcp : cpyS sub xs ys = xs := by
              rw [cpyS_eq sub xs ys hsub, hmm, hm0]
              simp
            rw [hz] at hfc
            refine ⟨_, w, ?_, fin w (by rw [hcp]; exact ⟨hmU0, trivial⟩) (fun _ _ => rfl) (fun _ _ _ _ _ _ => rfl) rfl rfl rfl rfl⟩
            rw [ea, hv2]
            have hfc' : (Builtin.firstCells i.size (Nat.min ys.length (lenS sub xs)) (.slice B ys.length c2)).run P w = .ok (#[] : Array Value) w := by
              rw [show Nat.min ys.length (lenS sub xs) = m from hmm]; exact hfc
            cases A' <;> simp [Builtin.copy_, valOf, run_underlying hu, Builtin.lenOf, sizeOf, typeInfo, hi, hfc, hfc', storeCells, goInt, hmm]
          · have hcn : c - loS sub ≠ 0 := by omega
            have hcn2 : c ≠ 0 := by omega
            obtain ⟨b, o, rfl, hblt, hr, hth⟩ := hx hcn2
            have hth := hth rfl
            have hA' := hA' hcn
            subst hA'
            have hth' : w.there b (o + loS sub * P.cellsOf e) (cellsL (ys.take m)).length := by
              refine there_sub hth (Nat.le_add_right _ _) ?_
              rw [hlt, hkn]
              have : (loS sub + m) * P.cellsOf e ≤ c * P.cellsOf e := Nat.mul_le_mul_right _ (by omega)
              rw [Nat.add_mul] at this
              omega
            have hone := cellsL_one' _ (memL_iff.2 fun x hx => memL_iff.1 hmy x (List.mem_of_mem_take (i := m) hx))
            have hst := run_storeCells_cells (P := P) b (o + loS sub * P.cellsOf e) (cellsL (ys.take m)) 0 w (fun j hj => by simpa using (hth' j hj).1) (fun j hj => by simpa using (hth' j hj).2) hone
            simp only [Nat.add_zero] at hst
            have hadd : (⟨b, o, none⟩ : Addr).add (loS sub * P.cellsOf e) = ⟨b, o + loS sub * P.cellsOf e, none⟩ := by
              unfold Addr.add
              by_cases h0 : loS sub * P.cellsOf e = 0
              · rw [if_pos h0, h0]; rfl
              · rw [if_neg h0]
            refine ⟨_, w.setCells b (o + loS sub * P.cellsOf e) (cellsL (ys.take m)), ?_, fin _ ⟨⟨⟨_, c, by rw [cpyS_len sub xs ys hsub], by rw [cpyS_len sub xs ys hsub]; exact hc, ?_, fun _ => ⟨b, o, rfl, by rw [setCells_size]; exact hblt, ?_, fun _ => there_setCells hth⟩⟩, ?_, ?_⟩, trivial⟩ (fun _ h => by rcases h with h | h; cases h; exact absurd h hcn2) (fun b' o' h _ j hj => by cases h; exact setCells_heap _ _ _ _ _ hj) (setCells_size _ _ _ _) (setCells_os' _ _ _ _).1 (setCells_os' _ _ _ _).2.1 (setCells_os' _ _ _ _).2.2⟩
            · rw [ea, hv2]
              have hfc' : (Builtin.firstCells i.size (Nat.min ys.length (lenS sub xs)) (.slice B ys.length c2)).run P w = .ok (cellsL (ys.take m)).toArray w := by
                rw [show Nat.min ys.length (lenS sub xs) = m from hmm]; exact hfc
              simp [Builtin.copy_, valOf, run_underlying hu, Builtin.lenOf, sizeOf, typeInfo, hi, hfc, hfc', hst, goInt, hadd, hmm]
            · rw [cellsL_len (k := (ekOf P e).n), cpyS_len sub xs ys hsub]
              intro x hx
              rcases cpyS_mem hsub hx with h | h
              · exact (hk2 x h).1
              · exact (hk x h).1
            · rw [cpyS_eq sub xs ys hsub, hmm, cellsL_append, rangeAt_append, cellsL_append, rangeAt_append]
              have hsp : cellsL xs = cellsL (xs.take (loS sub)) ++ (cellsL ((xs.drop (loS sub)).take m) ++ cellsL (xs.drop (loS sub + m))) := by
                rw [← cellsL_append, ← List.drop_drop, List.take_append_drop, ← cellsL_append, List.take_append_drop]
              have hl1 : (cellsL (xs.take (loS sub))).length = loS sub * P.cellsOf e := by
                rw [cellsL_len (k := P.cellsOf e) fun x hx => (hk x (List.mem_of_mem_take hx)).1, List.length_take]
                congr 1; omega
              have hl2 : (cellsL ((xs.drop (loS sub)).take m)).length = m * P.cellsOf e := by
                rw [cellsL_len (k := P.cellsOf e) fun x hx => (hk x (List.mem_of_mem_drop (List.mem_of_mem_take hx))).1, List.length_take, List.length_drop]
                congr 1; omega
              rw [hsp, rangeAt_append, rangeAt_append, hl1, hl2] at hr
              rw [hl1, hlt]
              refine ⟨rangeAt_setCells_out hr.1 (.inr (.inl (by rw [hl1]; exact Nat.le_refl _))), rangeAt_there hth', rangeAt_setCells_out hr.2.2 (.inr (.inr (by rw [hlt]; exact Nat.le_refl _)))⟩
            · intro x hx
              rcases cpyS_mem hsub hx with h | h
              · exact hk2 x h
              · exact hk x h
            · refine memL_flat (w := w) (memL_iff.2 fun x hx => ?_) fun x hx => ?_
              · rcases cpyS_mem hsub hx with h | h
                · exact memL_iff.1 hmy x h
                · exact memL_iff.1 hmx x h
              · rcases cpyS_mem hsub hx with h | h
                · exact (hk2 x h).2 hkm
                · exact (hk x h).2 hkm
      · cases h
  · cases h
end Go.Tree

/- Trees of values: a row is cleared. -/
namespace Go.Tree
set_option linter.unusedSectionVars false
set_option linter.unusedVariables false
set_option linter.unusedSimpArgs false
variable {P : Program} {w0 : World} {F : Fm} {nt : Nat} {H : List Value} {L : List (AV Value)} {XD : List Nat} {X : List LT} {a : Act} {w : World} {α : Type} {res : α}
variable [Pol]
theorem run_clear {t e : TypeId} {i : TypeInfo} {zv : Value} {b o n c : Nat} {cs : List Value} {w' : World} (tr : TypeId) (hu : P.underlying t = some (.slice e)) (hi : P.info? e = some i) (hz : i.zero = some zv) (hn : n ≠ 0) (hcs : Builtin.zeroCells zv.cells n = cs.toArray) (hst : (storeCells ⟨b, o, none⟩ cs).run P w = .ok () w') :
    (Builtin.clear_ #[t] tr #[.slice (some ⟨b, o, none⟩) n c]).run P w = .ok (.tuple #[]) w' := by
  obtain ⟨n, rfl⟩ : ∃ m, n = m + 1 := ⟨n - 1, by omega⟩
  simp [Builtin.clear_, run_underlying hu, zeroValue, typeInfo, hi, hz, hcs, hst]
theorem run_clear0 {t e : TypeId} {A : Option Addr} {c : Nat} (tr : TypeId) (hu : P.underlying t = some (.slice e)) :
    (Builtin.clear_ #[t] tr #[.slice A 0 c]).run P w = .ok (.tuple #[]) w := by
  cases A <;> simp [Builtin.clear_, run_underlying hu]
/-- clear. -/
theorem clearE_ok (g : G P w0 F nt H L [] [] a w) {ty tr : TypeId} {x : Operand} (hx : fitO nt x = true) {K : Env → Option α} (h : clearE P (L.map erA) ty x K = some res) :
    ∃ w', (Builtin.clear_ #[ty] tr #[a.eval x]).run P w = .ok (.tuple #[]) w' ∧ Nxt P w0 F nt H K res a w' := by
  unfold clearE at h
  split at h
  · rename_i e s hu
    split at h
    · rename_i z hz
      obtain ⟨i, zv, Z, hi, hiz, rfl, vZ, hmZ, haZ⟩ := zeroT_ok (w := w) hz
      cases hb : (decide (P.cellsOf e ≠ 0) && csz (er Z) == P.cellsOf e) with
      | false => rw [hb] at h; cases h
      | true =>
        rw [hb, cond_true] at h
        simp only [Bool.and_eq_true, decide_eq_true_eq, beq_iff_eq, len_er] at hb
        obtain ⟨hc0, hcz⟩ := hb
        obtain ⟨D, U, r, p, sub, L1, h, g1, hav, hav2, hst, hPl, hQt⟩ := lendS_ok g (by simpa [fitO] using hx) (by simp) h
        simp only [List.nil_append] at g1
        split at h
        · rename_i k hh xs hU
          obtain ⟨hdu, xs, rfl, rfl⟩ := er_sl_inv hU
          cases hc : (k == ekOf P e && !k.m) with
          | false => rw [hc] at h; cases h
          | true =>
            rw [hc, cond_true] at h
            have hB := h
            clear h
            simp only [Bool.and_eq_true, beq_iff_eq, Bool.not_eq_true'] at hc
            obtain ⟨rfl, hkm⟩ := hc
            have hsz : i.size = P.cellsOf e := by simp [Program.cellsOf, hi]
            have hzc : zv.cells = (cells Z).toArray := by rw [← vZ, ← cells_toList hmZ]
            have hmU := g1.memX.1
            have hmU0 := hmU
            obtain ⟨⟨A, c, rfl, hc, hl, hx⟩, hk, hmx⟩ := hmU
            have hkn : (ekOf P e).n = P.cellsOf e := rfl
            obtain ⟨A', ea, hsub, hA'⟩ : ∃ A', a.eval (.tmp s) = .slice A' (lenS sub xs) (c - loS sub) ∧ loS sub + lenS sub xs ≤ xs.length ∧ (c - loS sub ≠ 0 → A' = A.map (·.add (loS sub * P.cellsOf e))) := by
              cases sub with
              | none => exact ⟨A, hav rfl, by simp [loS, lenS], fun _ => by
                  cases A with
                  | none => rfl
                  | some q => simp [loS, Addr.add]⟩
              | some q =>
                obtain ⟨lo, n⟩ := q
                obtain ⟨A2, len2, c3, A', q1, q2, q3, q4⟩ := hav2 lo n rfl
                have q1 : Value.slice A xs.length c = .slice A2 len2 c3 := q1
                cases q1
                exact ⟨A', q3, q2, q4⟩
            generalize hm : lenS sub xs = m at hsub ea
            obtain ⟨ys, hys⟩ : ∃ ys, ys = List.replicate m Z := ⟨_, rfl⟩
            have hyl : ys.length = m := by rw [hys, List.length_replicate]
            have hk2 : ∀ x ∈ ys, len x = (ekOf P e).n ∧ ((ekOf P e).m = false → all x = []) := fun x hx => by
              rw [hys] at hx
              rw [(List.mem_replicate.1 hx).2]
              exact ⟨hcz, fun _ => haZ⟩
            have hmy : MemL w ys := by rw [hys]; exact memL_repl hmZ m
            have hsub' : loS sub + lenS sub xs ≤ xs.length := by rw [hm]; exact hsub
            have hmm : min ys.length (lenS sub xs) = m := by rw [hyl, hm, Nat.min_self]
            have fin : ∀ w', MemL w' [.sl false (ekOf P e) (.slice A xs.length c) (cpyS sub xs ys)] → (∀ b, A = none ∨ c = 0 → w' = w) → (∀ b o, A = some ⟨b, o, none⟩ → c ≠ 0 → (∀ j, j ≠ b → w'.heap[j]? = w.heap[j]?)) → w'.heap.size = w.heap.size → w'.os = w.os → w'.tape = w.tape → w'.output = w.output →
                Nxt P w0 F nt H K res a w' := fun w' hm' h0 hb hs hos htp hout => by
              have hfl : ∀ x ∈ cpyS sub xs ys, all x = [] := fun x hx => by
                rcases cpyS_mem hsub' hx with h | h
                · exact (hk2 x h).2 hkm
                · exact (hk x h).2 hkm
              obtain ⟨n1, n2⟩ := all_nilL hfl
              obtain ⟨m1, m2⟩ := all_nilL (Ts := xs) (fun x hx => (hk x hx).2 hkm)
              have eo : ownL [.sl false (ekOf P e) (.slice A xs.length c) (cpyS sub xs ys)] = ownL [.sl false (ekOf P e) (.slice A xs.length c) xs] := by simp [ownL, own, n1, m1]
              have es : shrL [.sl false (ekOf P e) (.slice A xs.length c) (cpyS sub xs ys)] = [] := by simp [shrL, shr, n2]
              have g2 : G P w0 F nt H L1 D [.sl false (ekOf P e) (.slice A xs.length c) (cpyS sub xs ys)] a w' := g1.flight' hm' (by rw [eo]; exact g1.dj.xn) (fun b hb' => .inl (by rw [← eo]; exact hb')) (fun b hb' => by rw [es] at hb'; cases hb') (fun b hb' => by rw [es] at hb'; cases hb') (fun j hj hjX => by
                by_cases hA : A = none ∨ c = 0
                · rw [h0 0 hA]
                · have hcn : c ≠ 0 := fun h => hA (.inr h)
                  obtain ⟨b, o, rfl, _⟩ := hx hcn
                  refine hb b o rfl hcn j fun e => hjX ?_
                  rw [e]
                  simp [ownL, own, blk_row, hcn]) (by rw [hs]; exact Nat.le_refl _) hos htp hout
              have hb1 : backs P (L1.map erA) D [(r, p, ty, false)] (List.map er [.sl false (ekOf P e) (.slice A xs.length c) (cpyS sub xs ys)]) K = some res := by
                rw [List.map_cons, er_sl, cpyS_map, List.map_nil, hys, List.map_replicate]
                simpa only [List.length_map, lenS_map, hm] using hB
              obtain ⟨L2, h2, g3⟩ := backs_ok (sm := false) [(r, p, ty, false)] [.sl false (ekOf P e) (.slice A xs.length c) xs] [.sl false (ekOf P e) (.slice A xs.length c) (cpyS sub xs ys)] (X := []) (by simpa using g2) ⟨hPl, hQt, fun _ => rfl, fun e he => (by cases he), rfl⟩ (.inr ⟨rfl, _, [], rfl, rfl, rfl⟩) hb1
              exact ⟨L2, g3.dropX, h2⟩
            have htk : ys.take m = ys := by rw [List.take_of_length_le (by omega)]
            have hlt : (cellsL ys).length = m * P.cellsOf e := by
              rw [cellsL_len (k := P.cellsOf e) fun x hx => (hk2 x hx).1, hyl]
            by_cases hm0 : m = 0
            · have hcp : cpyS sub xs ys = xs := by
                rw [cpyS_eq sub xs ys hsub', hmm, hm0]
                simp
              refine ⟨w, ?_, fin w (by rw [hcp]; exact ⟨hmU0, trivial⟩) (fun _ _ => rfl) (fun _ _ _ _ _ _ => rfl) rfl rfl rfl rfl⟩
              rw [ea, hm0]
              exact run_clear0 tr hu
            · have hcn : c - loS sub ≠ 0 := by omega
              have hcn2 : c ≠ 0 := by omega
              obtain ⟨b, o, rfl, hblt, hr, hth⟩ := hx hcn2
              have hth := hth rfl
              have hA' := hA' hcn
              subst hA'
              have hth' : w.there b (o + loS sub * P.cellsOf e) (cellsL ys).length := by
                refine there_sub hth (Nat.le_add_right _ _) ?_
                rw [hlt, hkn]
                have : (loS sub + m) * P.cellsOf e ≤ c * P.cellsOf e := Nat.mul_le_mul_right _ (by omega)
                rw [Nat.add_mul] at this
                omega
              have hone := cellsL_one' _ hmy
              have hst := run_storeCells_cells (P := P) b (o + loS sub * P.cellsOf e) (cellsL ys) 0 w (fun j hj => by simpa using (hth' j hj).1) (fun j hj => by simpa using (hth' j hj).2) hone
              simp only [Nat.add_zero] at hst
              have hadd : (⟨b, o, none⟩ : Addr).add (loS sub * P.cellsOf e) = ⟨b, o + loS sub * P.cellsOf e, none⟩ := by
                unfold Addr.add
                by_cases h0 : loS sub * P.cellsOf e = 0
                · rw [if_pos h0, h0]; rfl
                · rw [if_neg h0]
              have hmade : Builtin.zeroCells zv.cells m = (cellsL ys).toArray := by
                unfold Builtin.zeroCells
                rw [hzc, hys]
                have hs' : (cells Z).toArray.size = P.cellsOf e := by rw [List.size_toArray]; exact hcz
                rw [hs']
                have := made_repl hcz hc0 m
                rw [hs'] at this
                exact this
              refine ⟨w.setCells b (o + loS sub * P.cellsOf e) (cellsL ys), ?_, fin _ ⟨⟨⟨_, c, by rw [cpyS_len sub xs ys hsub'], by rw [cpyS_len sub xs ys hsub']; exact hc, ?_, fun _ => ⟨b, o, rfl, by rw [setCells_size]; exact hblt, ?_, fun _ => there_setCells hth⟩⟩, ?_, ?_⟩, trivial⟩ (fun _ h => by rcases h with h | h; cases h; exact absurd h hcn2) (fun b' o' h _ j hj => by cases h; exact setCells_heap _ _ _ _ _ hj) (setCells_size _ _ _ _) (setCells_os' _ _ _ _).1 (setCells_os' _ _ _ _).2.1 (setCells_os' _ _ _ _).2.2⟩
              · rw [ea]
                simp only [Option.map_some, hadd]
                exact run_clear tr hu hi hiz hm0 hmade hst
              · rw [cellsL_len (k := (ekOf P e).n), cpyS_len sub xs ys hsub']
                intro x hx
                rcases cpyS_mem hsub' hx with h | h
                · exact (hk2 x h).1
                · exact (hk x h).1
              · rw [cpyS_eq sub xs ys hsub', hmm, htk, cellsL_append, rangeAt_append, cellsL_append, rangeAt_append]
                have hsp : cellsL xs = cellsL (xs.take (loS sub)) ++ (cellsL ((xs.drop (loS sub)).take m) ++ cellsL (xs.drop (loS sub + m))) := by
                  rw [← cellsL_append, ← List.drop_drop, List.take_append_drop, ← cellsL_append, List.take_append_drop]
                have hl1 : (cellsL (xs.take (loS sub))).length = loS sub * P.cellsOf e := by
                  rw [cellsL_len (k := P.cellsOf e) fun x hx => (hk x (List.mem_of_mem_take hx)).1, List.length_take]
                  congr 1; omega
                have hl2 : (cellsL ((xs.drop (loS sub)).take m)).length = m * P.cellsOf e := by
                  rw [cellsL_len (k := P.cellsOf e) fun x hx => (hk x (List.mem_of_mem_drop (List.mem_of_mem_take hx))).1, List.length_take, List.length_drop]
                  congr 1; omega
                rw [hsp, rangeAt_append, rangeAt_append, hl1, hl2] at hr
                rw [hl1, hlt]
                refine ⟨rangeAt_setCells_out hr.1 (.inr (.inl (by rw [hl1]; exact Nat.le_refl _))), rangeAt_there hth', rangeAt_setCells_out hr.2.2 (.inr (.inr (by rw [hlt]; exact Nat.le_refl _)))⟩
              · intro x hx
                rcases cpyS_mem hsub' hx with h | h
                · exact hk2 x h
                · exact hk x h
              · refine memL_flat (w := w) (memL_iff.2 fun x hx => ?_) fun x hx => ?_
                · rcases cpyS_mem hsub' hx with h | h
                  · exact memL_iff.1 hmy x h
                  · exact memL_iff.1 hmx x h
                · rcases cpyS_mem hsub' hx with h | h
                  · exact (hk2 x h).2 hkm
                  · exact (hk x h).2 hkm
        · cases h
    · cases h
  · cases h
end Go.Tree

/- Trees of values: one operation. -/
namespace Go.Tree
set_option linter.unusedSectionVars false
set_option linter.unusedVariables false
set_option linter.unusedSimpArgs false
variable {P : Program} {w0 : World} {F : Fm} {nt : Nat} {H : List Value} {L : List (AV Value)} {XD : List Nat} {X : List LT} {a : Act} {w : World} {α : Type} {res : α}
variable [Pol]
theorem run_v {s : Sem Value} {v : Value} {w' : World} (h : s.run P w = .ok v w') : (do pure (Next.value (← s)) : Sem Next).run P w = .ok (.value v) w' := by
  simp [h]
theorem run_u {s : Sem Unit} {w' : World} (h : s.run P w = .ok () w') : (do s; pure Next.skip : Sem Next).run P w = .ok .skip w' := by
  simp [h]
/-- An operand comes to stand in the place that an operation writes. -/
theorem copyOrLook_ok (g : G P w0 F nt H L [] [] a w) {fn : Func} {ty : TypeId} {d : Option Tmp} {x : Operand} (hd : fitD nt d = true) (hx : fitO nt x = true) {K : Env → Option α}
    (h : copyL P fn ty (L.map erA) d x K = some res) : Nxt P w0 F nt H K res (a.put d (a.eval x)) w := by
  cases x with
  | tmp s =>
    cases d with
    | none =>
      obtain ⟨D, T, h, _⟩ := lookO_ok (ty := ty) g hx h
      exact ⟨L, g, h⟩
    | some d => exact copyS_ok g (by simpa [fitD] using hd) (by simpa [fitO] using hx) h
  | const v =>
    have h' : takeO P (L.map erA) ty (.const v) (fun deps t env => K (putD env d (.val deps t))) = some res := by
      simp only [copyL, lookO, takeO] at h ⊢
      split at h <;> simp_all
    obtain ⟨D, T, L', h, g', hv⟩ := takeO_ok g hx (fun s hs => by cases hs) h'
    exact landT g' hd hv h
  | func f =>
    have h' : takeO P (L.map erA) ty (.func f) (fun deps t env => K (putD env d (.val deps t))) = some res := h
    obtain ⟨D, T, L', h, g', hv⟩ := takeO_ok g hx (fun s hs => by cases hs) h'
    exact landT g' hd hv h
  | global => cases h
theorem alloc_ok (g : G P w0 F nt H L [] [] a w) {d : Option Tmp} (hd : fitD nt d = true) {e : TypeId} {z : TV} (hz : zeroT P e = some z) {K : Env → Option α} (h : K (putD (L.map erA) d (.val [] (.pt false () z))) = some res) :
    ∃ v w', (Instr.alloc e true (.tuple #[])).run P w = .ok v w' ∧ Nxt P w0 F nt H K res (a.put d v) w' := by
  obtain ⟨i, zv, Z, hi, hiz, rfl, vZ, hmZ, haZ⟩ := zeroT_ok (w := w) hz
  have g1 := g.addRo (T := Z) (D := []) hmZ (noall haZ).1 (fun j b hb => by rw [(noall haZ).2] at hb; cases hb) (fun b hb => by rw [(noall haZ).2] at hb; cases hb) (fun b hb => by rw [(noall haZ).2] at hb; cases hb)
  have hzc : zv.cells = (cells Z).toArray := by rw [← vZ, ← cells_toList hmZ]
  refine ⟨.pointer (some ⟨w.heap.size, 0, none⟩), _, ?_, landT (boxed g1 e) hd rfl h⟩
  rw [← hzc]
  simp [Instr.alloc, zeroValue, typeInfo, hi, hiz, newVar, newRow]
theorem box_ok (g : G P w0 F nt H L [] [] a w) {d : Option Tmp} (hd : fitD nt d = true) {e : TypeId} {x : Operand} (hx : fitO nt x = true) {K : Env → Option α} (h : takeO P (L.map erA) e x (fun deps t env => K (putD env d (.val deps (.pt false () t)))) = some res) :
    ∃ v w', (Instr.box e (a.eval x)).run P w = .ok v w' ∧ Nxt P w0 F nt H K res (a.put d v) w' := by
  obtain ⟨D, T, L', h, g', hv⟩ := takeO_ok g hx (fun s hs => by simp) h
  simp only [List.nil_append] at g'
  have hzc : (a.eval x).cells = (cells T).toArray := by rw [hv, ← cells_toList g'.memX.1]
  refine ⟨.pointer (some ⟨w.heap.size, 0, none⟩), _, ?_, landT (boxed g' e) hd rfl (by rw [er_pt]; exact h)⟩
  rw [← hzc]
  simp [Instr.box, newVar, newRow]
theorem load_ok (g : G P w0 F nt H L [] [] a w) {d : Option Tmp} (hd : fitD nt d = true) {ty : TypeId} {x : Operand} (hx : fitO nt x = true) {K : Env → Option α} (h : place P (L.map erA) ty x (fun r p => loadE P ty (L.map erA) d r p K) = some res) :
    ∃ v, (∀ w', Ext w w' → (Instr.loadAt ty (a.eval x)).run P w' = .ok v w') ∧ Nxt P w0 F nt H K res (a.put d v) w := by
  obtain ⟨r, q, deps, T, b, o, h, hr, ha, hpv⟩ := place_ok g hx h
  rw [hpv]
  exact loadE_ok g hd hr ha h
theorem nilCheck_ok (g : G P w0 F nt H L [] [] a w) {fn : Func} {ty : TypeId} {d s : Nat} (hd : d < nt) (hs : s < nt) {K : Env → Option α} (h : place P (L.map erA) 0 (.tmp s) (fun _ _ => copyS P fn ty (L.map erA) d s K) = some res) :
    ∃ b o, a.eval (.tmp s) = .pointer (some ⟨b, o, none⟩) ∧ Nxt P w0 F nt H K res (a.put (some d) (a.eval (.tmp s))) w := by
  obtain ⟨r, q, deps, T, b, o, h, hr, ha, hpv⟩ := place_ok g (by simpa [fitO] using hs) h
  exact ⟨b, o, hpv, copyS_ok g hd hs h⟩
/-- An address comes to stand in a slot. -/
theorem landA (g : G P w0 F nt H L [] [] a w) {d : Option Tmp} (hd : fitD nt d = true) {r : Nat} {p : List Stp} {deps : List Nat} {T : LT} {b o : Nat} (hr : slot L r = .val deps T) (ha : addrS P none T p = some (b, o)) {K : Env → Option α} (h : K (putD (L.map erA) d (.adr r p)) = some res) :
    Nxt P w0 F nt H K res (a.put d (.pointer (some ⟨b, o, none⟩))) w := by
  refine landRef g hd (av := .adr r p) ⟨rfl, rfl, rfl, fun _ => trivial, fun _ _ => by simp⟩ (fun L' d' hdd hk hnv deps' t' ht' => ?_) h
  by_cases c : r = d'
  · subst c; exact absurd ht' (hnv _ _)
  · have := hk r deps' t' ht' c
    rw [hr] at this
    cases this
    exact ⟨b, o, ha, rfl⟩
theorem fieldAddr_ok (g : G P w0 F nt H L [] [] a w) {d : Option Tmp} (hd : fitD nt d = true) {s : TypeId} {f : Nat} {off : Nat} (hoff : offs P s f = some off) {x : Operand} (hx : fitO nt x = true) {K : Env → Option α} (h : place P (L.map erA) s x (fun r p => K (putD (L.map erA) d (.adr r (p ++ [.f s f])))) = some res) :
    ∃ v, (∀ w, (Instr.fieldAt s (a.eval x) f).run P w = .ok v w) ∧ Nxt P w0 F nt H K res (a.put d v) w := by
  obtain ⟨r, q, deps, T, b, o, h, hr, ha, hpv⟩ := place_ok g hx h
  rw [hpv]
  exact ⟨_, fun w => run_fieldAt hoff, landA g hd hr (by rw [addrS_f, ha, hoff]; rfl) h⟩
theorem indexAddr_ok (g : G P w0 F nt H L [] [] a w) {d : Option Tmp} (hd : fitD nt d = true) {t e : TypeId} (hu : P.underlying t = some (.slice e)) {x i : Operand} (hx : fitO nt x = true) (hi : fitO nt i = true) {m : Int} (hm : (flatO (L.map erA) i).bind intOf = some m) {K : Env → Option α}
    (h : row P (L.map erA) e x (fun r p lo n => bif decide (0 ≤ m) && decide (m < n) then K (putD (L.map erA) d (.adr r (p ++ [.i e (lo + m.toNat)]))) else none) = some res) :
    ∃ v, (∀ w, (Instr.indexAt t (a.eval x) (a.eval i)).run P w = .ok v w) ∧ Nxt P w0 F nt H K res (a.put d v) w := by
  obtain ⟨v, h1, h2⟩ := Option.bind_eq_some_iff.1 hm
  obtain ⟨k, rfl⟩ := intOf_some h2
  have hiv := flatO_ok g hi h1
  obtain ⟨h0, r, p, lo, n, deps, T, A, c, h, hr, hv, hev, hnc, ro, hd', xs, hlk, hlo, hA⟩ := row_ok g hx h
  cases hb : (decide (0 ≤ m) && decide (m < (n : Int))) with
  | false => rw [hb] at h; cases h
  | true =>
    rw [hb, cond_true] at h
    simp only [Bool.and_eq_true, decide_eq_true_eq] at hb
    obtain ⟨b, o, rfl, ha⟩ := hA (by omega)
    rw [hev, hiv]
    refine ⟨_, fun w => run_indexAt hu hb.1 hb.2 h0, landA g hd hr ?_ h⟩
    rw [addrS_app p none false T _ hv]
    have e1 := (hlk.addrS (P := P) (p := [.i e (lo + m.toNat)]) (addrS P none T p))
    rw [← e1]
    simp only [addrS, if_pos (show lo + m.toNat < xs.length by omega)]
    obtain ⟨q, hq, hq2⟩ := Option.map_eq_some_iff.1 ha
    rw [hq]
    simp only [Option.map_some, Prod.mk.injEq] at hq2 ⊢
    simp only [Option.some.injEq, Prod.mk.injEq]
    rw [Nat.add_mul]
    omega
theorem flatOs_ok (g : G P w0 F nt H L XD X a w) : ∀ {xs : List Operand} {vs : List Value}, xs.all (fitO nt) = true → flatOs (L.map erA) xs = some vs → xs.map a.eval = vs
  | [], vs, _, h => by simp only [flatOs, Option.some.injEq] at h; rw [← h]; rfl
  | x :: xs, vs, hf, h => by
    simp only [List.all_cons, Bool.and_eq_true] at hf
    simp only [flatOs, Option.bind_eq_some_iff, Option.map_eq_some_iff] at h
    obtain ⟨v, h1, vs', h2, rfl⟩ := h
    rw [List.map_cons, flatO_ok g hf.1 h1, flatOs_ok g hf.2 h2]
theorem sliceStr_ok (g : G P w0 F nt H L [] [] a w) {d : Option Tmp} (hd : fitD nt d = true) {t : TypeId} (hu : P.underlying t = some .string) {x : Operand} (hx : fitO nt x = true) {lo hi : Option Operand} (hlo : lo.toList.all (fitO nt) = true) (hhi : hi.toList.all (fitO nt) = true) {K : Env → Option α}
    (h : (match flatO (L.map erA) x, flatOs (L.map erA) lo.toList, flatOs (L.map erA) hi.toList with
      | some (.string s), some lo, some hi =>
        match lo.head?.elim (some 0) intOf, hi.head?.elim (some (s.size : Int)) intOf with
        | some lo, some hi => bif boundsOk lo hi s.size then K (putD (L.map erA) d (.val [] (.fl (.string (s.extract lo.toNat hi.toNat))))) else none
        | _, _ => none
      | _, _, _ => none) = some res) : ∃ v, (∀ w, (Instr.sliceAt t (a.eval x) (lo.map a.eval) (hi.map a.eval) none).run P w = .ok v w) ∧ Nxt P w0 F nt H K res (a.put d v) w := by
  split at h
  · rename_i s los his hs hl hh
    have e1 := flatO_ok g hx hs
    have e2 := flatOs_ok g hlo hl
    have e3 := flatOs_ok g hhi hh
    have f2 : los.head? = lo.map a.eval := by rw [← e2]; cases lo <;> rfl
    have f3 : his.head? = hi.map a.eval := by rw [← e3]; cases hi <;> rfl
    rw [f2, f3] at h
    split at h
    · rename_i l hh' el eh
      cases hb : boundsOk l hh' s.size with
      | false => rw [hb] at h; cases h
      | true =>
        rw [hb, cond_true] at h
        rw [e1]
        refine ⟨_, fun w => ?_, landV g hd rfl h⟩
        simp [Instr.sliceAt, run_underlying hu, Instr.slice, run_bounds el eh hb (Nat.le_refl _)]
    · cases h
  · cases h
theorem lenRow_ok (g : G P w0 F nt H L [] [] a w) {d : Option Tmp} (hd : fitD nt d = true) {t ty e : TypeId} (hu : P.underlying t = some (.slice e)) {x : Operand} (hx : fitO nt x = true) {K : Env → Option α} (h : row P (L.map erA) e x (fun _ _ _ n => K (putD (L.map erA) d (.val [] (.fl (.int .i64 n))))) = some res) :
    ∃ v, (∀ w, (Builtin.len_ #[t] ty #[a.eval x]).run P w = .ok v w) ∧ Nxt P w0 F nt H K res (a.put d v) w := by
  obtain ⟨h0, r, p, lo, n, deps, T, A, c, h, hr, hv, hev, hnc, _⟩ := row_ok g hx h
  rw [hev]
  refine ⟨.int .i64 n, fun w => ?_, landV g hd rfl h⟩
  simp [Builtin.len_, run_underlying hu, goInt]
theorem index_ok {s : ByteArray} {t : TypeId} {k : IntKind} {n : Int} (hu : P.underlying t = some .string) (h0 : 0 ≤ n) (hn : n < s.size) : (Instr.index t (.string s) (.int k n)).run P w = .ok (.int .u8 (s.get! n.toNat).toNat) w := by
  rw [run_index_string w t s k n hu, dif_pos ⟨h0, hn⟩]
  have : n.toNat < s.size := by omega
  obtain ⟨bs⟩ := s
  have h2 : n.toNat < bs.size := this
  have e : (ByteArray.mk bs).get! n.toNat = bs[n.toNat] := by
    show bs[n.toNat]! = _
    rw [getElem!_pos bs n.toNat h2]
  rw [e]
  rfl
end Go.Tree

/- Trees of values: one operation, whichever. -/
namespace Go.Tree
set_option linter.unusedSectionVars false
set_option linter.unusedVariables false
set_option linter.unusedSimpArgs false
set_option maxHeartbeats 1000000
variable {w0 : World} {F : Fm} {nt : Nat} {H : List Value} {L : List (AV Value)} {XD : List Nat} {X : List LT} {a : Act} {w : World} {α : Type} {res : α}
variable [Pol]
theorem wp_row {P : Program} {o : Oper} {next : Act → World → Prop} {Q : Exit → Act → World → Prop} (h : ∃ v w', (execOp a.eval o).run P w = .ok (.value v) w' ∧ next (a.put o.dst v) w') : o.wp P a w next Q := by
  obtain ⟨v, w', h1, h2⟩ := h
  exact wp_value h1 h2
theorem Rowv {P : Program} {o : Oper} {s : Sem Value} {next : Value → World → Prop} (he : execOp a.eval o = (do pure (Next.value (← s)))) (h : ∃ v w', s.run P w = .ok v w' ∧ next v w') : ∃ v w', (execOp a.eval o).run P w = .ok (.value v) w' ∧ next v w' := by
  obtain ⟨v, w', h1, h2⟩ := h
  exact ⟨v, w', by rw [he]; exact run_v h1, h2⟩
theorem same_w {P : Program} {s : Sem Value} {next : Value → World → Prop} (h : ∃ v, s.run P w = .ok v w ∧ next v w) : ∃ v w', s.run P w = .ok v w' ∧ next v w' := by
  obtain ⟨v, h1, h2⟩ := h
  exact ⟨v, w, h1, h2⟩
theorem argTys_len {P : Program} {f : FuncId} {c : Call} (hsz : c.argTypes.size = c.args.size) : (argTys P f c).length = c.args.toList.length := by
  unfold argTys
  split
  · rename_i fn _
    cases h : (fn.params.size == c.args.size) with
    | true => simpa using h
    | false => simpa using hsz
  · simpa using hsz
theorem argVals_eq {c : Call} {tys : List TypeId} (hsz : tys.length = c.args.toList.length) (Cs : List LT) : argVals a (tys.zip c.args.toList) Cs = c.args.map a.eval ++ (Cs.map valOf).toArray := by
  have h1 : (tys.zip c.args.toList).map (fun q => a.eval q.2) = c.args.toList.map a.eval := by
    have : (tys.zip c.args.toList).map Prod.snd = c.args.toList := List.map_snd_zip (by omega)
    conv => rhs; rw [← this]
    rw [List.map_map]
    rfl
  rw [argVals, h1]
  congr 1
  apply Array.ext'
  simp
theorem fits_zip {c : Call} {tys : List TypeId} (h : c.args.toList.all (fitO nt) = true) : (tys.zip c.args.toList).all (fun q => fitO nt q.2) = true :=
  List.all_eq_true.2 fun q hq => List.all_eq_true.1 h q.2 (List.of_mem_zip hq).2
/-- Operations that leave all as it is. -/
def still (o : Op) : Bool := quiet o || isLoad o
theorem still_call {c : Call} (h : still (.call c) = true) : c.callee = .builtin .len := by
  obtain ⟨ce, ar, at'⟩ := c
  cases ce with
  | builtin b => cases b <;> first | rfl | (cases h)
  | _ => cases h
theorem call_still {c : Call} (h : c.callee = .builtin .len) : still (.call c) = true := by
  obtain ⟨ce, ar, at'⟩ := c
  simp only at h
  subst h
  rfl
/-- A world in which an operation still yields what it yields. -/
def CalmW (o : Oper) (w w' : World) : Prop := isLoad o.op = true → Ext w w'
theorem Rowq {P : Program} {o : Oper} {s : Sem Value} {next : Value → Prop} (he : execOp a.eval o = (do pure (Next.value (← s)))) (h : ∃ v, (∀ w', s.run P w' = .ok v w') ∧ next v) : ∃ v, (∀ w', CalmW o w w' → (execOp a.eval o).run P w' = .ok (.value v) w') ∧ next v := by
  obtain ⟨v, h1, h2⟩ := h
  exact ⟨v, fun w' _ => by rw [he]; exact run_v (h1 w'), h2⟩
theorem Rowl {P : Program} {o : Oper} {s : Sem Value} {next : Value → Prop} (hl : isLoad o.op = true) (he : execOp a.eval o = (do pure (Next.value (← s)))) (h : ∃ v, (∀ w', Ext w w' → s.run P w' = .ok v w') ∧ next v) : ∃ v, (∀ w', CalmW o w w' → (execOp a.eval o).run P w' = .ok (.value v) w') ∧ next v := by
  obtain ⟨v, h1, h2⟩ := h
  exact ⟨v, fun w' hw => by rw [he]; exact run_v (h1 w' (hw hl)), h2⟩
theorem evOp0_still {cx : Ctx} {call : FuncId → List TV → Option Res} (g : G cx.P w0 F nt H L [] [] a w) {fn : Func} {o : Oper} (hst : still o.op = true) (hfit : fitOp nt o = true) {K : Env → Option α} (h : evOp0 cx call fn o (L.map erA) K = some res) :
    ∃ v, (∀ w', CalmW o w w' → (execOp a.eval o).run cx.P w' = .ok (.value v) w') ∧ Nxt cx.P w0 F nt H K res (a.put o.dst v) w := by
  simp only [fitOp, Bool.and_eq_true] at hfit
  obtain ⟨hd, hx⟩ := hfit
  cases hop : o.op with
  | move x =>
    rw [hop] at hx
    have hx : fitO nt x = true := by simpa [opnds] using hx
    refine ⟨a.eval x, fun w' _ => by unfold execOp; simp only [hop]; rfl, ?_⟩
    simp only [evOp0, hop] at h
    cases hdd : o.dst with
    | none => rw [hdd] at h; cases h
    | some d =>
      rw [hdd] at h hd
      exact copyOrLook_ok g hd hx h
  | assign x =>
    rw [hop] at hx
    have hx : fitO nt x = true := by simpa [opnds] using hx
    refine ⟨a.eval x, fun w' _ => by unfold execOp; simp only [hop]; rfl, ?_⟩
    simp only [evOp0, hop] at h
    cases hdd : o.dst with
    | none => rw [hdd] at h; cases h
    | some d =>
      rw [hdd] at h hd
      exact copyOrLook_ok g hd hx h
  | pick c x y =>
    rw [hop] at hx
    simp only [opnds, List.all_cons, List.all_nil, Bool.and_true, Bool.and_eq_true] at hx
    simp only [evOp0, hop] at h
    split at h
    · rename_i b hc
      have hcv := flatO_ok g hx.1 hc
      refine ⟨if b then a.eval x else a.eval y, fun w' _ => by unfold execOp; simp only [hop]; simp [hcv, asBool], ?_⟩
      cases b with
      | true => exact copyOrLook_ok g hd hx.2.1 h
      | false => exact copyOrLook_ok g hd hx.2.2 h
    · cases h
  | load t x =>
    rw [hop] at hx
    have hx : fitO nt x = true := by simpa [opnds] using hx
    simp only [evOp0, hop] at h
    exact Rowl (a := a) (w := w) (o := o) (next := fun v => Nxt cx.P w0 F nt H K res (a.put o.dst v) w) (by rw [hop]; rfl) (s := Instr.loadAt t (a.eval x)) (by unfold execOp; simp only [hop]) (load_ok g hd hx h)
  | nilCheck x =>
    rw [hop] at hx
    have hx : fitO nt x = true := by simpa [opnds] using hx
    simp only [evOp0, hop] at h
    cases hdd : o.dst with
    | none => rw [hdd] at h; cases h
    | some d =>
      rw [hdd] at h hd
      cases x with
      | tmp s =>
        obtain ⟨b, off, h1, h2⟩ := nilCheck_ok g (by simpa [fitD] using hd) (by simpa [fitO] using hx) h
        exact ⟨a.eval (.tmp s), fun w' _ => by unfold execOp; simp only [hop, h1]; rfl, h2⟩
      | _ => cases h
  | fieldAddr s x f =>
    rw [hop] at hx
    have hx : fitO nt x = true := by simpa [opnds] using hx
    simp only [evOp0, hop] at h
    split at h
    · rename_i off hoff
      exact Rowq (a := a) (w := w) (o := o) (s := Instr.fieldAt s (a.eval x) f) (by unfold execOp; simp only [hop]) (fieldAddr_ok g hd hoff hx h)
    · cases h
  | indexAddr t x i =>
    rw [hop] at hx
    simp only [opnds, List.all_cons, List.all_nil, Bool.and_true, Bool.and_eq_true] at hx
    simp only [evOp0, hop] at h
    split at h
    · rename_i m hm
      split at h
      · rename_i e hu
        exact Rowq (a := a) (w := w) (o := o) (s := Instr.indexAt t (a.eval x) (a.eval i)) (by unfold execOp; simp only [hop]) (indexAddr_ok g hd hu hx.1 hx.2 hm h)
      · cases h
    · cases h
  | slice t x lo hi mx =>
    rw [hop] at hx
    simp only [opnds, List.all_cons, List.all_append, Bool.and_eq_true] at hx
    cases mx with
    | some m => simp only [evOp0, hop] at h; cases h
    | none =>
      simp only [evOp0, hop] at h
      split at h
      · rename_i e hu
        exact Rowq (a := a) (w := w) (o := o) (s := Instr.sliceAt t (a.eval x) (lo.map a.eval) (hi.map a.eval) none) (by unfold execOp; simp only [hop]; rfl) (sliceE_ok g hd hu hx.1 (by have h0 := hx.2.1; cases lo <;> first | (simp; done) | (simp at h0 ⊢; exact h0)) (by have h0 := hx.2.2; cases hi <;> first | (simp; done) | (simp at h0 ⊢; exact h0)) h)
      · rename_i hu
        exact Rowq (a := a) (w := w) (o := o) (s := Instr.sliceAt t (a.eval x) (lo.map a.eval) (hi.map a.eval) none) (by unfold execOp; simp only [hop]; rfl) (sliceStr_ok g hd hu hx.1 hx.2.1 hx.2.2 h)
      · cases h
  | extract x i =>
    rw [hop] at hx
    have hx : fitO nt x = true := by simpa [opnds] using hx
    simp only [evOp0, hop] at h
    cases x with
    | tmp s =>
      simp only at h
      split at h
      · rename_i deps ts ht
        exact Rowq (a := a) (w := w) (o := o) (s := Instr.extract (a.eval (.tmp s)) i) (by unfold execOp; simp only [hop]) (extract_ok g hd (by simpa [fitO] using hx) ht h)
      · cases h
    | _ => cases h
  | binOp op t x y t2 =>
    rw [hop] at hx
    simp only [opnds, List.all_cons, List.all_nil, Bool.and_true, Bool.and_eq_true] at hx
    simp only [evOp0, hop] at h
    refine Rowq (a := a) (w := w) (o := o) (s := (do eqGuard op t x y (a.eval x) (a.eval y); binOp op t (a.eval x) (a.eval y))) (by unfold execOp; simp only [hop]) ?_
    split at h
    · rename_i u v hf
      have e := flatOs_ok g (xs := [x, y]) (by simp [hx.1, hx.2]) hf
      simp only [List.map_cons, List.map_nil, List.cons.injEq, and_true] at e
      rw [e.1, e.2]
      obtain ⟨z, h1, h2, h3⟩ := binF_ok h
      exact ⟨z, h1, landV g hd h2 h3⟩
    · split at h
      · obtain ⟨b, h1, h2, _, h4⟩ := nilAsk_ok g hx.1 h
        exact ⟨_, fun w => by rw [Sem.run_bind, h4 .eql]; exact h2 w, landV g hd rfl h1⟩
      · obtain ⟨b, h1, _, h2, h4⟩ := nilAsk_ok g hx.1 h
        exact ⟨_, fun w => by rw [Sem.run_bind, h4 .neq]; exact h2 w, landV g hd rfl h1⟩
      · cases h
  | convert s t x =>
    rw [hop] at hx
    have hx : fitO nt x = true := by simpa [opnds] using hx
    simp only [evOp0, hop] at h
    split at h
    · rename_i v hv
      have e := flatO_ok g hx hv
      obtain ⟨z, h1, h2, h3⟩ := pureV_ok h
      exact Rowq (a := a) (w := w) (o := o) (s := convert s t (a.eval x)) (by unfold execOp; simp only [hop]) ⟨z, by rw [e]; exact h1, landV g hd h2 h3⟩
    · cases h
  | unOp op t x =>
    rw [hop] at hx
    have hx : fitO nt x = true := by simpa [opnds] using hx
    simp only [evOp0, hop] at h
    split at h
    · rename_i v hv
      have e := flatO_ok g hx hv
      obtain ⟨z, h1, h2, h3⟩ := pureV_ok h
      exact Rowq (a := a) (w := w) (o := o) (s := Op.unary op (a.eval x)) (by unfold execOp; simp only [hop]) ⟨z, by rw [e]; exact h1, landV g hd h2 h3⟩
    · cases h
  | index t x i =>
    rw [hop] at hx
    simp only [opnds, List.all_cons, List.all_nil, Bool.and_true, Bool.and_eq_true] at hx
    simp only [evOp0, hop] at h
    split at h
    · rename_i s k n hu h1 h2
      have e1 := flatO_ok g hx.1 h1
      have e2 := flatO_ok g hx.2 h2
      cases hb : (decide (0 ≤ n) && decide (n < (s.size : Int))) with
      | false => rw [hb] at h; cases h
      | true =>
        rw [hb, cond_true] at h
        simp only [Bool.and_eq_true, decide_eq_true_eq] at hb
        exact Rowq (a := a) (w := w) (o := o) (s := Instr.index t (a.eval x) (a.eval i)) (by unfold execOp; simp only [hop]) ⟨_, fun w => by rw [e1, e2]; exact index_ok hu hb.1 hb.2, landV g hd rfl h⟩
    · cases h
  | makeFunc f first caps =>
    rw [hop] at hx
    have hx : caps.toList.all (fitO nt) = true := by simpa [opnds] using hx
    simp only [evOp0, hop] at h
    cases f with
    | func f =>
      simp only at h
      cases hb : (first.size != 0) with
      | true => rw [hb] at h; cases h
      | false =>
        rw [hb, cond_false] at h
        have hf0 : first = #[] := by simpa using hb
        exact Rowq (a := a) (w := w) (o := o) (s := Instr.makeFunc (.func f) #[] (caps.map a.eval)) (by unfold execOp; simp only [hop, hf0, Array.map_empty]) (makeFunc_ok g hd hx h)
    | _ => cases h
  | call c =>
    rw [hop] at hx
    simp only [opnds, List.all_append, Bool.and_eq_true] at hx
    obtain ⟨ha, hc⟩ := hx
    simp only [evOp0, hop] at h
    cases hsz : (c.argTypes.size != c.args.size) with
    | true => rw [hsz] at h; cases h
    | false =>
      rw [hsz, cond_false] at h
      have hsz : c.argTypes.size = c.args.size := by simpa using hsz
      cases hcal : c.callee with
      | invoke r m => rw [hop] at hst; have := still_call hst; rw [hcal] at this; cases this
      | value x => rw [hop] at hst; have := still_call hst; rw [hcal] at this; cases this
      | builtin b =>
        rw [hcal] at h
        have hex : execOp a.eval o = builtin b c.argTypes o.type (c.args.map fun | .const _ => true | _ => false) (c.args.map a.eval) := by
          unfold execOp
          simp only [hop, resolve, hcal]
          rfl
        cases b with
        | len =>
          simp only at h
          split at h
          · rename_i x t hax hat
            have eax : c.args = #[x] := Array.ext' hax
            have eat : c.argTypes = #[t] := Array.ext' hat
            have hx : fitO nt x = true := by rw [hax] at ha; simpa using ha
            have hex' : execOp a.eval o = (do pure (Next.value (← Builtin.len_ #[t] o.type #[a.eval x]))) := by
              have e1 : c.args.map a.eval = #[a.eval x] := by rw [eax]; simp
              rw [hex, e1, eat]; rfl
            split at h
            · rename_i hu
              split at h
              · rename_i s hs
                have e := flatO_ok g hx hs
                exact Rowq hex' ⟨_, fun w => by rw [e]; exact run_len_string w t o.type s hu, landV g hd rfl h⟩
              · cases h
            · rename_i e hu
              exact Rowq hex' (lenRow_ok g hd hu hx h)
            · cases h
          · cases h
        | _ => rw [hop] at hst; have := still_call hst; rw [hcal] at this; cases this
  | _ => rw [hop] at hst; simp [still, quiet, isLoad] at hst
theorem evOp0_ok {cx : Ctx} {call : FuncId → List TV → Option Res} (hC : CallsOk cx.P cx.sig call) (hN : ∀ (f : FuncId) (fn : Func), cx.P.funcs[f]? = some fn → (fn.name == "runtime.NumGoroutine") = false)
    (g : G cx.P w0 F nt H L [] [] a w) {fn : Func} {o : Oper} (hfit : fitOp nt o = true) {K : Env → Option α} (h : evOp0 cx call fn o (L.map erA) K = some res) {Q : Exit → Act → World → Prop} : o.wp cx.P a w (Nxt cx.P w0 F nt H K res) Q := by
  by_cases hst : still o.op = true
  · obtain ⟨v, h1, h2⟩ := evOp0_still g hst hfit h
    exact wp_value (h1 w fun _ => Ext.refl w) h2
  simp only [fitOp, Bool.and_eq_true] at hfit
  obtain ⟨hd, hx⟩ := hfit
  cases hop : o.op with
  | alloc e =>
    simp only [evOp0, hop] at h
    split at h
    · rename_i z hz
      exact wp_row (Rowv (s := Instr.alloc e true (.tuple #[])) (by unfold execOp; simp only [hop]) (alloc_ok g hd hz h))
    · cases h
  | box e x =>
    rw [hop] at hx
    have hx : fitO nt x = true := by simpa [opnds] using hx
    simp only [evOp0, hop] at h
    exact wp_row (Rowv (s := Instr.box e (a.eval x)) (by unfold execOp; simp only [hop]) (box_ok g hd hx h))
  | build t parts =>
    rw [hop] at hx
    have hx : parts.toList.all (fun q => fitO nt q.2) = true := by simpa [opnds] using hx
    simp only [evOp0, hop] at h
    split at h
    · rename_i fs zs hu hz
      exact wp_row (Rowv (s := Instr.build t (parts.map fun (i, x) => (i, a.eval x))) (by unfold execOp; simp only [hop]) (same_w (build_ok g hd hx hu hz h)))
    · cases h
  | buildSlice t n parts =>
    rw [hop] at hx
    have hx : parts.toList.all (fun q => fitO nt q.2) = true := by simpa [opnds] using hx
    simp only [evOp0, hop] at h
    split at h
    · rename_i e hu
      split at h
      · rename_i z hz
        exact wp_row (Rowv (s := Instr.buildSlice t n (parts.map fun (i, x) => (i, a.eval x))) (by unfold execOp; simp only [hop]) (buildSlice_ok g hd hx hu hz h))
      · cases h
    · cases h
  | store t x y =>
    rw [hop] at hx
    simp only [opnds, List.all_cons, List.all_nil, Bool.and_true, Bool.and_eq_true] at hx
    simp only [evOp0, hop] at h
    obtain ⟨w', L', h1, h2, h3⟩ := storeE_ok g hx.1 hx.2 h
    exact wp_skip' (w' := w') (by unfold execOp; simp only [hop]; exact run_u h1) (landU h2 hd undef h3)
  | makeSlice t l c =>
    rw [hop] at hx
    simp only [opnds, List.all_cons, List.all_nil, Bool.and_true, Bool.and_eq_true] at hx
    simp only [evOp0, hop] at h
    split at h
    · rename_i e kl lv kc cv hu hl hc
      split at h
      · rename_i z hz
        have e1 := flatO_ok g hx.1 hl
        have e2 := flatO_ok g hx.2 hc
        exact wp_row (Rowv (s := Instr.makeSlice t (a.eval l) (a.eval c)) (by unfold execOp; simp only [hop]) (by rw [e1, e2]; exact makeSlice_ok g hd hu hz h))
      · cases h
    · cases h
  | call c =>
    rw [hop] at hx
    simp only [opnds, List.all_append, Bool.and_eq_true] at hx
    obtain ⟨ha, hc⟩ := hx
    simp only [evOp0, hop] at h
    cases hsz : (c.argTypes.size != c.args.size) with
    | true => rw [hsz] at h; cases h
    | false =>
      rw [hsz, cond_false] at h
      have hsz : c.argTypes.size = c.args.size := by simpa using hsz
      cases hcal : c.callee with
      | invoke => rw [hcal] at h; cases h
      | builtin b =>
        rw [hcal] at h
        have hex : execOp a.eval o = builtin b c.argTypes o.type (c.args.map fun | .const _ => true | _ => false) (c.args.map a.eval) := by
          unfold execOp
          simp only [hop, resolve, hcal]
          rfl
        cases b with
        | len => rw [hop] at hst; exact absurd (call_still hcal) hst
        | append =>
          simp only at h
          split at h
          · rename_i x y t t' hax hat
            have eax : c.args = #[x, y] := Array.ext' hax
            have eat : c.argTypes = #[t, t'] := Array.ext' hat
            rw [hax] at ha
            simp only [List.all_cons, List.all_nil, Bool.and_true, Bool.and_eq_true] at ha
            cases htt : (t == t') with
            | false =>
              rw [htt, cond_false] at h
              split at h
              · rename_i kx hux
                have hex' : execOp a.eval o = (do pure (Next.value (← Builtin.append_ #[t, t'] o.type #[a.eval x, a.eval y]))) := by
                  have e1 : c.args.map a.eval = #[a.eval x, a.eval y] := by rw [eax]; simp
                  rw [hex, e1, eat]; rfl
                exact wp_row (Rowv hex' (appendN_ok g hd ha.1 ha.2 hux h))
              · cases h
            | true =>
              rw [htt, cond_true] at h
              have htt : t = t' := by simpa using htt
              subst htt
              have hex' : execOp a.eval o = (do pure (Next.value (← Builtin.append_ #[t, t] o.type #[a.eval x, a.eval y]))) := by
                have e1 : c.args.map a.eval = #[a.eval x, a.eval y] := by rw [eax]; simp
                rw [hex, e1, eat]; rfl
              exact wp_row (Rowv hex' (appendE_ok g hd ha.1 ha.2 h))
          · cases h
        | copy =>
          simp only at h
          split at h
          · rename_i x y t t' hax hat
            have eax : c.args = #[x, y] := Array.ext' hax
            have eat : c.argTypes = #[t, t'] := Array.ext' hat
            rw [hax] at ha
            simp only [List.all_cons, List.all_nil, Bool.and_true, Bool.and_eq_true] at ha
            cases htt : (t == t') with
            | false => rw [htt] at h; cases h
            | true =>
              rw [htt, cond_true] at h
              have htt : t = t' := by simpa using htt
              subst htt
              have hex' : execOp a.eval o = (do pure (Next.value (← Builtin.copy_ #[t, t] o.type #[a.eval x, a.eval y]))) := by
                have e1 : c.args.map a.eval = #[a.eval x, a.eval y] := by rw [eax]; simp
                rw [hex, e1, eat]; rfl
              exact wp_row (Rowv hex' (copyE_ok g hd ha.1 ha.2 h))
          · cases h
        | clear =>
          simp only at h
          split at h
          · rename_i x t hdst hax hat
            have eax : c.args = #[x] := Array.ext' hax
            have eat : c.argTypes = #[t] := Array.ext' hat
            rw [hax] at ha
            simp only [List.all_cons, List.all_nil, Bool.and_true] at ha
            obtain ⟨w', h1, h2⟩ := clearE_ok (tr := o.type) g ha h
            have hex' : execOp a.eval o = (do pure (Next.value (← Builtin.clear_ #[t] o.type #[a.eval x]))) := by
              have e1 : c.args.map a.eval = #[a.eval x] := by rw [eax]; simp
              rw [hex, e1, eat]; rfl
            exact wp_row (Rowv hex' ⟨_, w', h1, by rw [hdst]; exact h2⟩)
          · cases h
        | max =>
          simp only at h
          split at h
          · rename_i vs hvs
            have e := flatOs_ok g ha hvs
            have e2 : c.args.map a.eval = vs.toArray := by apply Array.ext'; rw [Array.toList_map, e]
            obtain ⟨z, h1, h2, h3⟩ := pureV_ok h
            exact wp_row (Rowv (s := Builtin.max_ c.argTypes o.type (c.args.map a.eval)) (by rw [hex]; rfl) ⟨z, w, by rw [e2]; exact h1 w, landV g hd h2 h3⟩)
          · cases h
        | min =>
          simp only at h
          split at h
          · rename_i vs hvs
            have e := flatOs_ok g ha hvs
            have e2 : c.args.map a.eval = vs.toArray := by apply Array.ext'; rw [Array.toList_map, e]
            obtain ⟨z, h1, h2, h3⟩ := pureV_ok h
            exact wp_row (Rowv (s := Builtin.min_ c.argTypes o.type (c.args.map a.eval)) (by rw [hex]; rfl) ⟨z, w, by rw [e2]; exact h1 w, landV g hd h2 h3⟩)
          · cases h
        | _ => cases h
      | value x =>
        rw [hcal] at h hc
        cases x with
        | func f =>
          refine callE_ok (Cs := []) rfl hC hN g hd (fits_zip ha) trivial rfl (fun b hb => by cases hb) h rfl ?_
          rw [argVals_eq (argTys_len hsz)]
          unfold execOp
          simp only [hop, resolve, hcal, Act.eval, Deferred.ofValue]
          simp [invoke]
        | tmp s =>
          have hs : s < nt := by simpa [fitO] using hc
          simp only at h
          obtain ⟨D, T, h, hmT, hvT, _, _, hsD, _, hBs⟩ := look_ok g hs h
          split at h
          · rename_i f caps hT
            obtain ⟨Cs, rfl, rfl⟩ := er_cl_inv hT
            cases hb : (hasOwnL (Cs.map er) || (Cs.map er).any isStT) with
            | true => rw [hb] at h; cases h
            | false =>
              rw [hb, cond_false] at h
              simp only [Bool.or_eq_false_iff, hasOwnL_er] at hb
              have ho := own_nilL Cs hb.1
              have hst : ∀ T ∈ Cs, isSt T = false := fun T hT => by
                have := List.any_eq_false.1 hb.2 (er T) (List.mem_map.2 ⟨T, hT, rfl⟩)
                rw [isSt_er] at this
                simpa using this
              have hcv : ∀ (Cs : List LT), (∀ T ∈ Cs, isSt T = false) → cellsL Cs = Cs.map valOf := by
                intro Cs
                induction Cs with
                | nil => intro _; rfl
                | cons C Cs ih => intro h; rw [cellsL, cells_one (h C List.mem_cons_self), ih fun T hT => h T (List.mem_cons_of_mem _ hT)]; rfl
              have g1 := g.addRo (T := .cl f Cs) (D := D) hmT ho hsD (fun b _ => by simp [ownL]) (fun b hb => hBs b (shr_all _ hb))
              refine callE_ok (Cs := Cs) rfl hC hN g1 hd (fits_zip ha) hmT ho (fun b hb => by simpa [shrL, shr] using hb) h rfl ?_
              rw [argVals_eq (argTys_len hsz), ← hcv Cs hst]
              have ev : a.eval (.tmp s) = .func (.func f) #[] (cellsL Cs).toArray := hvT
              unfold execOp
              simp only [hop, resolve, hcal, ev, Deferred.ofValue]
              simp [invoke]
          · cases h
        | _ => cases h
  | move => rw [hop] at hst; simp [still, quiet, isLoad] at hst
  | assign => rw [hop] at hst; simp [still, quiet, isLoad] at hst
  | pick => rw [hop] at hst; simp [still, quiet, isLoad] at hst
  | load => rw [hop] at hst; simp [still, quiet, isLoad] at hst
  | nilCheck => rw [hop] at hst; simp [still, quiet, isLoad] at hst
  | fieldAddr => rw [hop] at hst; simp [still, quiet, isLoad] at hst
  | indexAddr => rw [hop] at hst; simp [still, quiet, isLoad] at hst
  | slice => rw [hop] at hst; simp [still, quiet, isLoad] at hst
  | extract => rw [hop] at hst; simp [still, quiet, isLoad] at hst
  | binOp => rw [hop] at hst; simp [still, quiet, isLoad] at hst
  | convert => rw [hop] at hst; simp [still, quiet, isLoad] at hst
  | unOp => rw [hop] at hst; simp [still, quiet, isLoad] at hst
  | index => rw [hop] at hst; simp [still, quiet, isLoad] at hst
  | makeFunc => rw [hop] at hst; simp [still, quiet, isLoad] at hst
  | _ => simp [evOp0, hop] at h
end Go.Tree

/- Trees of values: functions that are told within their callers, proved; one operation. -/
namespace Go.Tree
set_option linter.unusedSectionVars false
set_option linter.unusedVariables false
set_option linter.unusedSimpArgs false
variable {w0 : World} {F : Fm} {nt : Nat} {H : List Value} {L : List (AV Value)} {XD : List Nat} {X : List LT} {a : Act} {w : World} {α : Type} {res : α}
variable [Pol]
def resV (tmps : Array Value) (v : ResultVar) : Sem Value :=
  match v with
  | .tmp t => pure (tmps.getD t undef)
  | .cell a t => do loadVar t (← asAddr (tmps.getD a undef))
theorem run_loadVarT {P : Program} {ty : TypeId} {b o : Nat} {T : LT} (hr : w.rangeAt b o (cells T)) (hf : okTy P ty = true ∧ isSt T = isAggT P ty ∧ (cells T).length = P.cellsOf ty ∧ P.cellsOf ty ≠ 0) : (loadVar ty ⟨b, o, none⟩).run P w = .ok (valOf T) w := by
  have := run_loadT hr hf
  simpa [Instr.loadAt, Instr.sureAddr] using this
/-- The results, as they are read. -/
theorem takeRes_ok {P : Program} : ∀ (l : List ResultVar) {XD : List Nat} {X : List LT} {L : List (AV Value)} (g : G P w0 F nt H L XD X a w) {K : List Nat → List TV → Env → Option α}, takeRes P nt XD (L.map erA) l K = some res →
    ∃ D Ts L', K D (Ts.map er) (L'.map erA) = some res ∧ G P w0 F nt H L' D (X ++ Ts) a w ∧ (l.mapM (resV a.tmps)).run P w = .ok (Ts.map valOf) w
  | [], XD, X, L, g, K, h => ⟨XD, [], L, h, by simpa using g, rfl⟩
  | .tmp t :: l, XD, X, L, g, K, h => by
    simp only [takeRes] at h
    cases hb : (!decide (t < nt) || XD.any (rootOf (L.map erA) (.tmp t))) with
    | true => rw [hb] at h; cases h
    | false =>
      rw [hb] at h
      simp only [Bool.or_eq_false_iff, Bool.not_eq_false', decide_eq_true_eq] at hb
      rw [cond_false] at h
      obtain ⟨D, T, L1, h, g1, hv⟩ := take_ok g hb.1 (rootOf_spec rfl hb.2) h
      obtain ⟨D2, Ts, L2, h, g2, hvs⟩ := takeRes_ok l g1 h
      refine ⟨D2, T :: Ts, L2, h, by simpa using g2, ?_⟩
      rw [List.mapM_cons]
      simp only [Sem.run_bind, resV, Sem.run_pure, Result.andThen_ok, hvs, List.map_cons, hv]
  | .cell t ty :: l, XD, X, L, g, K, h => by
    simp only [takeRes] at h
    cases hb : (!decide (t < nt) || XD.contains t) with
    | true => rw [hb] at h; cases h
    | false =>
      rw [hb] at h
      simp only [Bool.or_eq_false_iff, Bool.not_eq_false', decide_eq_true_eq] at hb
      obtain ⟨hlt, hX⟩ := hb
      rw [cond_false, slot_er] at h
      split at h
      · rename_i deps hh u hs
        obtain ⟨T, e, e2⟩ := erA_val hs
        obtain ⟨hd, U, rfl, rfl⟩ := er_pt_inv e2.symm
        cases hf : fitsTy P ty (er U) with
        | false => rw [hf] at h; cases h
        | true =>
          rw [hf, cond_true] at h
          have hm := g.mem t
          have hso := g.slots t hlt
          rw [e] at hm hso
          have hm : Mem w (.pt false hd U) := hm
          have hso : a.tmps.getD t undef = hd := hso
          have g1 := take_core (p := []) (u' := .pt false hd U) (T' := deaden (.pt false hd U)) g e (by simpa using hX) (Vk.refl _) hm trivial (Vk.refl _) hm rfl (by simp [Flt]) rfl
          have hsl : t < L.length := Nat.lt_of_lt_of_le hlt g.len
          have g2 : G P w0 F nt H (putS L t .un) (XD ++ deps) (X ++ [.pt false hd U]) a w := g1.drop (by simp [putS]) (fun i => by
            rw [putS, slot_set, slot_set, slot_map L _ (killS_un t), slot_map L _ (killC_un t [])]
            by_cases c : t = i
            · subst c; simp [hsl]
            · simp only [c, false_and, if_false]
              exact killS_killC t _)
          have hmX := g2.memX
          have g3 : G P w0 F nt H (putS L t .un) (XD ++ deps) (X ++ [U]) a w := g2.swap (memL_iff.2 fun x hx => by
              rcases List.mem_append.1 hx with hx | hx
              · exact memL_iff.1 hmX x (List.mem_append.2 (.inl hx))
              · rw [List.mem_singleton.1 hx]; exact hm.2) (by
              have := g2.dj.xn
              simp only [ownL_append, ownL, own, List.append_nil, Bool.false_eq_true, if_false] at this ⊢
              obtain ⟨n1, n2, n3⟩ := List.nodup_append.1 this
              exact List.nodup_append.2 ⟨n1, (List.nodup_append.1 n2).2.1, fun x hx y hy => n3 x hx y (List.mem_append.2 (.inr hy))⟩) (fun b hb => by
              simp only [ownL_append, ownL, own, List.append_nil, Bool.false_eq_true, if_false, List.mem_append] at hb ⊢
              rcases hb with hb | hb
              · exact .inl hb
              · exact .inr (.inr hb)) (fun b hb => by
              simp only [shrL_append, shrL, shr, List.append_nil, Bool.false_eq_true, if_false, List.mem_append] at hb ⊢
              exact hb)
          rw [show putS (L.map erA) t .un = (putS L t .un).map erA from putS_er L t .un] at h
          obtain ⟨D2, Ts, L2, h, g4, hvs⟩ := takeRes_ok l g3 h
          refine ⟨D2, U :: Ts, L2, h, by simpa using g4, ?_⟩
          obtain ⟨b, o, rfl, hlt', hrange, _⟩ := hm.1
          rw [List.mapM_cons]
          simp only [Sem.run_bind, resV, hso, run_loadVarT hrange (fitsTy_spec hf), Result.andThen_ok, Sem.run_pure, hvs, List.map_cons, asAddr]
      · cases h
theorem results_eq (fn : Func) (tmps : Array Value) : results fn tmps = (do let vs ← fn.results.mapM (resV tmps); pure (if h : vs.size = 1 then vs[0] else .tuple vs)) := by
  unfold results
  congr 1
theorem results_ok {P : Program} {fn : Func} {Rs : List LT} (h1 : (fn.results.toList.mapM (resV a.tmps)).run P w = .ok (Rs.map valOf) w) : (results fn a.tmps).run P w = .ok (retV Rs) w := by
  have hr : (if h : (Rs.map valOf).toArray.size = 1 then (Rs.map valOf).toArray[0] else Value.tuple (Rs.map valOf).toArray) = retV Rs := by
    cases Rs with
    | nil => rfl
    | cons T Ts =>
      cases Ts with
      | nil => rfl
      | cons U Us => simp [retV]
  have h2 : (fn.results.mapM (resV a.tmps)).run P w = .ok (Rs.map valOf).toArray w := by
    rw [Array.mapM_eq_mapM_toList]
    simp [h1]
  rw [results_eq, Sem.run_bind, h2]
  simp only [Result.andThen_ok, Sem.run_pure]
  rw [hr]
section
variable {P : Program} {m : Nat}
theorem shA_er (m : Nat) (v : AV Value) : shA m (erA v) = erA (shA m v) := by cases v <;> rfl
theorem unA_er (m : Nat) (v : AV Value) : unA m (erA v) = erA (unA m v) := by
  cases v with
  | un => rfl
  | val d t => simp only [erA, unA]; cases d.all (Nat.ble m) <;> rfl
  | tu d t => simp only [erA, unA]; cases d.all (Nat.ble m) <;> rfl
  | ref r p s ty sn => simp only [erA, unA]; cases Nat.ble m r <;> rfl
  | adr r p => simp only [erA, unA]; cases Nat.ble m r <;> rfl
theorem slot_drop {η : Type} (L : List (AV η)) (m i : Nat) : slot (L.drop m) i = slot L (m + i) := by
  simp only [slot, List.getD_eq_getElem?_getD, List.getElem?_drop]
theorem shA_val {v : AV Value} {d : List Nat} {t : LT} (h : shA m v = .val d t) : ∃ d', v = .val d' t := by
  cases v <;> simp only [shA] at h <;> first | (cases h; done) | skip
  cases h; exact ⟨_, rfl⟩
theorem unA_val {v : AV Value} {d : List Nat} {t : LT} (h : unA m v = .val d t) : ∃ d', v = .val d' t := by
  cases v with
  | un => cases h
  | val d' t' =>
    simp only [unA] at h
    cases hc : d'.all (Nat.ble m) with
    | true => rw [hc, cond_true] at h; cases h; exact ⟨_, rfl⟩
    | false => rw [hc] at h; cases h
  | tu d' t' => simp only [unA] at h; cases hc : d'.all (Nat.ble m) <;> rw [hc] at h <;> cases h
  | ref r p s ty sn => simp only [unA] at h; cases hc : Nat.ble m r <;> rw [hc] at h <;> cases h
  | adr r p => simp only [unA] at h; cases hc : Nat.ble m r <;> rw [hc] at h <;> cases h
theorem SlotOk.sh {L L' : List (AV Value)} (hL : ∀ i, slot L' (i + m) = shA m (slot L i)) {v : Value} {s : AV Value} (h : SlotOk P L v s) : SlotOk P L' v (shA m s) := by
  cases s with
  | un => trivial
  | val d t => exact h
  | tu d t => exact h
  | ref r p s ty sn =>
    intro d t ht
    rw [hL] at ht
    obtain ⟨d', hd⟩ := shA_val ht
    exact h d' t hd
  | adr r p =>
    intro d t ht
    rw [hL] at ht
    obtain ⟨d', hd⟩ := shA_val ht
    exact h d' t hd
theorem SlotOk.unsh {L L' : List (AV Value)} (hL : ∀ i, slot L' i = unA m (slot L (m + i))) {v : Value} {s : AV Value} (h : SlotOk P L v s) : SlotOk P L' v (unA m s) := by
  cases s with
  | un => trivial
  | val d t => simp only [unA]; cases d.all (Nat.ble m) <;> first | trivial | exact h
  | tu d t => simp only [unA]; cases d.all (Nat.ble m) <;> first | trivial | exact h
  | ref r p s ty sn =>
    simp only [unA]
    cases hc : Nat.ble m r with
    | false => trivial
    | true =>
      have hm := Nat.le_of_ble_eq_true hc
      intro d t ht
      rw [hL] at ht
      obtain ⟨d', hd⟩ := unA_val ht
      rw [show m + (r - m) = r by omega] at hd
      exact h d' t hd
  | adr r p =>
    simp only [unA]
    cases hc : Nat.ble m r with
    | false => trivial
    | true =>
      have hm := Nat.le_of_ble_eq_true hc
      intro d t ht
      rw [hL] at ht
      obtain ⟨d', hd⟩ := unA_val ht
      rw [show m + (r - m) = r by omega] at hd
      exact h d' t hd
theorem unA_own {v : AV Value} {b : Nat} (h : b ∈ ownA (unA m v)) : b ∈ ownA v := by
  cases v with
  | un => exact h
  | val d t => simp only [unA] at h; cases hc : d.all (Nat.ble m) <;> rw [hc] at h <;> first | exact h | cases h
  | tu d t => simp only [unA] at h; cases hc : d.all (Nat.ble m) <;> rw [hc] at h <;> first | exact h | cases h
  | ref r p s ty sn => simp only [unA] at h; cases hc : Nat.ble m r <;> rw [hc] at h <;> cases h
  | adr r p => simp only [unA] at h; cases hc : Nat.ble m r <;> rw [hc] at h <;> cases h
theorem unA_nd {v : AV Value} (h : (ownA v).Nodup) : (ownA (unA m v)).Nodup := by
  cases v with
  | un => exact h
  | val d t => simp only [unA]; cases d.all (Nat.ble m) <;> first | exact h | exact List.nodup_nil
  | tu d t => simp only [unA]; cases d.all (Nat.ble m) <;> first | exact h | exact List.nodup_nil
  | ref r p s ty sn => simp only [unA]; cases Nat.ble m r <;> exact List.nodup_nil
  | adr r p => simp only [unA]; cases Nat.ble m r <;> exact List.nodup_nil
theorem unA_mem {v : AV Value} (h : MemA w v) : MemA w (unA m v) := by
  cases v with
  | un => exact h
  | val d t => simp only [unA]; cases d.all (Nat.ble m) <;> first | exact h | trivial
  | tu d t => simp only [unA]; cases d.all (Nat.ble m) <;> first | exact h | trivial
  | ref r p s ty sn => simp only [unA]; cases Nat.ble m r <;> trivial
  | adr r p => simp only [unA]; cases Nat.ble m r <;> trivial
theorem unA_shr {v : AV Value} {b : Nat} (h : b ∈ shrA (unA m v)) : b ∈ shrA v ∧ ∀ j, m + j ∈ depsA v → j ∈ depsA (unA m v) := by
  have key : ∀ {d : List Nat} {j : Nat}, m + j ∈ d → j ∈ d.map (· - m) := fun {d j} hj => List.mem_map.2 ⟨m + j, hj, by omega⟩
  cases v with
  | un => cases h
  | val d t => simp only [unA] at h ⊢; cases hc : d.all (Nat.ble m) <;> rw [hc] at h <;> first | exact ⟨h, fun j hj => key hj⟩ | cases h
  | tu d t => simp only [unA] at h ⊢; cases hc : d.all (Nat.ble m) <;> rw [hc] at h <;> first | exact ⟨h, fun j hj => key hj⟩ | cases h
  | ref r p s ty sn => simp only [unA] at h; cases hc : Nat.ble m r <;> rw [hc] at h <;> cases h
  | adr r p => simp only [unA] at h; cases hc : Nat.ble m r <;> rw [hc] at h <;> cases h
theorem shA_own (v : AV Value) : ownA (shA m v) = ownA v := by cases v <;> rfl
theorem shA_shr (v : AV Value) : shrA (shA m v) = shrA v := by cases v <;> rfl
theorem shA_deps {v : AV Value} {j : Nat} (h : j ∈ depsA v) : j + m ∈ depsA (shA m v) := by
  cases v with
  | val d t => exact List.mem_map.2 ⟨j, h, rfl⟩
  | tu d t => exact List.mem_map.2 ⟨j, h, rfl⟩
  | _ => cases h
theorem shA_mem {v : AV Value} (h : MemA w v) : MemA w (shA m v) := by cases v <;> exact h
/-- An argument's slot. -/
structure ArgOk (P : Program) (w0 : World) (F : Fm) (m : Nat) (L : List (AV Value)) (a : Act) (w : World) (x : Operand) (v : AV Value) : Prop where
  own : ownA v = []
  mem : MemA w v
  deps : ∀ j b, b ∈ shrA v → b ∈ ownA (slot L j) → j + m ∈ depsA v
  bs : ∀ b, b ∈ shrA v → Bs F w0 b
  ok : ∀ L', (∀ i, slot L' (i + m) = shA m (slot L i)) → SlotOk P L' (a.eval x) v
theorem argA_ok (g : G P w0 F nt H L [] [] a w) {ty : TypeId} {x : Operand} (hx : fitO nt x = true) {v : AV Unit} (h : argA P m (L.map erA) ty x = some v) : ∃ v', erA v' = v ∧ ArgOk P w0 F m L a w x v' := by
  cases x with
  | tmp s =>
    have hs : s < nt := by simpa [fitO] using hx
    have hso := g.slots s hs
    simp only [argA] at h
    rw [slot_er] at h
    split at h
    · rename_i deps t ht
      obtain ⟨T, e, rfl⟩ := erA_val ht
      rw [e] at hso
      split at h
      · cases h
        refine ⟨.ref (s + m) [] none ty (isStT (er T)), rfl, rfl, trivial, (fun _ _ hb => by cases hb), (fun _ hb => by cases hb), fun L' hL d t ht => ?_⟩
        rw [hL, e] at ht
        obtain ⟨d', hd⟩ := shA_val ht
        cases hd
        refine ⟨trivial, hso, fun hsn => ?_⟩
        cases T with
        | st xs => rw [er_st] at hsn; cases hsn
        | _ => rfl
      · rename_i ho
        rw [hasOwn_er] at ho
        have ho := own_nil T (by simpa using ho)
        cases h
        have hm := g.mem s
        rw [e] at hm
        refine ⟨.val (deps.map (· + m)) T, rfl, ho, hm, fun j b hb hj => ?_, (fun b hb => g.sees s b (by rw [e]; exact hb)), fun L' hL => hso⟩
        have := g.dj.sh s j b (by rw [e]; exact hb) hj
        rw [e] at this
        exact List.mem_map.2 ⟨j, this, rfl⟩
    · rename_i r p sub ty' sn ht
      have e := erA_ref ht
      rw [e] at hso
      cases h
      exact ⟨.ref (r + m) p sub ty' sn, rfl, rfl, trivial, (fun _ _ hb => by cases hb), (fun _ hb => by cases hb), fun L' hL => SlotOk.sh (s := .ref r p sub ty' sn) hL hso⟩
    · rename_i r p ht
      have e := erA_adr ht
      rw [e] at hso
      cases h
      exact ⟨.adr (r + m) p, rfl, rfl, trivial, (fun _ _ hb => by cases hb), (fun _ hb => by cases hb), fun L' hL => SlotOk.sh (s := .adr r p) hL hso⟩
    · cases h
  | const c =>
    simp only [argA] at h
    split at h
    · rename_i t ht
      split at h
      · cases h
      · rename_i ho
        cases h
        have h0 : lookO P (L.map erA) ty (.const c) (fun D u => some (D, u)) = some ([], t) := by simp [lookO, ht]
        obtain ⟨D, T, e1, hm, hv, _, _, hd, hb⟩ := lookO_ok g hx h0
        cases e1
        rw [hasOwn_er] at ho
        have ho := own_nil T (by simpa using ho)
        exact ⟨.val [] T, rfl, ho, hm, (fun j b hb hj => by have := hd j b hb hj; cases this), fun b h => hb b (shr_all T h), fun L' hL => hv⟩
    · cases h
  | func f => cases h
  | global f => cases h
theorem argsA_ok (g : G P w0 F nt H L [] [] a w) : ∀ (args : List (TypeId × Operand)), args.all (fun q => fitO nt q.2) = true → ∀ {vs : List (AV Unit)}, argsA P m (L.map erA) args = some vs →
    ∃ vs' : List (AV Value), vs'.map erA = vs ∧ vs'.length = args.length ∧ ∀ (j : Nat) v', vs'[j]? = some v' → ∃ q : TypeId × Operand, args[j]? = some q ∧ ArgOk P w0 F m L a w q.2 v'
  | [], _, vs, h => by cases h; exact ⟨[], rfl, rfl, fun j v' h => by simp at h⟩
  | (ty, x) :: rest, hf, vs, h => by
    simp only [List.all_cons, Bool.and_eq_true] at hf
    simp only [argsA] at h
    split at h
    · rename_i v hv
      split at h
      · rename_i vs0 hvs
        cases h
        obtain ⟨v', e1, o1⟩ := argA_ok g hf.1 hv
        obtain ⟨vs', e2, l2, o2⟩ := argsA_ok g rest hf.2 hvs
        refine ⟨v' :: vs', by rw [List.map_cons, e1, e2], by simp [l2], fun j u hu => ?_⟩
        cases j with
        | zero => simp only [List.getElem?_cons_zero, Option.some.injEq] at hu; subst hu; exact ⟨(ty, x), rfl, o1⟩
        | succ j => simp only [List.getElem?_cons_succ] at hu ⊢; exact o2 j u hu
      · cases h
    · cases h
/-- What a caller's slots hold. -/
def vals (nt : Nat) (a : Act) (H : List Value) : List Value := (List.range nt).map (fun i => a.tmps.getD i undef) ++ H
theorem vals_at {i : Nat} {v : Value} (h : (vals nt a H)[i]? = some v) : (i < nt ∧ v = a.tmps.getD i undef) ∨ (nt ≤ i ∧ H[i - nt]? = some v) := by
  unfold vals at h
  rcases Nat.lt_or_ge i nt with c | c
  · rw [List.getElem?_append_left (by simpa using c), List.getElem?_map, List.getElem?_range c] at h
    exact .inl ⟨c, by simpa using h.symm⟩
  · rw [List.getElem?_append_right (by simpa using c)] at h
    exact .inr ⟨c, by simpa using h⟩
theorem vals_lo {i : Nat} (h : i < nt) : (vals nt a H)[i]? = some (a.tmps.getD i undef) := by
  unfold vals
  rw [List.getElem?_append_left (by simpa using h), List.getElem?_map, List.getElem?_range h]; rfl
theorem vals_hi {i : Nat} {v : Value} (h : H[i]? = some v) : (vals nt a H)[nt + i]? = some v := by
  unfold vals
  rw [List.getElem?_append_right (by simp)]
  simpa using h
/-- A function is entered. -/
theorem enterI_ok (g : G P w0 F nt H L [] [] a w) {args : List (TypeId × Operand)} {vs : List (AV Value)} (hl : vs.length = args.length) (hn : args.length ≤ m) (hv : ∀ (j : Nat) v', vs[j]? = some v' → ∃ q : TypeId × Operand, args[j]? = some q ∧ ArgOk P w0 F m L a w q.2 v') :
    G P w0 F m (vals nt a H) (vs ++ List.replicate (m - vs.length) .un ++ L.map (shA m)) [] [] { tmps := (args.map fun q => a.eval q.2).toArray ++ Array.replicate (m - (args.map fun q => a.eval q.2).toArray.size) undef, defers := [] } w := by
  have s1 : ∀ i, i < vs.length → slot (vs ++ List.replicate (m - vs.length) .un ++ L.map (shA m)) i = slot vs i := fun i hi => by
    simp only [slot, List.getD_eq_getElem?_getD]
    rw [List.getElem?_append_left (by simp; omega), List.getElem?_append_left hi]
  have s2 : ∀ i, vs.length ≤ i → i < m → slot (vs ++ List.replicate (m - vs.length) .un ++ L.map (shA m)) i = .un := fun i hi hm => by
    simp only [slot, List.getD_eq_getElem?_getD]
    rw [List.getElem?_append_left (by simp; omega), List.getElem?_append_right hi, List.getElem?_replicate]
    split <;> rfl
  have s3 : ∀ i, slot (vs ++ List.replicate (m - vs.length) .un ++ L.map (shA m)) (i + m) = shA m (slot L i) := fun i => by
    have e : slot (L.map (shA m)) i = shA m (slot L i) := slot_map L (shA m) rfl i
    rw [← e]
    simp only [slot, List.getD_eq_getElem?_getD]
    rw [List.getElem?_append_right (by simp; omega)]
    congr 2
    simp; omega
  have key : ∀ i, (∃ v' q, i < m ∧ args[i]? = some q ∧ slot (vs ++ List.replicate (m - vs.length) .un ++ L.map (shA m)) i = v' ∧ ArgOk P w0 F m L a w q.2 v') ∨ slot (vs ++ List.replicate (m - vs.length) .un ++ L.map (shA m)) i = .un ∨ (∃ j, i = j + m ∧ slot (vs ++ List.replicate (m - vs.length) .un ++ L.map (shA m)) i = shA m (slot L j)) := fun i => by
    rcases Nat.lt_or_ge i vs.length with h1 | h1
    · left
      obtain ⟨q, h2, h3⟩ := hv i vs[i] (List.getElem?_eq_getElem h1)
      refine ⟨vs[i], q, by omega, h2, ?_, h3⟩
      rw [s1 i h1]
      simp [slot, h1]
    · rcases Nat.lt_or_ge i m with h2 | h2
      · exact .inr (.inl (s2 i h1 h2))
      · exact .inr (.inr ⟨i - m, by omega, by have := s3 (i - m); rwa [show i - m + m = i by omega] at this⟩)
  generalize hE : vs ++ List.replicate (m - vs.length) .un ++ L.map (shA m) = E at s1 s2 s3 key
  have hown : ∀ i b, b ∈ ownA (slot E i) → ∃ j, i = j + m ∧ slot E i = shA m (slot L j) ∧ b ∈ ownA (slot L j) := fun i b hb => by
    rcases key i with ⟨v', q, _, _, h3, h4⟩ | h | ⟨j, h1, h2⟩
    · rw [h3, h4.own] at hb; cases hb
    · rw [h] at hb; cases hb
    · rw [h2, shA_own] at hb; exact ⟨j, h1, h2, hb⟩
  refine ⟨rfl, by simp; omega, by rw [← hE]; simp; omega, fun i hi => ?_, fun j v hj => ?_, fun i => ?_, trivial, ⟨fun i => ?_, fun i j b hi hj => ?_, fun i b hs ho => ?_, fun i j b hs ho => ?_, List.nodup_nil, fun i b hx => (by cases hx), fun i b _ hx => (by cases hx), fun b hx => (by cases hx), fun j b hx => (by cases hx)⟩, fun i b hb => ?_, fun b hb => (by cases hb), g.fr, fun i b hb => ?_, fun b hb => (by cases hb)⟩
  · rcases key i with ⟨v', q, _, h2, h3, h4⟩ | h | ⟨j, h1, _⟩
    · rw [h3]
      have hlt : i < args.length := (List.getElem?_eq_some_iff.1 h2).1
      have he : ((args.map fun q => a.eval q.2).toArray ++ Array.replicate (m - (args.map fun q => a.eval q.2).toArray.size) undef).getD i undef = a.eval q.2 := by
        have h5 := (List.getElem?_eq_some_iff.1 h2).2
        simp [Array.getD_eq_getD_getElem?, Array.getElem?_append, hlt, h5]
      rw [he]
      exact h4.ok E s3
    · rw [h]; trivial
    · omega
  · rw [show m + j = j + m by omega, s3]
    refine SlotOk.sh s3 ?_
    rcases vals_at hj with ⟨h1, rfl⟩ | ⟨h1, h2⟩
    · exact g.slots j h1
    · have := g.hid (j - nt) v h2
      rwa [show nt + (j - nt) = j by omega] at this
  · rcases key i with ⟨v', q, _, _, h3, h4⟩ | h | ⟨j, _, h2⟩
    · rw [h3]; exact h4.mem
    · rw [h]; trivial
    · rw [h2]; exact shA_mem (g.mem j)
  · rcases key i with ⟨v', q, _, _, h3, h4⟩ | h | ⟨j, _, h2⟩
    · rw [h3, h4.own]; exact List.nodup_nil
    · rw [h]; exact List.nodup_nil
    · rw [h2, shA_own]; exact g.dj.nd j
  · obtain ⟨i', rfl, _, h1⟩ := hown i b hi
    obtain ⟨j', rfl, _, h2⟩ := hown j b hj
    rw [g.dj.dj i' j' b h1 h2]
  · obtain ⟨i', rfl, h0, h1⟩ := hown i b ho
    rw [h0, shA_shr] at hs
    exact g.dj.ss i' b hs h1
  · obtain ⟨j', rfl, h0, h1⟩ := hown j b ho
    rcases key i with ⟨v', q, _, _, h3, h4⟩ | h | ⟨i', rfl, h2⟩
    · rw [h3] at hs ⊢; exact h4.deps j' b hs h1
    · rw [h] at hs; cases hs
    · rw [h2] at hs ⊢
      rw [shA_shr] at hs
      exact shA_deps (g.dj.sh i' j' b hs h1)
  · obtain ⟨i', rfl, _, h1⟩ := hown i b hb
    exact g.mine i' b h1
  · rcases key i with ⟨v', q, _, _, h3, h4⟩ | h | ⟨j, _, h2⟩
    · rw [h3] at hb; exact h4.bs b hb
    · rw [h] at hb; cases hb
    · rw [h2, shA_shr] at hb; exact g.sees j b hb
/-- A function is left. -/
theorem exitI_ok (g : G P w0 F nt H L [] [] a w) {E : List (AV Value)} {D : List Nat} {Rs : List LT} {a' : Act} {w' : World} (g' : G P w0 F m (vals nt a H) E D Rs a' w') (hl : E.length = m + L.length) :
    G P w0 F nt H ((E.drop m).map (unA m)) (D.map (· - m)) Rs a w' := by
  have s : ∀ i, slot ((E.drop m).map (unA m)) i = unA m (slot E (m + i)) := fun i => by
    rw [slot_map _ (unA m) rfl, slot_drop]
  refine ⟨g.defers, g.size, by rw [List.length_map, List.length_drop, hl]; have := g.len; omega, fun i hi => ?_, fun j v hj => ?_, fun i => by rw [s]; exact unA_mem (g'.mem _), g'.memX, ⟨fun i => by rw [s]; exact unA_nd (g'.dj.nd _), fun i j b hi hj => ?_, fun i b hs ho => ?_, fun i j b hs ho => ?_, g'.dj.xn, fun i b hx hi => ?_, fun i b hs hx => ?_, g'.dj.xx, fun j b hx hj => ?_⟩, fun i b hb => ?_, g'.mineX, g'.fr, fun i b hb => ?_, g'.seesX⟩
  · rw [s]; exact SlotOk.unsh s (g'.hid i _ (vals_lo hi))
  · rw [s]; exact SlotOk.unsh s (g'.hid _ _ (vals_hi hj))
  · rw [s] at hi hj
    have := g'.dj.dj _ _ b (unA_own hi) (unA_own hj)
    omega
  · rw [s] at hs ho
    exact g'.dj.ss _ b (unA_shr hs).1 (unA_own ho)
  · rw [s] at hs ho ⊢
    exact (unA_shr hs).2 j (g'.dj.sh _ _ b (unA_shr hs).1 (unA_own ho))
  · rw [s] at hi; exact g'.dj.xo _ b hx (unA_own hi)
  · rw [s] at hs; exact g'.dj.xs _ b (unA_shr hs).1 hx
  · rw [s] at hj
    exact List.mem_map.2 ⟨m + j, g'.dj.xd _ b hx (unA_own hj), by omega⟩
  · rw [s] at hb; exact g'.mine _ b (unA_own hb)
  · rw [s] at hb; exact g'.sees _ b (unA_shr hb).1
end
end Go.Tree

/- Trees of values: regions. -/
namespace Go.Tree
set_option linter.unusedSectionVars false
set_option linter.unusedVariables false
set_option linter.unusedSimpArgs false
variable {w0 : World} {F : Fm} {nt : Nat} {H : List Value} {L : List (AV Value)} {XD : List Nat} {X : List LT} {a : Act} {w : World} {α : Type} {res : α}
variable [Pol]
/-- A flat slot depends on nothing. -/
theorem G.undepS {P : Program} (g : G P w0 F nt H L XD X a w) {s : Nat} {d : List Nat} {v : Value} (hs : slot L s = .val d (.fl v)) : G P w0 F nt H (L.set s (.val [] (.fl v))) XD X a w := by
  have hsl : s < L.length := slot_lt (by rw [hs]; simp)
  have e : ∀ i, slot (L.set s (.val [] (.fl v))) i = if s = i then .val [] (.fl v) else slot L i := fun i => by
    rw [slot_set]; simp [hsl]
  have eo : ∀ i, ownA (slot (L.set s (.val [] (.fl v))) i) = ownA (slot L i) := fun i => by
    rw [e]; split
    · rename_i c; rw [← c, hs]; rfl
    · rfl
  have es : ∀ i, shrA (slot (L.set s (.val [] (.fl v))) i) = shrA (slot L i) := fun i => by
    rw [e]; split
    · rename_i c; rw [← c, hs]; rfl
    · rfl
  have ev : ∀ {r : Nat} {d' : List Nat} {t : LT}, slot (L.set s (.val [] (.fl v))) r = .val d' t → ∃ d2, slot L r = .val d2 t := fun {r d' t} h => by
    rw [e] at h
    split at h
    · rename_i c; cases h; exact ⟨d, by rw [← c]; exact hs⟩
    · exact ⟨d', h⟩
  refine ⟨g.defers, g.size, by rw [List.length_set]; exact g.len, fun i hi => ?_, fun j u hj => ?_, fun i => ?_, g.memX, ⟨fun i => by rw [eo]; exact g.dj.nd i, fun i j b h1 h2 => g.dj.dj i j b (by rwa [eo] at h1) (by rwa [eo] at h2), fun i b h1 h2 => g.dj.ss i b (by rwa [es] at h1) (by rwa [eo] at h2), fun i j b h1 h2 => ?_, g.dj.xn, fun i b h1 h2 => g.dj.xo i b h1 (by rwa [eo] at h2), fun i b h1 h2 => g.dj.xs i b (by rwa [es] at h1) h2, g.dj.xx, fun j b h1 h2 => g.dj.xd j b h1 (by rwa [eo] at h2)⟩, fun i b hb => g.mine i b (by rwa [eo] at hb), g.mineX, g.fr, fun i b hb => g.sees i b (by rwa [es] at hb), g.seesX⟩
  · have h := g.slots i hi
    rw [e]
    split
    · rename_i c; rw [← c, hs] at h; rw [← c]; exact h
    · cases ei : slot L i with
      | un => trivial
      | val d t => rw [ei] at h; exact h
      | tu d t => rw [ei] at h; exact h
      | ref r p sb ty sn => rw [ei] at h; exact fun d' t ht => (ev ht).elim fun d2 h2 => h d2 t h2
      | adr r p => rw [ei] at h; exact fun d' t ht => (ev ht).elim fun d2 h2 => h d2 t h2
  · have h := g.hid j u hj
    generalize nt + j = i at h ⊢
    rw [e]
    split
    · rename_i c; rw [← c, hs] at h; exact h
    · cases ei : slot L i with
      | un => trivial
      | val d t => rw [ei] at h; exact h
      | tu d t => rw [ei] at h; exact h
      | ref r p sb ty sn => rw [ei] at h; exact fun d' t ht => (ev ht).elim fun d2 h2 => h d2 t h2
      | adr r p => rw [ei] at h; exact fun d' t ht => (ev ht).elim fun d2 h2 => h d2 t h2
  · have h := g.mem i
    rw [e]
    split
    · rename_i c; rw [← c, hs] at h; exact h
    · exact h
  · rw [es] at h1; rw [eo] at h2
    have := g.dj.sh i j b h1 h2
    rw [e]
    split
    · rename_i c; rw [← c, hs] at h1; cases h1
    · exact this
/-- A guard's answer. -/
theorem guard_ok {P : Program} (g : G P w0 F nt H L XD X a w) {ops : Array Oper} (hfits : ops.toList.all (fitOp nt) = true) {j s : Nat} (hj : (ops[j]?).bind (·.dst) = some s) {d : List Nat} {b : Bool} (hs : slot L s = .val d (.fl (.bool b))) : yielded ops a.tmps j = some b := by
  obtain ⟨o, ho, hd⟩ := Option.bind_eq_some_iff.1 hj
  have hf := List.all_eq_true.1 hfits o (Array.mem_toList_iff.2 (Array.mem_of_getElem? ho))
  simp only [fitOp, Bool.and_eq_true, hd] at hf
  have hlt : s < nt := by simpa [fitD] using hf.1
  have hso := g.slots s hlt
  rw [hs] at hso
  have hlt' : s < a.tmps.size := by rw [g.size]; exact hlt
  have : a.tmps[s]? = some (.bool b) := by
    have h2 : a.tmps.getD s undef = .bool b := hso
    rw [Array.getElem?_eq_getElem hlt']
    simpa [Array.getD, hlt'] using h2
  simp [yielded, hj, this]
theorem guard_no {P : Program} (g : G P w0 F nt H L XD X a w) {ops : Array Oper} (hfits : ops.toList.all (fitOp nt) = true) {j s : Nat} (hj : (ops[j]?).bind (·.dst) = some s) {d : List Nat} (hs : slot L s = .tu d []) : yielded ops a.tmps j = none := by
  obtain ⟨o, ho, hd⟩ := Option.bind_eq_some_iff.1 hj
  have hf := List.all_eq_true.1 hfits o (Array.mem_toList_iff.2 (Array.mem_of_getElem? ho))
  simp only [fitOp, Bool.and_eq_true, hd] at hf
  have hlt : s < nt := by simpa [fitD] using hf.1
  have hso := g.slots s hlt
  rw [hs] at hso
  have hlt' : s < a.tmps.size := by rw [g.size]; exact hlt
  have : a.tmps[s]? = some (.tuple #[]) := by
    have h2 : a.tmps.getD s undef = .tuple #[] := hso
    rw [Array.getElem?_eq_getElem hlt']
    simpa [Array.getD, hlt'] using h2
  simp [yielded, hj, this]
/-- An operation that is not wanted. -/
theorem landSkip {P : Program} {d : Option Tmp} (g : G P w0 F nt H L [] [] a w) (hd : fitD nt d = true) {K : Env → Option α} (h : K (putD (L.map erA) d (.tu [] [])) = some res) : Nxt P w0 F nt H K res (a.put d undef) w :=
  landRef g hd (av := .tu [] []) ⟨rfl, rfl, rfl, fun _ => trivial, fun _ _ => by simp⟩ (fun _ _ _ _ _ => rfl) h
/-- One operation is told rightly. -/
structure EOk (cx : Ctx) (E : EvO α) : Prop where
  ok : ∀ {w0 : World} {F : Fm} {nt : Nat} {H : List Value} {L : List (AV Value)} {a : Act} {w : World} {fn : Func} {o : Oper} {K : Env → Option α} {res : α} {Q : Exit → Act → World → Prop}, G cx.P w0 F nt H L [] [] a w → fitOp nt o = true → E fn o (L.map erA) K = some res → o.wp cx.P a w (Nxt cx.P w0 F nt H K res) Q
  still : ∀ {w0 : World} {F : Fm} {nt : Nat} {H : List Value} {L : List (AV Value)} {a : Act} {w : World} {fn : Func} {o : Oper} {K : Env → Option α} {res : α}, G cx.P w0 F nt H L [] [] a w → still o.op = true → fitOp nt o = true → E fn o (L.map erA) K = some res →
    ∃ v, (∀ w', CalmW o w w' → (execOp a.eval o).run cx.P w' = .ok (.value v) w') ∧ Nxt cx.P w0 F nt H K res (a.put o.dst v) w
/-- One operation of a region. -/
theorem evOne_ok {cx : Ctx} {E : EvO α} (hE : EOk cx E)
    (g : G cx.P w0 F nt H L [] [] a w) {fn : Func} {ops : Array Oper} (hfits : ops.toList.all (fitOp nt) = true) {o : Oper} (ho : o ∈ ops) {K : Env → Option α} (h : evOne E fn ops o (L.map erA) K = some res) :
    (Region.wanted o (yielded ops a.tmps) = true ∧ ∀ Q, o.wp cx.P a w (Nxt cx.P w0 F nt H K res) Q) ∨ (Region.wanted o (yielded ops a.tmps) = false ∧ Nxt cx.P w0 F nt H K res (a.put o.dst undef) w) := by
  have hfit := List.all_eq_true.1 hfits o (Array.mem_toList_iff.2 ho)
  have hd : fitD nt o.dst = true := by simp only [fitOp, Bool.and_eq_true] at hfit; exact hfit.1
  unfold evOne at h
  split at h
  · rename_i hg
    exact .inl ⟨by simp [Region.wanted, hg], fun Q => hE.ok g hfit h⟩
  · rename_i j want hg
    split at h
    · cases h
    · rename_i s hj
      rw [slot_er] at h
      split at h
      · rename_i d b hs
        obtain ⟨T, e, e2⟩ := erA_val hs
        have := er_fl_inv e2.symm
        subst this
        have hy := guard_ok g hfits hj e
        have g1 : G cx.P w0 F nt H (L.set s (.val [] (.fl (.bool b)))) [] [] a w := g.undepS e
        have es : (L.map erA).set s (.val [] (.fl (.bool b))) = (L.set s (.val [] (.fl (.bool b)))).map erA := by rw [List.map_set]; rfl
        have hw : Region.wanted o (yielded ops a.tmps) = (b == want) := by simp [Region.wanted, hg, hy]
        cases b with
        | true =>
          simp only [cond_true] at h
          rw [es] at h
          cases want with
          | true => exact .inl ⟨by rw [hw]; rfl, fun Q => hE.ok g1 hfit h⟩
          | false => exact .inr ⟨by rw [hw]; rfl, landSkip g1 hd h⟩
        | false =>
          simp only [cond_false] at h
          rw [es] at h
          cases want with
          | true => exact .inr ⟨by rw [hw]; rfl, landSkip g1 hd h⟩
          | false => exact .inl ⟨by rw [hw]; rfl, fun Q => hE.ok g1 hfit h⟩
      · rename_i d hs
        obtain ⟨Ts, e, e2⟩ := erA_tu hs
        obtain rfl : Ts = [] := List.map_eq_nil_iff.1 e2.symm
        exact .inr ⟨by simp [Region.wanted, hg, guard_no g hfits hj e], landSkip g hd h⟩
      · cases h
/-- What a still operation of a region yields. -/
def YieldsW (P : Program) (ops : Array Oper) (o : Oper) (v : Value) (a : Act) (w : World) : Prop :=
  (Region.wanted o (yielded ops a.tmps) = true ∧ ∀ w', CalmW o w w' → (execOp a.eval o).run P w' = .ok (.value v) w') ∨ (Region.wanted o (yielded ops a.tmps) = false ∧ v = undef)
/-- One still operation of a region. -/
theorem evOne_still {cx : Ctx} {E : EvO α} (hE : EOk cx E)
    (g : G cx.P w0 F nt H L [] [] a w) {fn : Func} {ops : Array Oper} (hfits : ops.toList.all (fitOp nt) = true) {o : Oper} (ho : o ∈ ops) (hst : still o.op = true) {K : Env → Option α} (h : evOne E fn ops o (L.map erA) K = some res) :
    ∃ v, YieldsW cx.P ops o v a w ∧ Nxt cx.P w0 F nt H K res (a.put o.dst v) w := by
  have hfit := List.all_eq_true.1 hfits o (Array.mem_toList_iff.2 ho)
  have hd : fitD nt o.dst = true := by simp only [fitOp, Bool.and_eq_true] at hfit; exact hfit.1
  have run : ∀ {L' : List (AV Value)}, G cx.P w0 F nt H L' [] [] a w → E fn o (L'.map erA) K = some res → Region.wanted o (yielded ops a.tmps) = true → ∃ v, YieldsW cx.P ops o v a w ∧ Nxt cx.P w0 F nt H K res (a.put o.dst v) w := fun g' h' hw => by
    obtain ⟨v, h1, h2⟩ := hE.still g' hst hfit h'
    exact ⟨v, .inl ⟨hw, h1⟩, h2⟩
  unfold evOne at h
  split at h
  · rename_i hg
    exact run g h (by simp [Region.wanted, hg])
  · rename_i j want hg
    split at h
    · cases h
    · rename_i s hj
      rw [slot_er] at h
      split at h
      · rename_i d b hs
        obtain ⟨T, e, e2⟩ := erA_val hs
        have := er_fl_inv e2.symm
        subst this
        have hy := guard_ok g hfits hj e
        have g1 : G cx.P w0 F nt H (L.set s (.val [] (.fl (.bool b)))) [] [] a w := g.undepS e
        have es : (L.map erA).set s (.val [] (.fl (.bool b))) = (L.set s (.val [] (.fl (.bool b)))).map erA := by rw [List.map_set]; rfl
        have hw : Region.wanted o (yielded ops a.tmps) = (b == want) := by simp [Region.wanted, hg, hy]
        cases b with
        | true =>
          simp only [cond_true] at h
          rw [es] at h
          cases want with
          | true => exact run g1 h (by rw [hw]; rfl)
          | false => exact ⟨undef, .inr ⟨by rw [hw]; rfl, rfl⟩, landSkip g1 hd h⟩
        | false =>
          simp only [cond_false] at h
          rw [es] at h
          cases want with
          | true => exact ⟨undef, .inr ⟨by rw [hw]; rfl, rfl⟩, landSkip g1 hd h⟩
          | false => exact run g1 h (by rw [hw]; rfl)
      · rename_i d hs
        obtain ⟨Ts, e, e2⟩ := erA_tu hs
        obtain rfl : Ts = [] := List.map_eq_nil_iff.1 e2.symm
        exact ⟨undef, .inr ⟨by simp [Region.wanted, hg, guard_no g hfits hj e], rfl⟩, landSkip g hd h⟩
      · cases h
/-- A region in its own order. -/
theorem evList_ok {cx : Ctx} {E : EvO α} (hE : EOk cx E)
    {fn : Func} {ops : Array Oper} (hfits : ops.toList.all (fitOp nt) = true) {K : Env → Option α} {Q : Exit → Act → World → Prop} (hQ : ∀ a w, Nxt cx.P w0 F nt H K res a w → Q .normal a w) :
    ∀ (l : List Oper), (∀ o ∈ l, o ∈ ops) → ∀ {L : List (AV Value)} {a : Act} {w : World}, G cx.P w0 F nt H L [] [] a w → evList E fn ops l (L.map erA) K = some res → wpList cx.P ops Q l a w
  | [], _, L, a, w, g, h => hQ a w ⟨L, g, h⟩
  | o :: rest, hl, L, a, w, g, h => by
    simp only [evList] at h
    simp only [wpList]
    rcases evOne_ok hE g hfits (hl o List.mem_cons_self) h with ⟨hw, h1⟩ | ⟨hw, L', g', h1⟩
    · rw [if_pos hw]
      exact .inl (Oper.wp_mono (fun a' w' ⟨L', g', h'⟩ => evList_ok hE hfits hQ rest (fun o' ho' => hl o' (List.mem_cons_of_mem _ ho')) g' h') (h1 Q))
    · rw [if_neg (by rw [hw]; simp)]
      exact evList_ok hE hfits hQ rest (fun o' ho' => hl o' (List.mem_cons_of_mem _ ho')) g' h1
/-- A draw leaves all as it is. -/
theorem G.draw {P : Program} (g : G P w0 F nt H L [] [] a w) : G P w0 F nt H L [] [] a { w with drawn := w.drawn + 1 } :=
  g.flight (X' := []) trivial List.nodup_nil (fun b hb => by cases hb) (fun b hb => by cases hb) (fun b hb => by cases hb) (fun _ _ _ => rfl) (Nat.le_refl _) rfl rfl rfl
end Go.Tree

/- Trees of values: operations that leave the blocks that are there as they are, whatever their operands. -/
namespace Go.Tree
set_option linter.unusedSectionVars false
set_option linter.unusedVariables false
set_option linter.unusedSimpArgs false
variable {α β : Type}
variable [Pol]
def Keeps (s : Sem α) : Prop := ∀ (P : Program) (w : World) (v : α) (w' : World), s.run P w = .ok v w' → Ext w w'
theorem Keeps.pure (v : α) : Keeps (Pure.pure v : Sem α) := fun P w u w' h => by
  rw [Sem.run_pure] at h
  cases h
  exact Ext.refl w
theorem Keeps.bind {s : Sem α} {f : α → Sem β} (hs : Keeps s) (hf : ∀ v, Keeps (f v)) : Keeps (s >>= f) := fun P w u w' h => by
  rw [Sem.run_bind] at h
  cases e : s.run P w with
  | ok v w1 =>
    rw [e] at h
    exact (hs P w v w1 e).trans (hf v P w1 u w' h)
  | halt x w1 => rw [e] at h; cases h
theorem Keeps.program : Keeps (Go.program) := fun P w v w' h => by
  simp only [run_program] at h
  cases h
  exact Ext.refl w
theorem Keeps.load (a : Addr) : Keeps (Go.load a) := fun P w v w' h => by
  unfold Go.load at h
  simp only [Sem.run] at h
  split at h
  · cases h; exact Ext.refl w
  · split at h
    · cases h; exact Ext.refl w
    · cases h
theorem Keeps.stuck (m : String) : Keeps (Go.stuck m : Sem α) := fun P w v w' h => by cases h
theorem Keeps.unsupported (u : Unsupported) : Keeps (Go.unsupported u : Sem α) := fun P w v w' h => by cases h
theorem Keeps.newObj (o : Obj) : Keeps (Go.newObj o) := fun P w v w' h => by
  rw [run_newObj] at h
  cases h
  refine ⟨by simp, fun k hk => ?_⟩
  simp [Array.getElem?_push, Nat.ne_of_lt hk]
theorem Keeps.choose (q : Question) : Keeps (Go.choose q) := fun P w v w' h => by
  unfold Go.choose at h
  simp only [Sem.run] at h
  split at h
  · cases h; exact Ext.refl w
  · cases h; exact ⟨Nat.le_refl _, fun _ _ => rfl⟩
theorem Keeps.shape (r : Nat) : Keeps (Go.shape r) := fun P w v w' h => by
  unfold Go.shape at h
  simp only [Sem.run] at h
  cases h
  exact Ext.refl w
theorem Keeps.getObj (r : Nat) : Keeps (Go.getObj r) := fun P w v w' h => by
  unfold Go.getObj at h
  simp only [Sem.run] at h
  split at h
  · cases h
  · cases h; exact Ext.refl w
  · cases h
theorem Keeps.goPanic (v : Value) : Keeps (Go.goPanic v : Sem α) := fun P w u w' h => by cases h
theorem Keeps.typeInfo (t : TypeId) : Keeps (Go.typeInfo t) := by
  unfold Go.typeInfo
  refine Keeps.bind .program fun p => ?_
  split
  · exact .pure _
  · exact .stuck _
theorem Keeps.underlying (t : TypeId) : Keeps (Go.underlying t) := by
  unfold Go.underlying
  refine Keeps.bind .program fun p => ?_
  split
  · exact .pure _
  · exact .stuck _
theorem Keeps.sizeOf (t : TypeId) : Keeps (Go.sizeOf t) := Keeps.bind (.typeInfo t) fun _ => .pure _
theorem Keeps.zeroValue (t : TypeId) : Keeps (Go.zeroValue t) := by
  unfold Go.zeroValue
  refine Keeps.bind (.typeInfo t) fun p => ?_
  split
  · exact .pure _
  · exact .unsupported _
theorem Keeps.isAgg (t : TypeId) : Keeps (Go.isAgg t) := by
  unfold Go.isAgg
  refine Keeps.bind (.underlying t) fun p => ?_
  split <;> exact .pure _
theorem Keeps.loadCellsFrom (a : Addr) : ∀ (n i : Nat) (acc : Array Value), Keeps (Go.loadCellsFrom a i n acc)
  | 0, i, acc => by unfold Go.loadCellsFrom; exact .pure _
  | n + 1, i, acc => by unfold Go.loadCellsFrom; exact Keeps.bind (.load _) fun v => Keeps.loadCellsFrom a n _ _
theorem Keeps.loadVar (t : TypeId) (a : Addr) : Keeps (Go.loadVar t a) := by
  unfold Go.loadVar
  refine Keeps.bind (.isAgg t) fun b => ?_
  split
  · exact Keeps.bind (.sizeOf t) fun n => Keeps.bind (.loadCellsFrom a _ _ _) fun cs => .pure _
  · exact .load a
theorem Keeps.sureAddr (v : Value) : Keeps (Instr.sureAddr v) := by
  unfold Instr.sureAddr
  split
  · exact .pure _
  · exact .stuck _
theorem Keeps.loadAt (t : TypeId) (v : Value) : Keeps (Instr.loadAt t v) := Keeps.bind (.sureAddr v) fun a => .loadVar t a
theorem Keeps.newRow (e : TypeId) (cs : Array Value) : Keeps (Go.newRow e cs) := Keeps.bind (.newObj _) fun _ => .pure _
theorem Keeps.elemOf (t : TypeId) : Keeps (Go.elemOf t) := by
  unfold Go.elemOf
  refine Keeps.bind (.underlying t) fun d => ?_
  split
  · exact .pure _
  · exact .stuck _
theorem Keeps.runtimePanic (e : RuntimeError) : Keeps (Go.runtimePanic e : Sem α) := by
  unfold Go.runtimePanic
  refine Keeps.bind .program fun p => ?_
  dsimp only
  split
  · exact .goPanic _
  · exact .goPanic _
  · exact .goPanic _
  · exact .goPanic _
  · exact Keeps.bind (.elemOf _) fun _ => Keeps.bind (.newRow _ _) fun _ => .goPanic _
  · exact Keeps.bind (.elemOf _) fun _ => Keeps.bind (.newRow _ _) fun _ => .goPanic _
  · exact .goPanic _
theorem Keeps.boundsPanic (k : IntKind) (x y : Int) (c : BoundsCode) : Keeps (Go.boundsPanic k x y c : Sem α) := by
  unfold Go.boundsPanic
  dsimp only
  split
  · exact Keeps.bind (Keeps.bind (.choose _) fun _ => .pure _) fun _ => .runtimePanic _
  · exact Keeps.bind (.pure _) fun _ => .runtimePanic _
theorem Keeps.asIntOf (v : Value) : Keeps (Go.asIntOf v) := by
  unfold Go.asIntOf
  split
  · exact .pure _
  · exact .unsupported _
  · exact .stuck _
theorem Keeps.indexAt (t : TypeId) (x i : Value) : Keeps (Instr.indexAt t x i) := by
  unfold Instr.indexAt
  refine Keeps.bind (.asIntOf i) fun ki => ?_
  refine Keeps.bind (.underlying t) fun d => ?_
  have tail : ∀ q : Option Addr × Nat × TypeId, Keeps (do
      let tiny := q.2.1 ≤ 1 && (match ← Go.underlying t with | .array .. => true | _ => false)
      match q.1 with
      | some a =>
        if 0 ≤ ki.2 ∧ ki.2 < q.2.1 then Pure.pure (Value.pointer (some (a.add (ki.2.toNat * (← Go.sizeOf q.2.2)))))
        else if tiny then Go.unsupported (.noEntry "op/indexAddr.an index out of range at an array of length 0 or 1 (ledger 616)")
        else Go.boundsPanic ki.1 ki.2 q.2.1 .index
      | none => Go.boundsPanic ki.1 ki.2 0 .index) := fun q => by
    refine Keeps.bind (.underlying t) fun d => ?_
    dsimp only
    split
    · split
      · exact Keeps.bind (.sizeOf _) fun _ => .pure _
      · split <;> (split <;> first | exact .unsupported _ | exact Keeps.boundsPanic _ _ _ _)
    · exact Keeps.boundsPanic _ _ _ _
  dsimp only
  split
  · rename_i n e
    exact Keeps.bind (.sureAddr _) fun a => tail (some a, n, e)
  · rename_i e b n c
    exact tail (b, n, e)
  · exact Keeps.bind (.stuck _) fun q => tail q
theorem Keeps.len (ts : Array TypeId) (t : TypeId) (args : Array Value) : Keeps (Builtin.len_ ts t args) := by
  unfold Builtin.len_
  split
  · refine Keeps.bind (.underlying _) fun d => ?_
    split
    · exact .pure _
    · exact .pure _
    · refine Keeps.bind (.underlying _) fun d => ?_
      split
      · exact .pure _
      · exact .stuck _
    · exact .pure _
    · exact .pure _
    · exact .pure _
    · refine Keeps.bind (.getObj _) fun d => ?_
      split
      · exact .pure _
      · exact .stuck _
    · refine Keeps.bind (.getObj _) fun d => ?_
      split
      · exact .pure _
      · exact .stuck _
    · exact .stuck _
  · exact .stuck _
theorem Keeps.alloc (e : TypeId) (v : Value) : Keeps (Instr.alloc e true v) := by
  unfold Instr.alloc
  refine Keeps.bind (.zeroValue e) fun z => ?_
  exact Keeps.bind (.newRow _ _) fun _ => .pure _
theorem Keeps.box (e : TypeId) (v : Value) : Keeps (Instr.box e v) := Keeps.bind (.newRow _ _) fun _ => .pure _
theorem Keeps.mapM {γ : Type} (f : γ → Sem β) (hf : ∀ x, Keeps (f x)) : ∀ l : List γ, Keeps (l.mapM f)
  | [] => by rw [List.mapM_nil]; exact .pure _
  | x :: l => by
    rw [List.mapM_cons]
    exact Keeps.bind (hf x) fun _ => Keeps.bind (Keeps.mapM f hf l) fun _ => .pure _
theorem Keeps.map {f : α → β} {s : Sem α} (hs : Keeps s) : Keeps (f <$> s) := by
  rw [← bind_pure_comp]
  exact Keeps.bind hs fun _ => .pure _
theorem Keeps.mapA {γ : Type} (f : γ → Sem β) (hf : ∀ x, Keeps (f x)) (l : Array γ) : Keeps (l.mapM f) := by
  rw [Array.mapM_eq_mapM_toList]
  exact Keeps.map (Keeps.mapM f hf _)
theorem Keeps.build (t : TypeId) (parts : Array (Nat × Value)) : Keeps (Instr.build t parts) := by
  unfold Instr.build
  refine Keeps.bind (.zeroValue t) fun z => ?_
  refine Keeps.bind (.underlying t) fun d => ?_
  split
  · refine Keeps.bind (Keeps.mapA _ (fun f => Keeps.bind (.sizeOf _) fun _ => .pure _) _) fun pl => ?_
    split
    · exact .pure _
    · exact .stuck _
  · refine Keeps.bind (.sizeOf _) fun n => ?_
    split
    · exact .pure _
    · exact .stuck _
  · exact .stuck _
theorem Keeps.buildSlice (t : TypeId) (n : Nat) (parts : Array (Nat × Value)) : Keeps (Instr.buildSlice t n parts) := by
  unfold Instr.buildSlice
  refine Keeps.bind (.underlying t) fun d => ?_
  split
  · rename_i e
    refine Keeps.bind (.sizeOf _) fun sz => ?_
    have tail : ∀ z : Array Value, Keeps (do
        let some cells := Instr.fill (fun i => some (i * sz, sz)) ((Array.range (n * sz)).map (z[· % z.size]!)) parts.toList
          | Go.stuck "buildSlice: a part of the wrong size"
        Pure.pure (Value.slice (some (← Go.newRow e cells)) n n)) := fun z => by
      split
      · exact Keeps.bind (.newRow _ _) fun _ => .pure _
      · exact .stuck _
    dsimp only
    split
    · exact Keeps.bind (.unsupported _) fun _ => by
        split
        · exact tail _
        · exact Keeps.bind (.zeroValue _) fun _ => tail _
    · split
      · exact tail _
      · exact Keeps.bind (.zeroValue _) fun _ => tail _
  · exact .stuck _
theorem Keeps.viewAt (r : Nat) : Keeps (Go.viewAt r) := by
  unfold Go.viewAt
  refine Keeps.bind (.shape _) fun o => ?_
  split
  · exact .pure _
  · refine Keeps.bind (.getObj _) fun o => ?_
    split <;> exact .pure _
theorem Keeps.noView (a : Addr) : Keeps (Go.noView a) := by
  unfold Go.noView
  refine Keeps.bind (.viewAt _) fun o => ?_
  split
  · exact .unsupported _
  · exact .pure _
theorem Keeps.byteOf (a : Addr) : Keeps (Go.byteOf a) := by
  unfold Go.byteOf
  have tail : Keeps (do
      let p ← Go.program
      Go.noView a
      let some (e, _) ← Go.shape a.block | Go.stuck "byteOf: no such block"
      let s := p.cellsOf e
      if s = 0 then return 0
      let some b := byteOfCell p p.depth e (a.off % s) | Go.stuck "byteOf: no such cell"
      Pure.pure (a.off / s * p.bytesOf e + b)) := by
    refine Keeps.bind .program fun p => Keeps.bind (.noView a) fun _ => Keeps.bind (.shape _) fun o => ?_
    split
    · dsimp only
      split
      · exact .pure _
      · split
        · exact .pure _
        · exact .stuck _
    · exact .stuck _
  split
  · exact .pure _
  · exact tail
theorem Keeps.partAt (a : Addr) (c b : Nat) : Keeps (Go.partAt a c b) := by
  unfold Go.partAt
  refine Keeps.bind (.byteOf a) fun _ => Keeps.bind (.byteOf _) fun _ => .pure _
theorem Keeps.fieldPlace (a : Addr) (f : Field) : Keeps (Go.fieldPlace a f) := by
  unfold Go.fieldPlace
  refine Keeps.bind (.sizeOf _) fun n => ?_
  split
  · exact .partAt _ _ _
  · exact .pure _
theorem Keeps.fieldAt (s : TypeId) (x : Value) (f : Nat) : Keeps (Instr.fieldAt s x f) := by
  unfold Instr.fieldAt
  refine Keeps.bind (.underlying s) fun d => ?_
  split
  · split
    · exact Keeps.bind (.sureAddr _) fun a => Keeps.bind (.fieldPlace _ _) fun _ => .pure _
    · exact .stuck _
  · exact .stuck _
theorem tame_v {s : Sem Value} (h : Keeps s) {P : Program} {w w' : World} {n : Next} (hr : (do Pure.pure (Next.value (← s)) : Sem Next).run P w = .ok n w') : (∃ u, n = .value u) ∧ Ext w w' := by
  rw [Sem.run_bind] at hr
  cases e : s.run P w with
  | ok v w1 =>
    rw [e] at hr
    simp only [Result.andThen_ok, Sem.run_pure] at hr
    cases hr
    exact ⟨⟨v, rfl⟩, h P w v _ e⟩
  | halt x w1 => rw [e] at hr; cases hr
theorem tame_ok {o : Oper} (ht : tame o.op = true) {ρ : Operand → Value} {P : Program} {w w' : World} {n : Next} (hr : (execOp ρ o).run P w = .ok n w') : (∃ u, n = .value u) ∧ Ext w w' := by
  unfold execOp at hr
  cases hop : o.op with
  | move x => simp only [hop] at hr; cases hr; exact ⟨⟨_, rfl⟩, Ext.refl w⟩
  | assign x => simp only [hop] at hr; cases hr; exact ⟨⟨_, rfl⟩, Ext.refl w⟩
  | load t x => simp only [hop] at hr; exact tame_v (.loadAt _ _) hr
  | fieldAddr t x f => simp only [hop] at hr; exact tame_v (.fieldAt _ _ _) hr
  | indexAddr t x i => simp only [hop] at hr; exact tame_v (.indexAt _ _ _) hr
  | alloc e => simp only [hop] at hr; exact tame_v (.alloc _ _) hr
  | box e x => simp only [hop] at hr; exact tame_v (.box _ _) hr
  | build t ps => simp only [hop] at hr; exact tame_v (.build _ _) hr
  | buildSlice t m ps => simp only [hop] at hr; exact tame_v (.buildSlice _ _ _) hr
  | call c =>
    obtain ⟨ce, ar, at'⟩ := c
    rw [hop] at ht
    cases ce with
    | builtin b =>
      cases b <;> first | (cases ht; done) | skip
      simp only [hop, resolve] at hr
      exact tame_v (.len _ _ _) hr
    | value x => cases ht
    | invoke => cases ht
  | _ => rw [hop] at ht; cases ht
end Go.Tree

/- Trees of values: regions whose order is drawn. -/
namespace Go.Tree
set_option linter.unusedSectionVars false
set_option linter.unusedVariables false
set_option linter.unusedSimpArgs false
variable {w0 : World} {F : Fm} {nt : Nat} {H : List Value} {L : List (AV Value)} {XD : List Nat} {X : List LT} {a : Act} {w : World} {α : Type} {res : α} {P : Program} {ops : Array Oper} {Q : Exit → Act → World → Prop}
variable [Pol]
theorem quiet_not_load {o : Op} (h : quiet o = true) : ¬ isLoad o = true := by
  cases o <;> first | (simp [isLoad]; done) | (cases h)
theorem YieldsW.quiet {o : Oper} {v : Value} (h : YieldsW P ops o v a w) (hq : Tree.quiet o.op = true) : Yields P ops o v a :=
  h.imp (fun h => ⟨h.1, fun w' => h.2 w' fun hl => absurd hl (quiet_not_load hq)⟩) id
/-- What is listed stands behind what is listed. -/
def Closed (ops : Array Oper) (listed : Array Bool) : Prop := ∀ (j : Nat) (o : Oper), ops[j]? = some o → listed.getD j false = true → ∀ e ∈ o.after, Region.binds .any e = true → listed.getD e.on false = true
theorem Closed.set {listed : Array Bool} (h : Closed ops listed) {i : Nat} (hr : i ∈ Region.ready .any ops listed) : Closed ops (listed.setIfInBounds i true) := fun j o ho hl e he hb => by
  obtain ⟨_, oi, hoi, hall⟩ := mem_ready.1 hr
  by_cases hij : i = j
  · subst hij
    rw [hoi] at ho
    cases ho
    exact getD_set_true (hall e he hb)
  · rw [Go.getD_set_ne false hij] at hl
    exact getD_set_true (h j o ho hl e he hb)
theorem behind_listed {listed : Array Bool} (hc : Closed ops listed) {i : Nat} : ∀ (n j : Nat) (o : Oper), ops[j]? = some o → (∀ e ∈ o.after, Region.binds .any e = true → listed.getD e.on false = true) → behind ops n i j = true → listed.getD i false = true
  | 0, _, _, _, _, h => by cases h
  | n + 1, j, o, ho, hd, h => by
    simp only [behind, ho] at h
    obtain ⟨e, he, hb⟩ := Array.any_eq_true'.1 h
    simp only [Bool.and_eq_true, Bool.or_eq_true, beq_iff_eq] at hb
    have h1 := hd e he hb.1
    rcases hb.2 with h2 | h2
    · rw [← h2]; exact h1
    · cases hoe : ops[e.on]? with
      | none =>
        cases n with
        | zero => cases h2
        | succ n => simp only [behind, hoe] at h2; cases h2
      | some oe => exact behind_listed hc n e.on oe hoe (fun e' he' hb' => hc e.on oe hoe h1 e' he' hb') h2
theorem YieldsW.step {o : Oper} {v : Value} {a' : Act} {w' : World} (h : YieldsW P ops o v a w) (he : execOp a'.eval o = execOp a.eval o) (hw : Region.wanted o (yielded ops a'.tmps) = Region.wanted o (yielded ops a.tmps)) (hx : Ext w w') : YieldsW P ops o v a' w' := by
  unfold YieldsW at *
  rw [he, hw]
  exact h.imp (fun h => ⟨h.1, fun w'' hc => h.2 w'' fun hl => hx.trans (hc hl)⟩) id
theorem YieldsW.wpOp {i : Nat} {o : Oper} {v : Value} (hi : ops[i]? = some o) (hy : YieldsW P ops o v a w) {K : Act → World → Prop} (h : K (a.put o.dst v) w) : wpOp P ops Q i K a w := by
  unfold Go.wpOp
  simp only [hi]
  rcases hy with ⟨hw, hv⟩ | ⟨hw, rfl⟩
  · simp only [hw, if_true, Oper.wp, hv w (fun _ => Ext.refl w), Oper.upon]; exact .inl h
  · simp only [hw, Bool.false_eq_true, if_false]; exact h
theorem wpOp_putW {j : Nat} {oi oj : Oper} {v : Value} (hj : ops[j]? = some oj) (hap : oi.apart ops oj = true) (ht : tame oj.op = true)
    (hsi : ∀ cs b, oi.op ≠ .select cs b) (hsj : ∀ cs b, oj.op ≠ .select cs b)
    (hQ : ∀ c a w, Q (.panic c) (a.put oi.dst v) w → Q (.panic c) a w) {K : Act → World → Prop} {a : Act} {w : World}
    (hy : YieldsW P ops oi v a w) (h : wpOp P ops Q j K (a.put oi.dst v) w) :
    wpOp P ops Q j (fun a' w' => YieldsW P ops oi v a' w' ∧ K (a'.put oi.dst v) w') a w := by
  obtain ⟨h1, h2, h3⟩ := Oper.apart_spec hap
  have keep : ∀ (u : Value) (w' : World), Ext w w' → YieldsW P ops oi v (a.put oj.dst u) w' := fun u w' hx =>
    hy.step (execOp_put oi hsi a oj.dst u h3) (wanted_put oi a oj.dst u h3) hx
  unfold Go.wpOp at *
  simp only [hj] at *
  rw [wanted_put oj a oi.dst v h1] at h
  split
  · rename_i hw
    simp only [hw, if_true] at h
    rcases h with h | ⟨hasks, hlets⟩
    case inr => exact .inr ⟨by unfold Oper.asks at *; rw [execOp_put oj hsj a oi.dst v h1] at hasks; exact hasks, hlets⟩
    refine .inl ?_
    unfold Oper.wp at *
    rw [execOp_put oj hsj a oi.dst v h1] at h
    cases hr : (execOp a.eval oj).run P w with
    | ok n w' =>
      obtain ⟨⟨u, rfl⟩, hx⟩ := tame_ok ht hr
      rw [hr] at h
      simp only [Oper.upon] at h ⊢
      exact ⟨keep u w' hx, by rw [← Act.put_comm a v u h2]; exact h⟩
    | halt x w' =>
      rw [hr] at h
      cases x <;> simp only [Oper.upon] at h ⊢
      case panic u => exact hQ _ _ _ h
  · rename_i hw
    simp only [hw] at h
    exact ⟨keep undef w (Ext.refl w), by rw [← Act.put_comm a v undef h2]; exact h⟩
theorem wpAny_firstW {i : Nat} {oi : Oper} {v : Value} (hi : ops[i]? = some oi) (hsel : ∀ (j : Nat) (o : Oper) cs b, ops[j]? = some o → o.op ≠ .select cs b)
    (hQ : ∀ c a w, Q (.panic c) (a.put oi.dst v) w → Q (.panic c) a w) :
    ∀ (fuel : Nat) (listed : Array Bool) (a : Act) (w : World), Closed ops listed →
      (∀ j oj, ops[j]? = some oj → j ≠ i → listed.getD j true = false → (∀ e ∈ oj.after, Region.binds .any e = true → e.on ≠ i) → oi.apart ops oj = true) →
      (∀ j oj, ops[j]? = some oj → j ≠ i → listed.getD j true = false → tame oj.op = true ∨ behind ops ops.size i j = true) →
      i ∈ Region.ready .any ops listed → YieldsW P ops oi v a w →
      wpAny P .any ops Q fuel (listed.setIfInBounds i true) (a.put oi.dst v) w → wpAny P .any ops Q (fuel + 1) listed a w := by
  intro fuel
  induction fuel with
  | zero =>
    intro listed a w _ _ _ hr hy H
    refine ⟨fun h => (by rw [h] at hr; cases hr), fun j hj => ?_⟩
    by_cases hji : j = i
    · subst hji; exact hy.wpOp hi H
    · have := ready_mono hj hji
      rw [H.1] at this
      cases this
  | succ fuel ih =>
    intro listed a w hcl hfree htame hr hy H
    refine ⟨fun h => (by rw [h] at hr; cases hr), fun j hj => ?_⟩
    by_cases hji : j = i
    · subst hji; exact hy.wpOp hi H
    · have h1 := H.2 j (ready_mono hj hji)
      obtain ⟨hjun, oj, hoj, hall⟩ := mem_ready.1 hj
      have hun : listed.getD i false = true → False := fun h1 => by
        have h0 := (mem_ready.1 hr).1
        rcases Nat.lt_or_ge i listed.size with h' | h'
        · simp [h'] at h0 h1; rw [h0] at h1; cases h1
        · simp [Array.getElem?_eq_none h'] at h1
      have hnot : ∀ e ∈ oj.after, Region.binds .any e = true → e.on ≠ i := fun e he hb heq => hun (by rw [← heq]; exact hall e he hb)
      have ht : tame oj.op = true := (htame j oj hoj hji hjun).resolve_right fun hb => hun (behind_listed hcl _ j oj hoj hall hb)
      have h2 := wpOp_putW hoj (hfree j oj hoj hji hjun hnot) ht (fun cs b => hsel i oi cs b hi) (fun cs b => hsel j oj cs b hoj) hQ hy h1
      have hsub : ∀ k, (listed.setIfInBounds j true).getD k true = false → listed.getD k true = false := fun k hk => by
        by_cases hjk : j = k
        · subst hjk; exact hjun
        · rw [Go.getD_set_ne true hjk] at hk; exact hk
      refine wpOp_mono (fun a' w' h3 => ih (listed.setIfInBounds j true) a' w' (hcl.set hj) (fun k ok hk hki hun' hno => hfree k ok hk hki (hsub k hun') hno) (fun k ok hk hki hun' => htame k ok hk hki (hsub k hun')) (ready_mono hr (Ne.symm hji)) h3.1 ?_) h2
      rw [Array.setIfInBounds_comm _ _ hji]
      exact h3.2
/-- A region in whatever order. -/
theorem evAny_ok {cx : Ctx} {E : EvO α} (hE : EOk cx E)
    {fn : Func} {ops : Array Oper} (hfits : ops.toList.all (fitOp nt) = true) (hns : Region.noSelect ops = true) {K : Env → Option α} {Q : Exit → Act → World → Prop} (hQ : ∀ a w, Nxt cx.P w0 F nt H K res a w → Q .normal a w) (hQp : ∀ c a w, ¬ Q (.panic c) a w) :
    ∀ (n : Nat) (listed : Array Bool) {L : List (AV Value)} {a : Act} {w : World}, Closed ops listed → G cx.P w0 F nt H L [] [] a w → evAny E fn ops n listed (L.map erA) K = some res → wpAny cx.P .any ops Q n listed a w
  | 0, listed, L, a, w, hcl, g, h => by
    simp only [evAny] at h
    split at h
    · rename_i hr
      exact ⟨hr, hQ a w ⟨L, g, h⟩⟩
    · cases h
  | n + 1, listed, L, a, w, hcl, g, h => by
    simp only [evAny] at h
    split at h
    · rename_i hr
      exact wpAny_done hr (hQ a w ⟨L, g, h⟩) _
    · rename_i rs hne
      split at h
      · rename_i i hi
        have hfi := List.find?_some hi
        have hmem : i ∈ Region.ready .any ops listed := List.mem_of_find?_eq_some hi
        split at h
        · rename_i o ho
          unfold first at hfi
          rw [ho] at hfi
          simp only [Bool.and_eq_true, Bool.or_eq_true] at hfi
          have hst : still o.op = true := by
            rcases hfi.2 with h1 | h1
            · simp [still, h1]
            · simp [still, h1.1]
          obtain ⟨v, hy, L', g', h'⟩ := evOne_still hE g hfits (Array.mem_of_getElem? ho) hst h
          have hrest := evAny_ok hE hfits hns hQ hQp n _ (hcl.set hmem) g' h'
          rcases hfi.2 with hq | hl
          · exact wpAny_take ho hns hfi.1 (by simpa using hmem) (fun c a w hq => absurd hq (hQp _ _ _)) (hy.quiet hq) hrest
          · refine wpAny_firstW ho (Region.noSelect_spec hns) (fun c a w hq => absurd hq (hQp _ _ _)) n listed a w hcl (Region.free_spec ho hfi.1) (fun j oj hoj hji hun => ?_) hmem hy hrest
            have := List.all_eq_true.1 hl.2 j (List.mem_range.2 (Array.getElem?_eq_some_iff.1 hoj).1)
            simp only [hoj, Option.any_some, Bool.or_eq_true, beq_iff_eq, hji, false_or, hun, Bool.false_eq_true] at this
            exact this
        · cases h
      · have hall := amb_spec h
        refine wpAny_all rfl (by intro h0; exact hne h0) fun i hi => ?_
        have h1 := hall _ (List.mem_map.2 ⟨i, hi, rfl⟩)
        split at h1
        · rename_i o ho
          unfold Go.wpOp
          rw [ho]
          simp only
          rcases evOne_ok hE g hfits (Array.mem_of_getElem? ho) h1 with ⟨hw, h2⟩ | ⟨hw, L', g', h2⟩
          · rw [if_pos hw]
            exact .inl (Oper.wp_mono (fun a' w' ⟨L', g', h'⟩ => evAny_ok hE hfits hns hQ hQp n _ (hcl.set hi) g' h') (h2 Q))
          · rw [if_neg (by rw [hw]; simp)]
            exact evAny_ok hE hfits hns hQ hQp n _ (hcl.set hi) g' h2
        · cases h1
theorem closed_none (ops : Array Oper) (n : Nat) : Closed ops (Array.replicate n false) := fun j o ho hl => by
  simp only [Array.getD_eq_getD_getElem?, Array.getElem?_replicate] at hl
  split at hl <;> cases hl
end Go.Tree

/- Trees of values: code. -/
namespace Go.Tree
set_option linter.unusedSectionVars false
set_option linter.unusedVariables false
set_option linter.unusedSimpArgs false
variable {w0 : World} {F : Fm} {nt : Nat} {H : List Value} {L : List (AV Value)} {XD : List Nat} {X : List LT} {a : Act} {w : World} {α : Type} {res : α}
variable [Pol]
/-- What must hold behind a piece of code. -/
structure Qs (P : Program) (w0 : World) (F : Fm) (nt : Nat) (H : List Value) (K : Ex → Env → Option α) (res : α) (Q : Exit → Act → World → Prop) : Prop where
  normal : ∀ a w, Nxt P w0 F nt H (K .normal) res a w → Q .normal a w
  exit : ∀ i a w, Nxt P w0 F nt H (K (.exit i)) res a w → Q (.exit i) a w
  ret : ∀ a w, Nxt P w0 F nt H (K .ret) res a w → Q .ret a w
  panic : ∀ c a w, ¬ Q (.panic c) a w
theorem keepAV_er (ks : List Nat) (v : AV Value) : keepAV ks (erA v) = erA (keepAV ks v) := by
  cases v <;> simp only [erA, keepAV] <;> (try split) <;> rfl
theorem havocI_at {η : Type} (ks : List Nat) : ∀ (L : List (AV η)) (j i : Nat), (havocI ks j L)[i]? = (L[i]?).map fun v => bif hasN ks (j + i) then keepAV ks v else .un
  | [], _, _ => by simp [havocI]
  | v :: L, j, 0 => by simp [havocI]
  | v :: L, j, i + 1 => by
    rw [havocI, List.getElem?_cons_succ, List.getElem?_cons_succ, havocI_at ks L (j + 1) i, show j + 1 + i = j + (i + 1) by omega]
theorem havocI_len {η : Type} (ks : List Nat) : ∀ (L : List (AV η)) (j : Nat), (havocI ks j L).length = L.length
  | [], _ => rfl
  | v :: L, j => by rw [havocI, List.length_cons, List.length_cons, havocI_len ks L]
theorem havoc_er (ks : List Nat) (L : List (AV Value)) : havoc ks (L.map erA) = (havoc ks L).map erA := by
  unfold havoc
  refine List.ext_getElem? fun i => ?_
  rw [havocI_at, List.getElem?_map, List.getElem?_map, havocI_at]
  cases L[i]? with
  | none => rfl
  | some v =>
    simp only [Option.map_some]
    cases hasN ks (0 + i) with
    | true => simp only [cond_true]; rw [keepAV_er]
    | false => rfl
theorem hasN_mem : ∀ (l : List Nat) (x : Nat), hasN l x = true → x ∈ l
  | [], x, h => by cases h
  | k :: l, x, h => by
    unfold hasN at h
    cases hb : Nat.beq k x with
    | true => rw [Nat.eq_of_beq_eq_true hb]; exact List.mem_cons_self
    | false =>
      rw [hb] at h
      exact List.mem_cons_of_mem _ (hasN_mem l x h)
theorem dd_mem : ∀ (l : List Nat) (x : Nat), x ∈ l → x ∈ dd l
  | [], x, h => h
  | k :: l, x, h => by
    unfold dd
    cases hb : hasN l k with
    | true =>
      rcases List.mem_cons.1 h with rfl | h
      · exact dd_mem l _ (hasN_mem l _ hb)
      · exact dd_mem l x h
    | false =>
      rcases List.mem_cons.1 h with rfl | h
      · exact List.mem_cons_self
      · exact List.mem_cons_of_mem _ (dd_mem l x h)
def ddA : AV Value → AV Value
  | .val d t => .val (dd d) t
  | v => v
theorem ddA_val {v : AV Value} {d : List Nat} {t : LT} (h : ddA v = .val d t) : ∃ d', v = .val d' t := by
  cases v <;> simp only [ddA] at h <;> cases h
  exact ⟨_, rfl⟩
theorem ddA_own (v : AV Value) : ownA (ddA v) = ownA v := by cases v <;> rfl
theorem ddA_shr (v : AV Value) : shrA (ddA v) = shrA v := by cases v <;> rfl
theorem ddA_deps (v : AV Value) (j : Nat) (h : j ∈ depsA v) : j ∈ depsA (ddA v) := by
  cases v with
  | val d t => exact dd_mem d j h
  | _ => exact h
theorem G.dds {P : Program} (g : G P w0 F nt H L XD X a w) : G P w0 F nt H (L.map ddA) XD X a w := by
  have hs : ∀ i, slot (L.map ddA) i = ddA (slot L i) := fun i => slot_map L ddA rfl i
  have hok : ∀ (v : Value) (x : AV Value), SlotOk P L v x → SlotOk P (L.map ddA) v (ddA x) := fun v x h => by
    cases x with
    | un => trivial
    | val d t => exact h
    | tu d t => exact h
    | ref r p sub ty sn =>
      refine fun deps t e => ?_
      rw [hs] at e
      obtain ⟨d', e⟩ := ddA_val e
      exact h d' t e
    | adr r p =>
      refine fun deps t e => ?_
      rw [hs] at e
      obtain ⟨d', e⟩ := ddA_val e
      exact h d' t e
  have hm : ∀ x : AV Value, MemA w x → MemA w (ddA x) := fun x h => by cases x <;> exact h
  refine ⟨g.defers, g.size, by rw [List.length_map]; exact g.len, fun i hi => by rw [hs]; exact hok _ _ (g.slots i hi), fun j v h => by rw [hs]; exact hok _ _ (g.hid j v h), fun i => by rw [hs]; exact hm _ (g.mem i), g.memX, ⟨fun i => by rw [hs, ddA_own]; exact g.dj.nd i, fun i j b h1 h2 => ?_, fun i b h1 => ?_, fun i j b h1 h2 => ?_, g.dj.xn, fun i b h1 => ?_, fun i b h1 => ?_, g.dj.xx, fun j b h1 h2 => ?_⟩, fun i b h1 => ?_, g.mineX, g.fr, fun i b h1 => ?_, g.seesX⟩
  · rw [hs, ddA_own] at h1 h2; exact g.dj.dj i j b h1 h2
  · rw [hs, ddA_shr] at h1; rw [hs, ddA_own]; exact g.dj.ss i b h1
  · rw [hs, ddA_shr] at h1; rw [hs, ddA_own] at h2; rw [hs]; exact ddA_deps _ j (g.dj.sh i j b h1 h2)
  · rw [hs, ddA_own]; exact g.dj.xo i b h1
  · rw [hs, ddA_shr] at h1; exact g.dj.xs i b h1
  · rw [hs, ddA_own] at h2; exact g.dj.xd j b h1 h2
  · rw [hs, ddA_own] at h1; exact g.mine i b h1
  · rw [hs, ddA_shr] at h1; exact g.sees i b h1
theorem havoc_slot (ks : List Nat) (L : List (AV Value)) (i : Nat) : slot (havoc ks L) i = slot (L.map ddA) i ∨ slot (havoc ks L) i = .un := by
  rw [slot_map L ddA rfl]
  simp only [slot, havoc, List.getD_eq_getElem?_getD, havocI_at]
  cases L[i]? with
  | none => right; rfl
  | some v =>
    simp only [Option.map_some, Option.getD_some]
    cases hasN ks (0 + i) with
    | true => cases v <;> simp only [cond_true, keepAV, ddA] <;> (try split) <;> simp
    | false => right; rfl
theorem G.havoc {P : Program} (g : G P w0 F nt H L XD X a w) (ks : List Nat) : G P w0 F nt H (Tree.havoc ks L) XD X a w :=
  g.dds.drop (by rw [Tree.havoc, havocI_len, List.length_map]) (havoc_slot ks L)
/-- The least number. -/
theorem least {S : Nat → Prop} (h : ∃ m, S m) : ∃ m, S m ∧ ∀ k, S k → m ≤ k := by
  obtain ⟨m, hm⟩ := h
  induction m using Nat.strongRecOn with
  | ind m ih =>
    by_cases hk : ∃ k, k < m ∧ S k
    · obtain ⟨k, h1, h2⟩ := hk
      exact ih k h1 h2
    · refine ⟨m, hm, fun k hk' => ?_⟩
      rcases Nat.lt_or_ge k m with h1 | h1
      · exact absurd ⟨k, h1, hk'⟩ hk
      · exact h1
theorem cutE_er (cx : Ctx) (f : FuncId) (c : Code) (L : List (AV Value)) : cutE cx f c (L.map erA) = (cutE cx f c L).map erA := by
  unfold cutE
  split
  · exact havoc_er _ L
  · rfl
theorem G.cut {P : Program} (g : G P w0 F nt H L XD X a w) (cx : Ctx) (f : FuncId) (c : Code) : G P w0 F nt H (cutE cx f c L) XD X a w := by
  unfold cutE
  split
  · exact g.havoc _
  · exact g
theorem ev_ok {cx : Ctx} {E : EvO α} (hE : EOk cx E) (hm : cx.P.follows .mixedOrders = true)
    {f : FuncId} {fn : Func} {n : Nat} : ∀ (c : Code), fitCode nt c = true → ∀ {K : Ex → Env → Option α} {Q : Exit → Act → World → Prop} {L : List (AV Value)} {a : Act} {w : World}, G cx.P w0 F nt H L [] [] a w → ev cx E f fn n c K (L.map erA) = some res → Qs cx.P w0 F nt H K res Q → c.wp cx.P Q a w
  | .skip, _, K, Q, L, a, w, g, h, hQ => wp_skip (hQ.normal a w ⟨L, g, h⟩)
  | .region id ops draw, hf, K, Q, L, a, w, g, h, hQ => by
    simp only [fitCode, Bool.and_eq_true] at hf
    simp only [ev] at h
    cases draw with
    | true => exact wp_region_any hm (evAny_ok hE hf.1 hf.2 hQ.normal hQ.panic _ _ (closed_none ops _) g.draw h)
    | false => exact wp_region_list (evList_ok hE hf.1 hQ.normal _ (fun o ho => Array.mem_toList_iff.1 ho) g h)
  | .seq x y, hf, K, Q, L, a, w, g, h, hQ => by
    simp only [fitCode, Bool.and_eq_true] at hf
    simp only [ev] at h
    refine wp_seq (ev_ok hE hm x hf.1 g h ⟨fun a' w' hn => ?_, fun i a' w' hn => hQ.exit i a' w' hn, fun a' w' hn => hQ.ret a' w' hn, hQ.panic⟩)
    obtain ⟨L', g', h'⟩ := hn
    exact ev_ok hE hm y hf.2 (g'.cut cx f y) (by rw [← cutE_er]; exact h') hQ
  | .cond c x y, hf, K, Q, L, a, w, g, h, hQ => by
    simp only [fitCode, Bool.and_eq_true] at hf
    simp only [ev] at h
    split at h
    · rename_i t hc
      have e := flatO_ok g hf.1.1 hc
      cases t with
      | true => exact wp_cond_true e (ev_ok hE hm x hf.1.2 g h hQ)
      | false => exact wp_cond_false e (ev_ok hE hm y hf.2 g h hQ)
    · cases h
  | .block id c, hf, K, Q, L, a, w, g, h, hQ => by
    simp only [fitCode] at hf
    simp only [ev] at h
    refine wp_block (ev_ok hE hm c hf g h ⟨fun a' w' hn => hQ.normal a' w' hn, fun i a' w' hn => ?_, fun a' w' hn => hQ.ret a' w' hn, hQ.panic⟩)
    obtain ⟨L', g', h'⟩ := hn
    simp only at h'
    by_cases hi : i = id
    · rw [if_pos hi] at h'
      simp only [Exit.inBlock, if_pos hi]
      exact hQ.normal a' w' ⟨L', g', h'⟩
    · rw [if_neg hi] at h'
      simp only [Exit.inBlock, if_neg hi]
      exact hQ.exit i a' w' ⟨L', g', h'⟩
  | .loop c, hf, K, Q, L, a, w, g, h, hQ => by
    simp only [fitCode] at hf
    simp only [ev] at h
    classical
    let S : Act → World → Nat → Prop := fun a w m => ∃ L, G cx.P w0 F nt H L [] [] a w ∧ evLoop (ev cx E f fn n c) (havoc (cx.keep f (firstRegion c))) m K (L.map erA) = some res
    refine wp_loop (fun a w => ∃ m, S a w m) (fun a w => if hx : ∃ m, S a w m then (least hx).choose else 0) ⟨n, _, g.havoc _, by rw [← havoc_er]; exact h⟩ (fun a w hI => ?_)
    have hmin := (least hI).choose_spec.1
    rw [dif_pos hI]
    generalize (least hI).choose = m at hmin
    obtain ⟨L, g, h⟩ := hmin
    cases m with
    | zero => cases h
    | succ m =>
      simp only [evLoop] at h
      refine ev_ok hE hm c hf g h ⟨fun a' w' hn => ?_, fun i a' w' hn => hQ.exit i a' w' hn, fun a' w' hn => hQ.ret a' w' hn, hQ.panic⟩
      obtain ⟨L', g', h'⟩ := hn
      have h' : evLoop (ev cx E f fn n c) (havoc (cx.keep f (firstRegion c))) m K ((Tree.havoc (cx.keep f (firstRegion c)) L').map erA) = some res := by rw [← havoc_er]; exact h'
      have hS : ∃ m, S a' w' m := ⟨m, _, g'.havoc _, h'⟩
      refine ⟨hS, ?_⟩
      rw [dif_pos hS]
      exact Nat.lt_succ_of_le ((least hS).choose_spec.2 m ⟨_, g'.havoc _, h'⟩)
  | .exit id, _, K, Q, L, a, w, g, h, hQ => wp_exit (hQ.exit id a w ⟨L, g, h⟩)
  | .ret, _, K, Q, L, a, w, g, h, hQ => wp_ret (hQ.ret a w ⟨L, g, h⟩)
  | .rangeFunc .., _, K, Q, L, a, w, g, h, hQ => by simp [ev] at h
  | .scope _, _, K, Q, L, a, w, g, h, hQ => by simp [ev] at h
  | .label _, _, K, Q, L, a, w, g, h, hQ => by simp [ev] at h
  | .goto _, _, K, Q, L, a, w, g, h, hQ => by simp [ev] at h
  | .refuse _, _, K, Q, L, a, w, g, h, hQ => by simp [ev] at h
end Go.Tree

/- Trees of values: functions that are told within their callers, proved; one operation. -/
namespace Go.Tree
set_option linter.unusedSectionVars false
set_option linter.unusedVariables false
set_option linter.unusedSimpArgs false
variable {w0 : World} {F : Fm} {nt : Nat} {H : List Value} {L : List (AV Value)} {XD : List Nat} {X : List LT} {a : Act} {w : World} {α : Type} {res : α}
variable [Pol]
/-- A call that is told within its caller. -/
theorem inlE_ok {cx : Ctx} {E : EvO α} (hE : EOk cx E) (hmo : cx.P.follows .mixedOrders = true) (hN : ∀ (f : FuncId) (fn : Func), cx.P.funcs[f]? = some fn → (fn.name == "runtime.NumGoroutine") = false)
    (g : G cx.P w0 F nt H L [] [] a w) {o : Oper} (hd : fitD nt o.dst = true) {f : FuncId} {fn : Func} {c : Code} (hfn : cx.P.funcs[f]? = some fn) (hb : fn.body = some c) {args : List (TypeId × Operand)} (hf : args.all (fun q => fitO nt q.2) = true)
    {K : Env → Option α} (h : inlE cx E (L.map erA) o.dst f fn c args K = some res) (hrun : (execOp a.eval o).run cx.P w = (callFunc f (args.map fun q => a.eval q.2).toArray).run cx.P w) {Q : Exit → Act → World → Prop} :
    o.wp cx.P a w (Nxt cx.P w0 F nt H K res) Q := by
  unfold inlE at h
  split at h
  · rename_i hc
    split at h
    · rename_i vs hvs
      obtain ⟨vs', rfl, hl, hv⟩ := argsA_ok (m := fn.ntmps) g args hf hvs
      have hexec : (execOp a.eval o).run cx.P w = .ok (.enter f (args.map fun q => a.eval q.2).toArray) w := by
        rw [hrun]
        have hne : ¬ fn.name = "runtime.NumGoroutine" := by simpa using hN f fn hfn
        have hbs : ¬ fn.body = none := by intro h; rw [h] at hb; cases hb
        simp [callFunc, run_program, hfn, hne, hbs]
      unfold Oper.wp
      rw [hexec, Oper.upon_enter]
      have genv : (vs'.map erA ++ List.replicate (fn.ntmps - (vs'.map erA).length) (AV.un : AV Unit) ++ (L.map erA).map (shA fn.ntmps)) = (vs' ++ List.replicate (fn.ntmps - vs'.length) (AV.un : AV Value) ++ L.map (shA fn.ntmps)).map erA := by
        simp only [List.map_append, List.map_replicate, List.map_map, List.length_map, erA]
        congr 1
        refine List.map_congr_left fun v _ => ?_
        exact shA_er _ v
      rw [genv] at h
      obtain ⟨KK, hKK⟩ : ∃ KK : Env → Option α, KK = (fun env' => takeRes cx.P fn.ntmps [] env' fn.results.toList fun D ts env'' =>
          bif D.all (Nat.ble fn.ntmps) && Nat.beq env''.length (fn.ntmps + (L.map erA).length) then
            (let env3 := (env''.drop fn.ntmps).map (unA fn.ntmps)
             let D3 := if ts.any hasRo then D.map (· - fn.ntmps) else []
             match ts with
             | [] => K (putD env3 o.dst .un)
             | [t] => K (putD env3 o.dst (.val D3 t))
             | ts => K (putD env3 o.dst (.tu D3 ts)))
          else none) := ⟨_, rfl⟩
      obtain ⟨KE, hE1, hE2, hE3⟩ : ∃ KE : Ex → Env → Option α, KE .normal = KK ∧ KE .ret = KK ∧ ∀ i, KE (.exit i) = fun _ => none :=
        ⟨fun e env' => match e with | .exit _ => none | _ => KK env', rfl, rfl, fun _ => rfl⟩
      have h : ev cx E f fn 0 c KE ((vs' ++ List.replicate (fn.ntmps - vs'.length) (AV.un : AV Value) ++ L.map (shA fn.ntmps)).map erA) = some res := by
        rw [← h]
        congr 1
        funext e env'
        cases e with
        | normal => exact (congrFun (hE1.trans hKK) env').trans rfl
        | ret => exact (congrFun (hE2.trans hKK) env').trans rfl
        | exit i => exact congrFun (hE3 i) env'
      have hfin : ∀ (a' : Act) (w' : World), Nxt cx.P w0 F fn.ntmps (vals nt a H) KK res a' w' → a'.defers = [] ∧ ∃ v, (results fn a'.tmps).run cx.P w' = .ok v w' ∧ Nxt cx.P w0 F nt H K res (a.put o.dst v) w' := fun a' w' hn => by
        rw [hKK] at hn
        obtain ⟨E1, g', h'⟩ := hn
        refine ⟨g'.defers, ?_⟩
        obtain ⟨D, Rs, E', h', g2, hvs⟩ := takeRes_ok _ g' h'
        rw [List.nil_append] at g2
        cases hcd : (D.all (Nat.ble fn.ntmps) && Nat.beq (E'.map erA).length (fn.ntmps + (L.map erA).length)) with
        | false => rw [hcd] at h'; cases h'
        | true =>
          rw [hcd, cond_true] at h'
          simp only [Bool.and_eq_true] at hcd
          have hlen : E'.length = fn.ntmps + L.length := by simpa using Nat.eq_of_beq_eq_true hcd.2
          have g3 := exitI_ok g g2 hlen
          refine ⟨retV Rs, results_ok hvs, landRets g3 hd ?_⟩
          have e3 : ((E'.map erA).drop fn.ntmps).map (unA fn.ntmps) = ((E'.drop fn.ntmps).map (unA fn.ntmps)).map erA := by
            rw [← List.map_drop, List.map_map, List.map_map]
            exact List.map_congr_left fun v _ => unA_er _ v
          simp only [e3] at h'
          exact h'
      have hcall : Calls cx.P f (args.map fun q => a.eval q.2).toArray w fun e w' => match e with | .returned v => Nxt cx.P w0 F nt H K res (a.put o.dst v) w' | _ => False := by
        refine calls_of_wp hfn hb (ev_ok hE hmo c hc.2 (enterI_ok g hl hc.1 hv) h ⟨fun a' w' hn => ?_, fun i a' w' hn => ?_, fun a' w' hn => ?_, fun c' a' w' hp => ?_⟩)
        · rw [hE1] at hn; exact hfin a' w' hn
        · obtain ⟨L', _, h'⟩ := hn
          rw [hE3] at h'
          cases h'
        · rw [hE2] at hn; exact hfin a' w' hn
        · exact hp.2
      refine hcall.mono fun e w' hp => ?_
      cases e with
      | returned v => exact hp
      | panicked c => exact hp.elim
      | outgrown => exact hp.elim
    · cases h
  · cases h
theorem inlOf_still {cx : Ctx} {o : Oper} (h : still o.op = true) : inlOf cx o = none := by
  unfold inlOf
  split
  · rename_i c hop
    rw [hop] at h
    rw [still_call h]
  · rfl
theorem inlOf_some {cx : Ctx} {o : Oper} {f : FuncId} {c : Call} (h : inlOf cx o = some (f, c)) : o.op = .call c ∧ c.callee = .value (.func f) := by
  unfold inlOf at h
  split at h
  · rename_i c' hop
    split at h
    · rename_i g hcal
      cases hb : cx.inl g with
      | true =>
        rw [hb] at h
        have h : some (g, c') = some (f, c) := h
        cases h
        exact ⟨hop, hcal⟩
      | false => rw [hb] at h; cases h
    · cases h
  · cases h
theorem evOpD_ok {cx : Ctx} {call : FuncId → List TV → Option Res} (hC : CallsOk cx.P cx.sig call) (hN : ∀ (f : FuncId) (fn : Func), cx.P.funcs[f]? = some fn → (fn.name == "runtime.NumGoroutine") = false) (hmo : cx.P.follows .mixedOrders = true) : ∀ n, EOk cx (evOpD cx call n : EvO α)
  | 0 => ⟨fun g hfit h => evOp0_ok hC hN g hfit h, fun g hst hfit h => evOp0_still g hst hfit h⟩
  | n + 1 => by
    refine ⟨@fun w0 F nt H L a w fn o K res Q g hfit h => ?_, @fun w0 F nt H L a w fn o K res g hst hfit h => ?_⟩
    · simp only [evOpD] at h
      split at h
      · exact evOp0_ok hC hN g hfit h
      · rename_i f c hi
        obtain ⟨hop, hcal⟩ := inlOf_some hi
        split at h
        · rename_i fn' hfn
          split at h
          · rename_i code hb
            cases hsz : (c.argTypes.size != c.args.size) with
            | true => rw [hsz] at h; cases h
            | false =>
              rw [hsz, cond_false] at h
              have hsz : c.argTypes.size = c.args.size := by simpa using hsz
              simp only [fitOp, Bool.and_eq_true] at hfit
              obtain ⟨hd, hx⟩ := hfit
              rw [hop] at hx
              have ha : c.args.toList.all (fitO nt) = true := by
                simp only [opnds, List.all_append, Bool.and_eq_true] at hx
                exact hx.1
              refine inlE_ok (evOpD_ok hC hN hmo n) hmo hN g hd hfn hb (fits_zip ha) h ?_
              have e := argVals_eq (a := a) (argTys_len (P := cx.P) (f := f) hsz) ([] : List LT)
              simp only [argVals, List.map_nil] at e
              have e : (((argTys cx.P f c).zip c.args.toList).map fun q => a.eval q.2).toArray = c.args.map a.eval := by simpa using e
              rw [e]
              unfold execOp
              simp only [hop, resolve, hcal, Act.eval, Deferred.ofValue]
              simp [invoke]
          · cases h
        · cases h
    · simp only [evOpD] at h
      rw [inlOf_still hst] at h
      exact evOp0_still g hst hfit h
theorem evOp_ok {cx : Ctx} {call : FuncId → List TV → Option Res} (hC : CallsOk cx.P cx.sig call) (hN : ∀ (f : FuncId) (fn : Func), cx.P.funcs[f]? = some fn → (fn.name == "runtime.NumGoroutine") = false) (hmo : cx.P.follows .mixedOrders = true) : EOk cx (evOp cx call : EvO α) :=
  evOpD_ok hC hN hmo 3
end Go.Tree

/- Trees of values: functions. -/
namespace Go.Tree
set_option linter.unusedSectionVars false
set_option linter.unusedVariables false
set_option linter.unusedSimpArgs false
variable {w0 : World} {F : Fm} {nt : Nat} {H : List Value} {L : List (AV Value)} {XD : List Nat} {X : List LT} {a : Act} {w : World} {α : Type} {res : α}
variable [Pol]
theorem env0_er (fn : Func) (ws : List Bool) (Ts : List LT) : (env0 fn ws Ts).map erA = env0 fn ws (Ts.map er) := by
  refine List.ext_getElem? fun i => ?_
  simp only [env0, List.map_append, List.map_map, List.length_map, List.map_replicate, erA]
  congr 1
  congr 1
  · congr 1
    refine List.ext_getElem? fun i => ?_
    simp only [List.getElem?_map, List.getElem?_zipIdx, Option.map_map]
    cases Ts[i]? with
    | none => rfl
    | some T => simp only [Option.map_some, Function.comp]; split <;> rfl
  · refine List.ext_getElem? fun i => ?_
    simp only [List.getElem?_map, List.getElem?_zipIdx, Option.map_map]
    cases Ts[i]? with
    | none => rfl
    | some T => simp only [Option.map_some, Function.comp]; split <;> rfl
theorem env0_slot {fn : Func} {ws : List Bool} {Ts : List LT} (hn : Ts.length ≤ fn.ntmps) (i : Nat) :
    slot (env0 fn ws Ts) i = (match Ts[i]? with | some T => (if ws.getD i false then AV.ref (fn.ntmps + i) [] none (fn.params.getD i 0) false else AV.val [] T) | none => match (if fn.ntmps ≤ i then Ts[i - fn.ntmps]? else none) with | some T => (if ws.getD (i - fn.ntmps) false then AV.val [] T else .un) | none => .un) := by
  simp only [slot, env0, List.getD_eq_getElem?_getD]
  rcases Nat.lt_or_ge i Ts.length with h1 | h1
  · rw [List.getElem?_append_left (by simp; omega), List.getElem?_append_left (by simp; omega)]
    simp only [List.getElem?_map, List.getElem?_zipIdx, List.getElem?_eq_getElem h1, Option.map_some, Option.getD_some, Nat.zero_add]
  · rw [List.getElem?_eq_none h1]
    rcases Nat.lt_or_ge i fn.ntmps with h2 | h2
    · rw [List.getElem?_append_left (by simp; omega), List.getElem?_append_right (by simp; omega)]
      simp only [if_neg (show ¬ fn.ntmps ≤ i by omega)]
      rw [List.getElem?_replicate]
      split <;> rfl
    · rw [List.getElem?_append_right (by simp; omega)]
      simp only [if_pos h2, List.length_append, List.length_map, List.length_zipIdx, List.length_replicate]
      have e : i - (Ts.length + (fn.ntmps - Ts.length)) = i - fn.ntmps := by omega
      rw [e]
      simp only [List.getElem?_map, List.getElem?_zipIdx, Option.map_map]
      cases Ts[i - fn.ntmps]? with
      | none => rfl
      | some T => simp only [Option.map_some, Option.getD_some, Function.comp, Nat.zero_add, List.getD_eq_getElem?_getD]
theorem Wm_get : ∀ {ws : List Bool} {Ts : List LT}, Wm false ws Ts → ∀ {i : Nat} {T : LT}, Ts[i]? = some T → (ws.getD i false = false → own T = []) ∧ (ws.getD i false = true → isSt T = false)
  | ws, [], _, i, T, hT => by simp at hT
  | ws, U :: Ts, h, 0, T, hT => by
    simp only [List.getElem?_cons_zero, Option.some.injEq] at hT
    subst hT
    have e : ws.getD 0 false = ws.headD false := by cases ws <;> rfl
    rw [e]; exact ⟨h.1, fun hw => h.2.1 hw rfl⟩
  | ws, U :: Ts, h, i + 1, T, hT => by
    have e : ws.getD (i + 1) false = ws.tail.getD i false := by cases ws <;> simp
    rw [e]
    exact Wm_get h.2.2 (by simpa using hT)
/-- Slots of the arguments. -/
theorem own_at : ∀ {Ts : List LT} {i j : Nat} {T U : LT}, (ownL Ts).Nodup → Ts[i]? = some T → Ts[j]? = some U → ∀ b ∈ own T, b ∈ own U → i = j
  | [], i, j, T, U, _, hT, _, b, _, _ => by simp at hT
  | V :: Ts, i, j, T, U, hn, hT, hU, b, h1, h2 => by
    simp only [ownL] at hn
    obtain ⟨n1, n2, n3⟩ := List.nodup_append.1 hn
    cases i with
    | zero =>
      simp only [List.getElem?_cons_zero, Option.some.injEq] at hT
      subst hT
      cases j with
      | zero => rfl
      | succ j =>
        exfalso
        exact n3 b h1 b (ownL_mem (List.mem_of_getElem? (by simpa using hU)) b h2) rfl
    | succ i =>
      cases j with
      | zero =>
        simp only [List.getElem?_cons_zero, Option.some.injEq] at hU
        subst hU
        exfalso
        exact n3 b h2 b (ownL_mem (List.mem_of_getElem? (by simpa using hT)) b h1) rfl
      | succ j => exact congrArg (· + 1) (own_at n2 (i := i) (j := j) (by simpa using hT) (by simpa using hU) b h1 h2)
theorem own_nd : ∀ {Ts : List LT}, (ownL Ts).Nodup → ∀ {T : LT}, T ∈ Ts → (own T).Nodup
  | [], _, T, hT => by cases hT
  | U :: Ts, hn, T, hT => by
    simp only [ownL] at hn
    obtain ⟨n1, n2, _⟩ := List.nodup_append.1 hn
    rcases List.mem_cons.1 hT with h | h
    · rw [h]; exact n1
    · exact own_nd n2 h
/-- A function is entered. -/
theorem enter_ok {P : Program} {fn : Func} {ws : List Bool} {Ts : List LT} (hn : Ts.length ≤ fn.ntmps) (hm : MemL w Ts) (hnd : (ownL Ts).Nodup) (hxx : ∀ b ∈ shrL Ts, b ∉ ownL Ts) (hwm : Wm false ws Ts) :
    G P w ⟨ownL Ts, shrL Ts⟩ fn.ntmps (Ts.map valOf) (env0 fn ws Ts) [] [] { tmps := (Ts.map valOf).toArray ++ Array.replicate (fn.ntmps - (Ts.map valOf).toArray.size) undef, defers := [] } w := by
  have hs := env0_slot (ws := ws) hn
  -- what a slot may be
  have key : ∀ i, (∃ T j, Ts[j]? = some T ∧ slot (env0 fn ws Ts) i = .val [] T ∧ (own T ≠ [] → i = fn.ntmps + j)) ∨ (ownA (slot (env0 fn ws Ts) i) = [] ∧ shrA (slot (env0 fn ws Ts) i) = [] ∧ ∀ w, MemA w (slot (env0 fn ws Ts) i)) := by
    intro i
    rw [hs]
    cases h1 : Ts[i]? with
    | some T =>
      simp only
      cases hw : ws.getD i false with
      | true => right; simp [ownA, shrA, MemA]
      | false => left; exact ⟨T, i, h1, by simp, fun h => absurd ((Wm_get hwm h1).1 hw) h⟩
    | none =>
      simp only
      split
      · rename_i T h2
        split at h2
        · rename_i hle
          cases hw : ws.getD (i - fn.ntmps) false with
          | true => left; exact ⟨T, _, h2, by simp, fun _ => by omega⟩
          | false => right; simp [ownA, shrA, MemA]
        · cases h2
      · right; simp [ownA, shrA, MemA]
  have hown : ∀ i b, b ∈ ownA (slot (env0 fn ws Ts) i) → ∃ T j, Ts[j]? = some T ∧ b ∈ own T ∧ i = fn.ntmps + j := fun i b hb => by
    rcases key i with ⟨T, j, h1, h2, h3⟩ | ⟨h1, _⟩
    · rw [h2] at hb
      have hb : b ∈ own T := hb
      exact ⟨T, j, h1, hb, h3 fun h => by rw [h] at hb; cases hb⟩
    · rw [h1] at hb; cases hb
  have hshr : ∀ i b, b ∈ shrA (slot (env0 fn ws Ts) i) → b ∈ shrL Ts := fun i b hb => by
    rcases key i with ⟨T, j, h1, h2, _⟩ | ⟨_, h1, _⟩
    · rw [h2] at hb; exact shrL_mem (List.mem_of_getElem? h1) b hb
    · rw [h1] at hb; cases hb
  have hownL : ∀ i b, b ∈ ownA (slot (env0 fn ws Ts) i) → b ∈ ownL Ts := fun i b hb => by
    obtain ⟨T, j, h1, h2, _⟩ := hown i b hb
    exact ownL_mem (List.mem_of_getElem? h1) b h2
  refine ⟨rfl, by simp; omega, by simp [env0]; omega, fun i hi => ?_, fun j v hj => ?_, fun i => ?_, trivial, ⟨fun i => ?_, fun i j b h1 h2 => ?_, fun i b h1 h2 => hxx b (hshr i b h1) (hownL i b h2), fun i j b h1 h2 => absurd (hownL j b h2) (hxx b (hshr i b h1)), List.nodup_nil, (fun i b hx => by cases hx), (fun i b _ hx => by cases hx), (fun b hx => by cases hx), (fun j b hx => by cases hx)⟩, fun i b hb => .inl (hownL i b hb), (fun b hb => by cases hb), ⟨rfl, rfl, rfl, Nat.le_refl _, fun _ _ _ => rfl⟩, fun i b hb => .inl (hshr i b hb), (fun b hb => by cases hb)⟩
  · rw [hs]
    cases h1 : Ts[i]? with
    | none =>
      simp only [if_neg (show ¬ fn.ntmps ≤ i by omega)]
      trivial
    | some T =>
      have hlt : i < Ts.length := (List.getElem?_eq_some_iff.1 h1).1
      have hv : ((Ts.map valOf).toArray ++ Array.replicate (fn.ntmps - (Ts.map valOf).toArray.size) undef).getD i undef = valOf T := by
        have h2 := (List.getElem?_eq_some_iff.1 h1).2
        simp [Array.getD_eq_getD_getElem?, Array.getElem?_append, hlt, h2]
      simp only [hv]
      cases hw : ws.getD i false with
      | false => simp [SlotOk]
      | true =>
        simp only [if_true]
        intro deps t ht
        rw [hs] at ht
        rw [List.getElem?_eq_none (by omega)] at ht
        simp only [if_pos (Nat.le_add_right _ _), Nat.add_sub_cancel_left, h1, hw, if_true] at ht
        cases ht
        exact ⟨trivial, rfl, fun _ => (Wm_get hwm h1).2 hw⟩
  · rw [hs]
    have h0 : Ts[fn.ntmps + j]? = none := List.getElem?_eq_none (by
      have : j < Ts.length := by have := (List.getElem?_eq_some_iff.1 hj).1; simpa using this
      omega)
    rw [h0]
    simp only [if_pos (Nat.le_add_right _ _), Nat.add_sub_cancel_left]
    rw [List.getElem?_map] at hj
    cases h1 : Ts[j]? with
    | none => rw [h1] at hj; cases hj
    | some T =>
      rw [h1] at hj
      simp only [Option.map_some, Option.some.injEq] at hj
      simp only
      split
      · exact hj.symm
      · trivial
  · rcases key i with ⟨T, j, h1, h2, _⟩ | ⟨_, _, h3⟩
    · rw [h2]; exact memL_iff.1 hm T (List.mem_of_getElem? h1)
    · exact h3 w
  · rcases key i with ⟨T, j, h1, h2, _⟩ | ⟨h1, _⟩
    · rw [h2]; exact own_nd hnd (List.mem_of_getElem? h1)
    · rw [h1]; exact List.nodup_nil
  · obtain ⟨T, i', h3, h4, rfl⟩ := hown i b h1
    obtain ⟨U, j', h5, h6, rfl⟩ := hown j b h2
    rw [own_at hnd h3 h5 b h4 h6]
end Go.Tree

/- Trees of values: what a function hands back; all functions. -/
namespace Go.Tree
set_option linter.unusedSectionVars false
set_option linter.unusedVariables false
set_option linter.unusedSimpArgs false
variable {P : Program} {w0 : World} {F : Fm} {nt : Nat} {H : List Value} {L : List (AV Value)} {XD : List Nat} {X : List LT} {a : Act} {w : World} {α : Type} {res : α}
variable [Pol]
/-- Trees that stand in hidden slots, one behind the other. -/
def At (L : List (AV Value)) (nt : Nat) : Nat → List LT → Prop
  | _, [] => True
  | j, V :: Vs => ∃ i d, j ≤ i ∧ slot L (nt + i) = .val d V ∧ (∀ x ∈ d, x < nt) ∧ At L nt (i + 1) Vs
theorem At.mono : ∀ {Vs : List LT} {i j : Nat}, i ≤ j → At L nt j Vs → At L nt i Vs
  | [], _, _, _, _ => trivial
  | V :: Vs, i, j, h, ⟨k, d, h1, h2⟩ => ⟨k, d, Nat.le_trans h h1, h2⟩
theorem At.mem : ∀ {Vs : List LT} {j : Nat}, At L nt j Vs → ∀ V ∈ Vs, ∃ i d, j ≤ i ∧ slot L (nt + i) = .val d V ∧ ∀ x ∈ d, x < nt
  | [], _, _, V, hV => by cases hV
  | U :: Vs, j, ⟨k, d, h1, h2, hd, h3⟩, V, hV => by
    rcases List.mem_cons.1 hV with h | h
    · exact ⟨k, d, h1, by rw [h]; exact h2, hd⟩
    · obtain ⟨i, d', h4, h5⟩ := h3.mem V h
      exact ⟨i, d', by omega, h5⟩
theorem At.own {Vs : List LT} {j : Nat} (h : At L nt j Vs) {b : Nat} (hb : b ∈ ownL Vs) : ∃ i, j ≤ i ∧ b ∈ ownA (slot L (nt + i)) := by
  rw [ownL_eq] at hb
  obtain ⟨V, hV, hb⟩ := List.mem_flatMap.1 hb
  obtain ⟨i, d, h1, h2, _⟩ := h.mem V hV
  exact ⟨i, h1, by rw [h2]; exact hb⟩
theorem At.shr' {Vs : List LT} {j : Nat} (h : At L nt j Vs) {b : Nat} (hb : b ∈ shrL Vs) : ∃ i d V, slot L (nt + i) = .val d V ∧ (∀ x ∈ d, x < nt) ∧ b ∈ Tree.shr V := by
  rw [shrL_eq] at hb
  obtain ⟨V, hV, hb⟩ := List.mem_flatMap.1 hb
  obtain ⟨i, d, h1, h2, hd⟩ := h.mem V hV
  exact ⟨i, d, V, h2, hd, hb⟩
theorem At.nodup (dj : Dj L XD X) : ∀ {Vs : List LT} {j : Nat}, At L nt j Vs → (ownL Vs).Nodup
  | [], _, _ => List.nodup_nil
  | V :: Vs, j, ⟨k, d, h1, h2, hd, h3⟩ => by
    simp only [ownL]
    refine List.nodup_append.2 ⟨by have := dj.nd (nt + k); rw [h2] at this; exact this, h3.nodup dj, fun b hb c hc hbc => ?_⟩
    subst hbc
    obtain ⟨i, h4, h5⟩ := h3.own hc
    have := dj.dj (nt + k) (nt + i) b (by rw [h2]; exact hb) h5
    omega
theorem lent_nil' : ∀ (cs : List Bool) (Ts : List LT), Lent [] cs Ts []
  | _, [] => rfl
  | cs, T :: Ts => .inr ⟨.inl rfl, lent_nil' cs.tail Ts⟩
theorem fins_ok {Ts0 : List LT} {w' : World} (g : G P w0 F nt (Ts0.map valOf) L XD X a w') (hm : MemL w0 Ts0) {ws0 : List Bool} (hwm : Wm false ws0 Ts0) : ∀ (ws cs : List Bool) (Ts : List LT) (j : Nat) (us : List TV), Ts = Ts0.drop j → ws = ws0.drop j → ws.length ≤ Ts.length → fins (L.map erA) nt ws cs j = some us →
    ∃ Vs, us = Vs.map er ∧ Lent ws cs Ts Vs ∧ At L nt j Vs
  | [], cs, Ts, j, us, _, _, _, h => by
    simp only [fins, Option.some.injEq] at h
    exact ⟨[], by rw [← h]; rfl, lent_nil' cs Ts, trivial⟩
  | false :: ws, cs, Ts, j, us, hT, hw, hl, h => by
    cases Ts with
    | nil => simp at hl
    | cons T Ts =>
      simp only [fins] at h
      obtain ⟨Vs, h1, h2, h3⟩ := fins_ok g hm hwm ws cs.tail Ts (j + 1) us (by have := congrArg List.tail hT; simpa using this) (by have := congrArg List.tail hw; simpa using this) (by simpa using hl) h
      exact ⟨Vs, h1, .inr ⟨.inl rfl, h2⟩, h3.mono (by omega)⟩
  | true :: ws, cs, Ts, j, us, hT, hw, hl, h => by
    cases Ts with
    | nil => simp at hl
    | cons T Ts =>
      have hT' : Ts = Ts0.drop (j + 1) := by have := congrArg List.tail hT; simpa using this
      have hw' : ws = ws0.drop (j + 1) := by have := congrArg List.tail hw; simpa using this
      have hl' : ws.length ≤ Ts.length := by simpa using hl
      simp only [fins] at h
      cases hc : cs.headD false with
      | true =>
        rw [hc] at h
        simp only [if_true] at h
        obtain ⟨Vs, h1, h2, h3⟩ := fins_ok g hm hwm ws cs.tail Ts (j + 1) us hT' hw' hl' h
        exact ⟨Vs, h1, .inr ⟨.inr hc, h2⟩, h3.mono (by omega)⟩
      | false =>
        rw [hc] at h
        simp only [Bool.false_eq_true, if_false] at h
        rw [slot_er] at h
        split at h
        · rename_i d t ht
          obtain ⟨V, e, rfl⟩ := erA_val ht
          cases hda : (d.all fun x => decide (x < nt)) with
          | false => rw [hda] at h; cases h
          | true =>
          rw [hda, cond_true] at h
          have hdl : ∀ x ∈ d, x < nt := fun x hx => of_decide_eq_true (List.all_eq_true.1 hda x hx)
          obtain ⟨us', h', rfl⟩ := Option.map_eq_some_iff.1 h
          obtain ⟨Vs, h1, h2, h3⟩ := fins_ok g hm hwm ws cs.tail Ts (j + 1) us' hT' hw' hl' h'
          have hTj : Ts0[j]? = some T := by
            have : (Ts0.drop j)[0]? = some T := by rw [← hT]; rfl
            simpa using this
          have hwj : ws0.getD j false = true := by
            have : (ws0.drop j)[0]? = some true := by rw [← hw]; rfl
            have h5 : ws0[j]? = some true := by simpa using this
            simp [List.getD_eq_getElem?_getD, h5]
          have hh := g.hid j (valOf T) (by rw [List.getElem?_map, hTj]; rfl)
          rw [e] at hh
          have hh : valOf T = valOf V := hh
          have hmV := g.mem (nt + j)
          rw [e] at hmV
          exact ⟨V :: Vs, by rw [h1]; rfl, .inl ⟨rfl, hc, V, Vs, rfl, hh.symm, h2⟩, j, d, Nat.le_refl _, e, hdl, h3⟩
        · cases h
end Go.Tree

/- Trees of values: every function does what the evaluator says. -/
namespace Go.Tree
set_option linter.unusedSectionVars false
set_option linter.unusedVariables false
set_option linter.unusedSimpArgs false
variable {w0 : World} {F : Fm} {nt : Nat} {H : List Value} {L : List (AV Value)} {XD : List Nat} {X : List LT} {a : Act} {w : World} {α : Type} {res : α}
section
variable [Pol]
/-- A function is left. -/
theorem leave_ok {cx : Ctx} {f : FuncId} {fn : Func} {Ts : List LT} (hm : MemL w Ts) (hwm : Wm false (cx.sig f).wm Ts) (hl : (cx.sig f).wm.length ≤ Ts.length) {r : Res} {e : Ex} (he : ∀ i, e ≠ .exit i) {w' : World}
    (h : Nxt cx.P w ⟨ownL Ts, shrL Ts⟩ fn.ntmps (Ts.map valOf) (resK cx f fn e) r a w') : a.defers = [] ∧ ∃ v, (results fn a.tmps).run cx.P w' = .ok v w' ∧ Post (cx.sig f) Ts w r v w' := by
  obtain ⟨L, g, h⟩ := h
  refine ⟨g.defers, ?_⟩
  have h : (takeRes cx.P fn.ntmps [] (L.map erA) fn.results.toList fun deps ts env =>
      (fins env fn.ntmps (cx.sig f).wm (cx.sig f).cm 0).bind fun us =>
        if deps.isEmpty || (!(ts.any hasOwn) && deps.all fun d => decide (d < fn.ntmps)) then some (ts, us) else none) = some r := by
    cases e with
    | exit i => exact absurd rfl (he i)
    | normal => exact h
    | ret => exact h
  · obtain ⟨D, Rs, L', h, g', hv⟩ := takeRes_ok _ g h
    rw [List.nil_append] at g'
    obtain ⟨us, hus, h⟩ := Option.bind_eq_some_iff.1 h
    obtain ⟨Vs, rfl, hlent, hat⟩ := fins_ok g' hm hwm _ _ Ts 0 us rfl rfl hl hus
    split at h
    · rename_i hc
      simp only [Option.some.injEq] at h
      subst h
      -- results lead into no lent argument
      have hno : ∀ i b, b ∈ shrL Rs → b ∈ ownA (slot L' (fn.ntmps + i)) → False := fun i b h1 h2 => by
        have := g'.dj.xd _ b h1 h2
        simp only [Bool.or_eq_true, Bool.and_eq_true, List.isEmpty_iff] at hc
        rcases hc with hc | hc
        · rw [hc] at this; cases this
        · have := of_decide_eq_true (List.all_eq_true.1 hc.2 _ this)
          omega
      refine ⟨retV Rs, results_ok hv, Rs, Vs, rfl, rfl, rfl, memL_iff.2 fun x hx => ?_, ?_, fun b hb hb' => ?_, fun b hb => ?_, fun b hb => ?_, g'.fr, hlent⟩
      · rcases List.mem_append.1 hx with hx | hx
        · exact memL_iff.1 g'.memX x hx
        · obtain ⟨i, _, _, h1, _⟩ := hat.mem x hx
          have := g'.mem (fn.ntmps + i)
          rw [h1] at this; exact this
      · rw [ownL_append]
        refine List.nodup_append.2 ⟨g'.dj.xn, hat.nodup g'.dj, fun b hb c hc' hbc => ?_⟩
        subst hbc
        obtain ⟨i, _, h1⟩ := hat.own hc'
        exact g'.dj.xo _ b hb h1
      · rw [shrL_append] at hb
        rw [ownL_append] at hb'
        rcases List.mem_append.1 hb with hb | hb <;> rcases List.mem_append.1 hb' with hb' | hb'
        · exact g'.dj.xx b hb hb'
        · obtain ⟨i, _, h1⟩ := hat.own hb'
          exact hno i b hb h1
        · obtain ⟨i, _, V, h1, _, h2⟩ := hat.shr' hb
          exact g'.dj.xs _ b (by rw [h1]; exact h2) hb'
        · obtain ⟨i, d, V, h1, hd, h2⟩ := hat.shr' hb
          obtain ⟨j, _, h3⟩ := hat.own hb'
          have := g'.dj.sh _ _ b (by rw [h1]; exact h2) h3
          rw [h1] at this
          have := hd _ this
          omega
      · rw [ownL_append] at hb
        rcases List.mem_append.1 hb with hb | hb
        · exact g'.mineX b hb
        · obtain ⟨i, _, h1⟩ := hat.own hb
          exact g'.mine _ b h1
      · rw [shrL_append] at hb
        rcases List.mem_append.1 hb with hb | hb
        · exact g'.seesX b hb
        · obtain ⟨i, _, V, h1, _, h2⟩ := hat.shr' hb
          exact g'.sees _ b (by rw [h1]; exact h2)
    · cases h
end
/-- Contracts that are given by hand hold. -/
def GivenOk (cx : Ctx) : Prop := ∀ (f : FuncId) (k : List TV → Option Res), cx.given f = some k → ∀ (Ts : List LT) (w : World) (r : Res), k (Ts.map er) = some r → MemL w Ts → (ownL Ts).Nodup → (∀ b ∈ shrL Ts, b ∉ ownL Ts) → Wm (cx.sig f).sm (cx.sig f).wm Ts →
    Calls cx.P f (Ts.map valOf).toArray w fun | .returned v, w' => Post (cx.sig f) Ts w r v w' | _, _ => False
theorem tcall_ok {cx : Ctx} (hG : GivenOk cx) (hN : ∀ (f : FuncId) (fn : Func), cx.P.funcs[f]? = some fn → (fn.name == "runtime.NumGoroutine") = false) (hmo : cx.P.follows .mixedOrders = true) : ∀ n, CallsOk cx.P cx.sig (tcall cx n)
  | 0, f, Ts, w, r, h, _, _, _, _ => by cases h
  | n + 1, f, Ts, w, r, h, hm, hnd, hxx, hwm => by
    simp only [tcall] at h
    split at h
    · rename_i k hk
      exact hG f k hk Ts w r h hm hnd hxx hwm
    · split at h
      · rename_i fn hfn
        split at h
        · rename_i c hc
          split at h
          · rename_i hcond
            obtain ⟨h1, h2, h3, h4⟩ := hcond
            rw [h4] at hwm
            letI := cx.pol f
            simp only [List.length_map] at h1 h2
            rw [← env0_er] at h
            refine calls_of_wp hfn hc (ev_ok (evOp_ok (tcall_ok hG hN hmo n) hN hmo) hmo c h3 (enter_ok h1 hm hnd hxx hwm) h ⟨fun a' w' hn => ?_, fun i a' w' hn => ?_, fun a' w' hn => ?_, fun c' a' w' hp => ?_⟩)
            · exact leave_ok hm hwm h2 (fun i hi => by cases hi) hn
            · obtain ⟨L', _, h'⟩ := hn
              cases h'
            · exact leave_ok hm hwm h2 (fun i hi => by cases hi) hn
            · exact hp.2
          · cases h
        · cases h
      · cases h
end Go.Tree

/- Trees of values: program points: what stands there, and the evaluator that stops at points. -/
namespace Go.Tree
set_option linter.unusedVariables false
set_option linter.unusedSectionVars false
abbrev Kt := Ex → Env → Option Res
/-- How many loops stand around. -/
def c5 : List Nat → Nat
  | [] => 0
  | x :: p => bif Nat.beq x 5 then c5 p + 1 else c5 p
theorem c5_ne {x : Nat} (h : x ≠ 5) (p : List Nat) : c5 (x :: p) = c5 p := by
  have : Nat.beq x 5 = false := by
    cases hb : Nat.beq x 5 with
    | false => rfl
    | true => exact absurd (Nat.eq_of_beq_eq_true hb) h
  rw [c5, this]; rfl
theorem c5_five (p : List Nat) : c5 (5 :: p) = c5 p + 1 := rfl
section
variable [Pol]
/-- What stands at a place in a piece of code, and what is behind it: 0, 1: a sequence's parts; 2: a block; 3, 4: a condition's arms; 5: a loop's round (k: the rounds that the loops around have left). -/
noncomputable def contAt (cx : Ctx) (call : FuncId → List TV → Option Res) (f : FuncId) (fn : Func) (n : Nat) (k : Nat → Nat) : Nat → List Nat → Code → Kt → Option (Code × Kt)
  | _, [], c, K => some (c, K)
  | d, 0 :: p, .seq a b, K => contAt cx call f fn n k d p a (fun e env => match e with | .normal => ev cx (evOp cx call) f fn n b K (cutE cx f b env) | e => K e env)
  | d, 1 :: p, .seq _ b, K => contAt cx call f fn n k d p b K
  | d, 2 :: p, .block id c, K => contAt cx call f fn n k d p c (fun e env => match e with | .exit i => if i = id then K .normal env else K (.exit i) env | e => K e env)
  | d, 3 :: p, .cond _ a _, K => contAt cx call f fn n k d p a K
  | d, 4 :: p, .cond _ _ b, K => contAt cx call f fn n k d p b K
  | d, 5 :: p, .loop c, K => contAt cx call f fn n k (d + 1) p c (fun e env => match e with | .normal => evLoop (ev cx (evOp cx call) f fn n c) (havoc (cx.keep f (firstRegion c))) (k d) K (havoc (cx.keep f (firstRegion c)) env) | e => K e env)
  | _, _, _, _ => none
/-- How many operations are still to come. -/
def left (ops : Array Oper) (listed : Array Bool) : Nat := ((List.range ops.size).filter fun i => !listed.getD i true).length
/-- A region whose order is drawn, up to where there is a choice. -/
noncomputable def evAnyS (cx : Ctx) (call : FuncId → List TV → Option Res) (rg : Array Bool → Env → Option Res) (fn : Func) (ops : Array Oper) : Nat → Array Bool → Env → (Env → Option Res) → Option Res
  | 0, listed, env, K => match Region.ready .any ops listed with | [] => K env | _ => none
  | n + 1, listed, env, K =>
    match Region.ready .any ops listed with
    | [] => K env
    | rs =>
      match rs.find? (first ops listed) with
      | some i => match ops[i]? with
        | some o => evOne (evOp cx call) fn ops o env fun env => evAnyS cx call rg fn ops n (listed.setIfInBounds i true) env K
        | none => none
      | none => match rs with
        | [i] => (match ops[i]? with
          | some o => evOne (evOp cx call) fn ops o env fun env => evAnyS cx call rg fn ops n (listed.setIfInBounds i true) env K
          | none => none)
        | rs => amb (rs.map fun i => match ops[i]? with
          | some o => evOne (evOp cx call) fn ops o env fun env => rg (listed.setIfInBounds i true) env
          | none => none)
theorem left_set {ops : Array Oper} {listed : Array Bool} {i : Nat} (hi : i ∈ Region.ready .any ops listed) : left ops (listed.setIfInBounds i true) + 1 = left ops listed := by
  unfold Region.ready at hi
  simp only [List.mem_filter, List.mem_range, Bool.and_eq_true, Bool.not_eq_true'] at hi
  obtain ⟨hlt, hl, _⟩ := hi
  have hsz : i < listed.size := by
    rcases Nat.lt_or_ge i listed.size with h | h
    · exact h
    · simp [Array.getD, Nat.not_lt.2 h] at hl
  have e : ∀ j, (listed.setIfInBounds i true).getD j true = if i = j then true else listed.getD j true := fun j => by
    by_cases c : i = j
    · subst c; simp [Array.getD, hsz]
    · rw [if_neg c, Array.getD_eq_getD_getElem?, Array.getD_eq_getD_getElem?, Array.getElem?_setIfInBounds, if_neg c]
  have key : ∀ l : List Nat, l.Nodup → i ∈ l → (l.filter fun j => !(listed.setIfInBounds i true).getD j true).length + 1 = (l.filter fun j => !listed.getD j true).length := fun l => by
    induction l with
    | nil => intro _ h; cases h
    | cons x l ih =>
      intro hnd hm
      obtain ⟨hx, hnd⟩ := List.nodup_cons.1 hnd
      by_cases c : i = x
      · subst c
        have : (l.filter fun j => !(listed.setIfInBounds i true).getD j true) = l.filter fun j => !listed.getD j true := List.filter_congr fun j hj => by
          have hne : i ≠ j := fun h => hx (by rw [h]; exact hj)
          rw [e, if_neg hne]
        rw [List.filter_cons, List.filter_cons, e, if_pos rfl, hl, this]
        simp
      · have hm' : i ∈ l := (List.mem_cons.1 hm).resolve_left c
        have := ih hnd hm'
        rw [List.filter_cons, List.filter_cons, e, if_neg c]
        split
        · simp only [List.length_cons]; omega
        · exact this
  exact key _ List.nodup_range (List.mem_range.2 hlt)
theorem evAnyS_eq (cx : Ctx) (call : FuncId → List TV → Option Res) (fn : Func) (ops : Array Oper) (K : Env → Option Res) : ∀ (n : Nat) (listed : Array Bool) (env : Env), n = left ops listed →
    evAny (evOp cx call) fn ops n listed env K = evAnyS cx call (fun l e => evAny (evOp cx call) fn ops (left ops l) l e K) fn ops n listed env K
  | 0, listed, env, _ => rfl
  | n + 1, listed, env, h => by
    have hstep : ∀ i ∈ Region.ready .any ops listed, n = left ops (listed.setIfInBounds i true) := fun i hi => by
      have := left_set hi
      omega
    simp only [evAny, evAnyS]
    cases hr : Region.ready .any ops listed with
    | nil => rfl
    | cons r rs =>
      simp only
      rw [hr] at hstep
      cases hf : (r :: rs).find? (first ops listed) with
      | some i =>
        have hi := List.mem_of_find?_eq_some hf
        simp only
        cases ops[i]? with
        | none => rfl
        | some o =>
          simp only
          congr 1
          funext env'
          exact evAnyS_eq cx call fn ops K n _ env' (hstep i hi)
      | none =>
        simp only
        cases rs with
        | nil =>
          simp only [List.map_cons, List.map_nil, amb]
          cases ops[r]? with
          | none => rfl
          | some o =>
            simp only
            congr 1
            funext env'
            exact evAnyS_eq cx call fn ops K n _ env' (hstep r (by simp))
        | cons r' rs =>
          simp only
          congr 1
          refine List.map_congr_left fun i hi => ?_
          cases ops[i]? with
          | none => rfl
          | some o =>
            simp only
            congr 1
            funext env'
            rw [← hstep i hi]
theorem left_all (ops : Array Oper) : ops.size = left ops (Array.replicate ops.size false) := by
  unfold left
  rw [List.filter_eq_self.2, List.length_range]
  intro i hi
  simp [Array.getD, List.mem_range.1 hi]
/-- The evaluator that stops at points. -/
noncomputable def evS (cx : Ctx) (call : FuncId → List TV → Option Res) (hd pt : List Nat → Env → Option Res) (rg : List Nat → Array Bool → Env → Option Res) (f : FuncId) (fn : Func) : Code → List Nat → Kt → Env → Option Res
  | .skip, _, K, env => K .normal env
  | .region id ops draw, p, K, env =>
    match draw with
    | true => bif (cx.cut f (id + 500)).isSome then evAnyS cx call (rg p) fn ops ops.size (Array.replicate ops.size false) env (K .normal) else evAny (evOp cx call) fn ops ops.size (Array.replicate ops.size false) env (K .normal)
    | false => evList (evOp cx call) fn ops ops.toList env (K .normal)
  | .seq a b, p, K, env => evS cx call hd pt rg f fn a (p ++ [0]) (fun e env => match e with
    | .normal => (match cx.cut f (firstRegion b) with | some ks => pt (p ++ [1]) (havoc ks env) | none => evS cx call hd pt rg f fn b (p ++ [1]) K env)
    | e => K e env) env
  | .cond c a b, p, K, env =>
    match flatO env c with
    | some (.bool t) => bif t then evS cx call hd pt rg f fn a (p ++ [3]) K env else evS cx call hd pt rg f fn b (p ++ [4]) K env
    | _ => none
  | .block id c, p, K, env => evS cx call hd pt rg f fn c (p ++ [2]) (fun e env => match e with | .exit i => if i = id then K .normal env else K (.exit i) env | e => K e env) env
  | .loop c, p, _, env => hd p (havoc (cx.keep f (firstRegion c)) env)
  | .exit id, _, K, env => K (.exit id) env
  | .ret, _, K, env => K .ret env
  | _, _, _, _ => none
/-- What stands at a place, with points. 'done': the way so far. -/
noncomputable def contS (cx : Ctx) (call : FuncId → List TV → Option Res) (hd hb pt : List Nat → Env → Option Res) (rg : List Nat → Array Bool → Env → Option Res) (f : FuncId) (fn : Func) : List Nat → List Nat → Code → Kt → Option (Code × Kt)
  | _, [], c, K => some (c, K)
  | z, 0 :: p, .seq a b, K => contS cx call hd hb pt rg f fn (z ++ [0]) p a (fun e env => match e with
    | .normal => (match cx.cut f (firstRegion b) with | some ks => pt (z ++ [1]) (havoc ks env) | none => evS cx call hd pt rg f fn b (z ++ [1]) K env)
    | e => K e env)
  | z, 1 :: p, .seq _ b, K => contS cx call hd hb pt rg f fn (z ++ [1]) p b K
  | z, 2 :: p, .block id c, K => contS cx call hd hb pt rg f fn (z ++ [2]) p c (fun e env => match e with | .exit i => if i = id then K .normal env else K (.exit i) env | e => K e env)
  | z, 3 :: p, .cond _ a _, K => contS cx call hd hb pt rg f fn (z ++ [3]) p a K
  | z, 4 :: p, .cond _ _ b, K => contS cx call hd hb pt rg f fn (z ++ [4]) p b K
  | z, 5 :: p, .loop c, K => contS cx call hd hb pt rg f fn (z ++ [5]) p c (fun e env => match e with | .normal => hb z (havoc (cx.keep f (firstRegion c)) env) | e => K e env)
  | _, _, _, _ => none

theorem contAt_append (cx : Ctx) (call : FuncId → List TV → Option Res) (f : FuncId) (fn : Func) (n : Nat) (k : Nat → Nat) (q : List Nat) : ∀ (p : List Nat) (d : Nat) (c : Code) (K : Kt),
    contAt cx call f fn n k d (p ++ q) c K = (contAt cx call f fn n k d p c K).bind fun r => contAt cx call f fn n k (d + c5 p) q r.1 r.2
  | [], d, c, K => by simp [contAt, c5]
  | x :: p, d, c, K => by
    rw [List.cons_append]
    by_cases h5 : x = 5
    · subst h5
      cases c <;> simp only [contAt, Option.bind_none] <;> (try rfl)
      rw [contAt_append cx call f fn n k q p, c5_five, Nat.add_right_comm, Nat.add_assoc]
    · have e5 : c5 (x :: p) = c5 p := c5_ne h5 p
      rw [e5]
      rcases Nat.lt_or_ge x 5 with h | h
      · rcases (show x = 0 ∨ x = 1 ∨ x = 2 ∨ x = 3 ∨ x = 4 by omega) with rfl | rfl | rfl | rfl | rfl <;> cases c <;> simp only [contAt, Option.bind_none] <;> first | rfl | exact contAt_append cx call f fn n k q p _ _ _
      · obtain ⟨y, rfl⟩ : ∃ y, x = y + 6 := ⟨x - 6, by omega⟩
        cases c <;> rfl
theorem contAt_congr (cx : Ctx) (call : FuncId → List TV → Option Res) (f : FuncId) (fn : Func) (n : Nat) (k k' : Nat → Nat) : ∀ (p : List Nat) (d : Nat) (c : Code) (K : Kt), (∀ i, d ≤ i → i < d + c5 p → k i = k' i) →
    contAt cx call f fn n k d p c K = contAt cx call f fn n k' d p c K
  | [], d, c, K, _ => by simp [contAt]
  | x :: p, d, c, K, h => by
    by_cases h5 : x = 5
    · subst h5
      cases c <;> simp only [contAt] <;> (try rfl)
      rw [h d (Nat.le_refl _) (by rw [c5_five]; omega)]
      exact contAt_congr cx call f fn n k k' p _ _ _ fun i h1 h2 => h i (by omega) (by rw [c5_five]; omega)
    · have e5 : c5 (x :: p) = c5 p := c5_ne h5 p
      rw [e5] at h
      rcases Nat.lt_or_ge x 5 with hx | hx
      · rcases (show x = 0 ∨ x = 1 ∨ x = 2 ∨ x = 3 ∨ x = 4 by omega) with rfl | rfl | rfl | rfl | rfl <;> cases c <;> simp only [contAt] <;> first | rfl | exact contAt_congr cx call f fn n k k' p _ _ _ h
      · obtain ⟨y, rfl⟩ : ∃ y, x = y + 6 := ⟨x - 6, by omega⟩
        cases c <;> rfl
end
/-- A loop's head, with m rounds left. -/
noncomputable def loopAt (cx : Ctx) (n : Nat) (k : Nat → Nat) (f : FuncId) (p : List Nat) (m : Nat) (env : Env) : Option Res :=
  letI := cx.pol f
  match cx.P.funcs[f]? with
  | some fn => match fn.body with
    | some c => match contAt cx (tcall cx n) f fn n k 0 p c (resK cx f fn) with
      | some (.loop c, K) => evLoop (ev cx (evOp cx (tcall cx n)) f fn n c) (havoc (cx.keep f (firstRegion c))) m K env
      | _ => none
    | none => none
  | none => none
/-- A place in a piece of code. -/
noncomputable def ptAt (cx : Ctx) (n : Nat) (k : Nat → Nat) (f : FuncId) (p : List Nat) (env : Env) : Option Res :=
  letI := cx.pol f
  match cx.P.funcs[f]? with
  | some fn => match fn.body with
    | some c => match contAt cx (tcall cx n) f fn n k 0 p c (resK cx f fn) with
      | some (c, K) => ev cx (evOp cx (tcall cx n)) f fn n c K env
      | none => none
    | none => none
  | none => none
/-- A place in a region whose order is drawn. -/
noncomputable def rgAt (cx : Ctx) (n : Nat) (k : Nat → Nat) (f : FuncId) (p : List Nat) (listed : Array Bool) (env : Env) : Option Res :=
  letI := cx.pol f
  match cx.P.funcs[f]? with
  | some fn => match fn.body with
    | some c => match contAt cx (tcall cx n) f fn n k 0 p c (resK cx f fn) with
      | some (.region _ ops true, K) => evAny (evOp cx (tcall cx n)) fn ops (left ops listed) listed env (K .normal)
      | _ => none
    | none => none
  | none => none
/-- The same, up to the next points: a function, a loop's round, a place, a place in a region. -/
noncomputable def rdCall (cx : Ctx) (call : FuncId → List TV → Option Res) (hd pt : List Nat → Env → Option Res) (rg : List Nat → Array Bool → Env → Option Res) (f : FuncId) (args : List TV) : Option Res :=
  letI := cx.pol f
  match cx.given f with
  | some _ => none
  | none => match cx.P.funcs[f]? with
    | some fn => match fn.body with
      | some c => if args.length ≤ fn.ntmps ∧ (cx.sig f).wm.length ≤ args.length ∧ fitCode fn.ntmps c = true ∧ (cx.sig f).sm = false then evS cx call hd pt rg f fn c [] (resK cx f fn) (env0 fn (cx.sig f).wm args) else none
      | none => none
    | none => none
noncomputable def rdPt (cx : Ctx) (call : FuncId → List TV → Option Res) (hd hb pt : List Nat → Env → Option Res) (rg : List Nat → Array Bool → Env → Option Res) (f : FuncId) (p : List Nat) (env : Env) : Option Res :=
  letI := cx.pol f
  match cx.P.funcs[f]? with
  | some fn => match fn.body with
    | some c => match contS cx call hd hb pt rg f fn [] p c (resK cx f fn) with
      | some (c, K) => evS cx call hd pt rg f fn c p K env
      | none => none
    | none => none
  | none => none
noncomputable def rdHd (cx : Ctx) (call : FuncId → List TV → Option Res) (hd hb pt : List Nat → Env → Option Res) (rg : List Nat → Array Bool → Env → Option Res) (f : FuncId) (p : List Nat) (env : Env) : Option Res :=
  letI := cx.pol f
  match cx.P.funcs[f]? with
  | some fn => match fn.body with
    | some c => match contS cx call hd hb pt rg f fn [] p c (resK cx f fn) with
      | some (.loop c, K) => evS cx call hd pt rg f fn c (p ++ [5]) (fun e env => match e with | .normal => hb p (havoc (cx.keep f (firstRegion c)) env) | e => K e env) env
      | _ => none
    | none => none
  | none => none

noncomputable def rdRg (cx : Ctx) (call : FuncId → List TV → Option Res) (hd hb pt : List Nat → Env → Option Res) (rg : List Nat → Array Bool → Env → Option Res) (f : FuncId) (p : List Nat) (listed : Array Bool) (env : Env) : Option Res :=
  letI := cx.pol f
  match cx.P.funcs[f]? with
  | some fn => match fn.body with
    | some c => match contS cx call hd hb pt rg f fn [] p c (resK cx f fn) with
      | some (.region _ ops true, K) => evAnyS cx call (rg p) fn ops (left ops listed) listed env (K .normal)
      | _ => none
    | none => none
  | none => none

section
variable {cx : Ctx} {f : FuncId} {fn : Func} {n : Nat} {k : Nat → Nat} {c0 : Code}
noncomputable abbrev hdE (cx : Ctx) (f : FuncId) (n : Nat) (k : Nat → Nat) (p : List Nat) (env : Env) : Option Res := loopAt cx n k f p n env
noncomputable abbrev hdB (cx : Ctx) (f : FuncId) (n : Nat) (k : Nat → Nat) (p : List Nat) (env : Env) : Option Res := loopAt cx n k f p (k (c5 p)) env
noncomputable abbrev ptR (cx : Ctx) (f : FuncId) (n : Nat) (k : Nat → Nat) (p : List Nat) (env : Env) : Option Res := ptAt cx n k f p env
noncomputable abbrev rgR (cx : Ctx) (f : FuncId) (n : Nat) (k : Nat → Nat) (p : List Nat) (listed : Array Bool) (env : Env) : Option Res := rgAt cx n k f p listed env
theorem loopAt_of (hf : cx.P.funcs[f]? = some fn) (hb : fn.body = some c0) {p : List Nat} {c : Code} {K : Kt} (h : @contAt (cx.pol f) cx (tcall cx n) f fn n k 0 p c0 (@resK (cx.pol f) cx f fn) = some (.loop c, K)) (m : Nat) (env : Env) :
    loopAt cx n k f p m env = evLoop (@ev _ cx (@evOp _ (cx.pol f) cx (tcall cx n)) f fn n c) (havoc (cx.keep f (firstRegion c))) m K env := by
  simp only [loopAt, hf, hb, h]
theorem ptAt_of (hf : cx.P.funcs[f]? = some fn) (hb : fn.body = some c0) {p : List Nat} {c : Code} {K : Kt} (h : @contAt (cx.pol f) cx (tcall cx n) f fn n k 0 p c0 (@resK (cx.pol f) cx f fn) = some (c, K)) (env : Env) :
    ptAt cx n k f p env = @ev _ cx (@evOp _ (cx.pol f) cx (tcall cx n)) f fn n c K env := by
  simp only [ptAt, hf, hb, h]
theorem rgAt_of (hf : cx.P.funcs[f]? = some fn) (hb : fn.body = some c0) {p : List Nat} {id : Nat} {ops : Array Oper} {K : Kt} (h : @contAt (cx.pol f) cx (tcall cx n) f fn n k 0 p c0 (@resK (cx.pol f) cx f fn) = some (.region id ops true, K)) (listed : Array Bool) (env : Env) :
    rgAt cx n k f p listed env = @evAny _ (@evOp _ (cx.pol f) cx (tcall cx n)) fn ops (left ops listed) listed env (K .normal) := by
  simp only [rgAt, hf, hb, h]
theorem evS_eq (hf : cx.P.funcs[f]? = some fn) (hb : fn.body = some c0) : ∀ (c : Code) (p : List Nat) (K : Kt), @contAt (cx.pol f) cx (tcall cx n) f fn n k 0 p c0 (@resK (cx.pol f) cx f fn) = some (c, K) → ∀ env,
    @ev _ cx (@evOp _ (cx.pol f) cx (tcall cx n)) f fn n c K env = @evS (cx.pol f) cx (tcall cx n) (hdE cx f n k) (ptR cx f n k) (rgR cx f n k) f fn c p K env := by
  letI := cx.pol f
  have ap : ∀ {p : List Nat} {c : Code} {K : Kt} (q : List Nat), contAt cx (tcall cx n) f fn n k 0 p c0 (resK cx f fn) = some (c, K) → contAt cx (tcall cx n) f fn n k 0 (p ++ q) c0 (resK cx f fn) = contAt cx (tcall cx n) f fn n k (0 + c5 p) q c K := fun q h => by
    rw [contAt_append, h]; rfl
  intro c
  induction c with
  | seq a b iha ihb =>
    intro p K h env
    have h0 := (ap [0] h).trans (by rw [contAt, contAt])
    have h1 := (ap [1] h).trans (by rw [contAt, contAt])
    have := iha _ _ h0 env
    simp only [ev, evS]
    refine Eq.trans this ?_
    congr 1
    funext e env
    cases e with
    | normal =>
      simp only [cutE]
      cases hc : cx.cut f (firstRegion b) with
      | none => exact ihb _ _ h1 env
      | some ks => exact (ptAt_of hf hb h1 _).symm
    | exit i => rfl
    | ret => rfl
  | cond x a b iha ihb =>
    intro p K h env
    have h0 := (ap [3] h).trans (by rw [contAt, contAt])
    have h1 := (ap [4] h).trans (by rw [contAt, contAt])
    simp only [ev, evS]
    cases flatO env x with
    | none => rfl
    | some v =>
      cases v with
      | bool t =>
        cases t with
        | true => exact iha _ _ h0 env
        | false => exact ihb _ _ h1 env
      | _ => rfl
  | block id c ih =>
    intro p K h env
    have h0 := (ap [2] h).trans (by rw [contAt, contAt])
    simp only [ev, evS]
    exact ih _ _ h0 env
  | loop c ih =>
    intro p K h env
    simp only [ev, evS]
    exact (loopAt_of hf hb h n _).symm
  | region id ops draw =>
    intro p K h env
    cases draw with
    | false => rfl
    | true =>
      simp only [ev, evS]
      cases (cx.cut f (id + 500)).isSome with
      | false => rfl
      | true =>
      rw [cond_true, evAnyS_eq cx (tcall cx n) fn ops (K .normal) _ _ env (left_all ops)]
      congr 1
      funext l e
      exact (rgAt_of hf hb h l e).symm
  | _ => intro p K h env; first | rfl | simp only [ev, evS]
theorem contS_eq (hf : cx.P.funcs[f]? = some fn) (hb : fn.body = some c0) : ∀ (p z : List Nat) (c : Code) (K : Kt), @contAt (cx.pol f) cx (tcall cx n) f fn n k 0 z c0 (@resK (cx.pol f) cx f fn) = some (c, K) →
    @contS (cx.pol f) cx (tcall cx n) (hdE cx f n k) (hdB cx f n k) (ptR cx f n k) (rgR cx f n k) f fn z p c K = @contAt (cx.pol f) cx (tcall cx n) f fn n k (c5 z) p c K := by
  letI := cx.pol f
  have ap : ∀ {p : List Nat} {c : Code} {K : Kt} (q : List Nat), contAt cx (tcall cx n) f fn n k 0 p c0 (resK cx f fn) = some (c, K) → contAt cx (tcall cx n) f fn n k 0 (p ++ q) c0 (resK cx f fn) = contAt cx (tcall cx n) f fn n k (0 + c5 p) q c K := fun q h => by
    rw [contAt_append, h]; rfl
  have c5a : ∀ (z : List Nat) (x : Nat), c5 (z ++ [x]) = c5 z + (if x = 5 then 1 else 0) := fun z x => by
    induction z with
    | nil =>
      by_cases h : x = 5
      · subst h; rfl
      · rw [List.nil_append, c5_ne h, if_neg h]; rfl
    | cons y z ih =>
      rw [List.cons_append]
      by_cases h : y = 5
      · subst h; rw [c5_five, c5_five, ih]; omega
      · rw [c5_ne h, c5_ne h, ih]
  intro p
  induction p with
  | nil => intro z c K h; simp only [contS, contAt]
  | cons x p ih =>
    intro z c K h
    by_cases h5 : x = 5
    · subst h5
      cases c with
      | loop c =>
        have h0 := (ap [5] h).trans (by rw [contAt, contAt])
        have e := c5a z 5
        simp only [if_true] at e
        simp only [contS, contAt]
        have hK : (fun (e : Ex) (env : Env) => match e with | .normal => hdB cx f n k z (havoc (cx.keep f (firstRegion c)) env) | e => K e env) = (fun e env => match e with | .normal => evLoop (ev cx (evOp cx (tcall cx n)) f fn n c) (havoc (cx.keep f (firstRegion c))) (k (0 + c5 z)) K (havoc (cx.keep f (firstRegion c)) env) | e => K e env) := by
          funext e env
          cases e with
          | normal => simp only [hdB, Nat.zero_add]; exact loopAt_of hf hb h _ _
          | exit i => rfl
          | ret => rfl
        rw [hK, ih _ _ _ h0, e, Nat.zero_add]
      | _ => simp only [contS, contAt]
    · have e := c5a z x
      simp only [h5, if_false, Nat.add_zero] at e
      rcases Nat.lt_or_ge x 5 with hx | hx
      · rcases (show x = 0 ∨ x = 1 ∨ x = 2 ∨ x = 3 ∨ x = 4 by omega) with rfl | rfl | rfl | rfl | rfl
        · cases c with
          | seq a b =>
            have h0 := (ap [0] h).trans (by rw [contAt, contAt])
            have h1 := (ap [1] h).trans (by rw [contAt, contAt])
            simp only [contS, contAt]
            have hK : (fun (e : Ex) (env : Env) => match e with
                | .normal => (match cx.cut f (firstRegion b) with | some ks => ptR cx f n k (z ++ [1]) (havoc ks env) | none => evS cx (tcall cx n) (hdE cx f n k) (ptR cx f n k) (rgR cx f n k) f fn b (z ++ [1]) K env)
                | e => K e env) = (fun e env => match e with | .normal => ev cx (evOp cx (tcall cx n)) f fn n b K (cutE cx f b env) | e => K e env) := by
              funext e env
              cases e with
              | normal =>
                simp only [cutE]
                cases hc : cx.cut f (firstRegion b) with
                | none => exact (evS_eq hf hb b _ _ h1 env).symm
                | some ks => exact ptAt_of hf hb h1 _
              | exit i => rfl
              | ret => rfl
            rw [hK, ih _ _ _ h0, e]
          | _ => simp only [contS, contAt]
        · cases c with
          | seq a b =>
            have h1 := (ap [1] h).trans (by rw [contAt, contAt])
            simp only [contS, contAt]
            rw [ih _ _ _ h1, e]
          | _ => simp only [contS, contAt]
        · cases c with
          | block id c =>
            have h1 := (ap [2] h).trans (by rw [contAt, contAt])
            simp only [contS, contAt]
            rw [ih _ _ _ h1, e]
          | _ => simp only [contS, contAt]
        · cases c with
          | cond q a b =>
            have h1 := (ap [3] h).trans (by rw [contAt, contAt])
            simp only [contS, contAt]
            rw [ih _ _ _ h1, e]
          | _ => simp only [contS, contAt]
        · cases c with
          | cond q a b =>
            have h1 := (ap [4] h).trans (by rw [contAt, contAt])
            simp only [contS, contAt]
            rw [ih _ _ _ h1, e]
          | _ => simp only [contS, contAt]
      · obtain ⟨y, rfl⟩ : ∃ y, x = y + 6 := ⟨x - 6, by omega⟩
        cases c <;> rfl
theorem rdCall_eq (args : List TV) {r : Res} (h : rdCall cx (tcall cx n) (hdE cx f n k) (ptR cx f n k) (rgR cx f n k) f args = some r) : tcall cx (n + 1) f args = some r := by
  simp only [rdCall] at h
  simp only [tcall]
  split at h
  · cases h
  · rename_i hg
    rw [hg]
    split at h
    · rename_i fn hf
      simp only [hf]
      split at h
      · rename_i c hb
        simp only [hb]
        split at h
        · rename_i hc
          rw [if_pos hc, evS_eq (k := k) hf hb c [] _ rfl]
          exact h
        · cases h
      · cases h
    · cases h
theorem rdPt_eq (p : List Nat) (env : Env) : rdPt cx (tcall cx n) (hdE cx f n k) (hdB cx f n k) (ptR cx f n k) (rgR cx f n k) f p env = ptAt cx n k f p env := by
  simp only [rdPt, ptAt]
  cases hf : cx.P.funcs[f]? with
  | none => rfl
  | some fn =>
    cases hb : fn.body with
    | none => simp only [hb]
    | some c =>
      simp only [hb]
      rw [contS_eq hf hb p [] c _ rfl, show c5 [] = 0 from rfl]
      split
      · rename_i c' K h
        first | exact (evS_eq hf hb c' p K h env).symm | (rw [h]; exact (evS_eq hf hb c' p K h env).symm)
      · rename_i h
        first | rfl | rw [h]
theorem rdHd_eq (p : List Nat) (env : Env) : rdHd cx (tcall cx n) (hdE cx f n k) (hdB cx f n k) (ptR cx f n k) (rgR cx f n k) f p env = loopAt cx n k f p (k (c5 p) + 1) env := by
  simp only [rdHd, loopAt]
  cases hf : cx.P.funcs[f]? with
  | none => rfl
  | some fn =>
    cases hb : fn.body with
    | none => simp only [hb]
    | some c =>
      simp only [hb]
      rw [contS_eq hf hb p [] c _ rfl, show c5 [] = 0 from rfl]
      split
      · rename_i c' K h
        have ha : @contAt (cx.pol f) cx (tcall cx n) f fn n k 0 (p ++ [5]) c (@resK (cx.pol f) cx f fn) = some (c', fun e env => match e with | .normal => evLoop (@ev _ cx (@evOp _ (cx.pol f) cx (tcall cx n)) f fn n c') (havoc (cx.keep f (firstRegion c'))) (k (0 + c5 p)) K (havoc (cx.keep f (firstRegion c')) env) | e => K e env) := by
          rw [@contAt_append (cx.pol f), h]; rfl
        have hs := evS_eq hf hb c' (p ++ [5]) _ ha env
        rw [Nat.zero_add] at hs
        refine Eq.trans ?_ ((hs.symm).trans ?_)
        · congr 1
        · simp only [evLoop]
          congr 1
      · rfl
theorem rdRg_eq (p : List Nat) (listed : Array Bool) (env : Env) : rdRg cx (tcall cx n) (hdE cx f n k) (hdB cx f n k) (ptR cx f n k) (rgR cx f n k) f p listed env = rgAt cx n k f p listed env := by
  simp only [rdRg, rgAt]
  cases hf : cx.P.funcs[f]? with
  | none => rfl
  | some fn =>
    cases hb : fn.body with
    | none => simp only [hb]
    | some c =>
      simp only [hb]
      rw [contS_eq hf hb p [] c _ rfl, show c5 [] = 0 from rfl]
      split
      · rename_i id ops K h
        have e := @evAnyS_eq (cx.pol f) cx (tcall cx n) fn ops (K .normal) _ listed env rfl
        refine Eq.trans ?_ e.symm
        congr 1
        funext l e
        exact rgAt_of hf hb h l e
      · rfl
end
end Go.Tree

/- Trees of values: what stands at a program point, as a piece of data; what it comes to, without fuel. -/
namespace Go.Tree
set_option linter.unusedVariables false
/-- What stands at a point: what is looked at, called, gone on to, answered. -/
inductive Nd where
  | ret (rs us : List TV)
  | non
  | bif (c : Bool) (a b : Nd)
  | ck (c : Bool) (a : Nd)
  | int (k : IntKind) (t : TV) (K : Int → Nd)
  | bool (t : TV) (K : Bool → Nd)
  | str (t : TV) (K : ByteArray → Nd)
  | slR (n : Ek) (t : TV) (K : List TV → Nd)
  | slO (n : Ek) (t : TV) (K : List TV → Nd)
  | slS (n : Ek) (t : TV) (K : List TV → Nd)
  | slB (n : Ek) (t : TV) (K : Bool → List TV → Nd)
  | st (t : TV) (K : List TV → Nd)
  | ptR (t : TV) (N : Nd) (K : TV → Nd)
  | ptO (t : TV) (N : Nd) (K : TV → Nd)
  | ptS (t : TV) (N : Nd) (K : TV → Nd)
  | ptB (t : TV) (N : Nd) (K : Bool → TV → Nd)
  | cons (ts : List TV) (K : TV → List TV → Nd)
  | nil (ts : List TV) (a : Nd)
  | call (f : FuncId) (args : List TV) (K : Res → Nd)
  | head (p : List Nat) (env : Env)
  | back (p : List Nat) (env : Env)
  | go (p : List Nat) (env : Env)
  | rg (p : List Nat) (l : List Bool) (env : Env)
  | isNil (ts : List TV) (a b : Nd)
  | amb2 (a b : Nd)
  | amb3 (a b c : Nd)
  | amb4 (a b c d : Nd)
  | amb5 (a b c d e : Nd)
  | amb6 (a b c d e g : Nd)

section
variable {α : Type}
def mNull (ts : List TV) (A B : Option α) : Option α := match ts with | [] => A | _ :: _ => B
def mSlR (n : Ek) (t : TV) (K : List TV → Option α) : Option α := match t with | .sl r m _ xs => if m = n then K xs else none | _ => none
def mSlO (n : Ek) (t : TV) (K : List TV → Option α) : Option α := match t with | .sl r m _ xs => if m = n then cond r none (K xs) else none | _ => none
def mSlS (n : Ek) (t : TV) (K : List TV → Option α) : Option α := match t with | .sl r m _ xs => if m = n then cond r (K xs) none else none | _ => none
def mSlB (n : Ek) (t : TV) (K : Bool → List TV → Option α) : Option α := match t with | .sl r m _ xs => if m = n then cond r (K true xs) (K false xs) else none | _ => none
def mPtR (t : TV) (N : Option α) (K : TV → Option α) : Option α := match t with | .fl (.pointer none) => N | .pt r _ x => K x | _ => none
def mPtO (t : TV) (N : Option α) (K : TV → Option α) : Option α := match t with | .fl (.pointer none) => N | .pt r _ x => cond r none (K x) | _ => none
def mPtS (t : TV) (N : Option α) (K : TV → Option α) : Option α := match t with | .fl (.pointer none) => N | .pt r _ x => cond r (K x) none | _ => none
def mPtB (t : TV) (N : Option α) (K : Bool → TV → Option α) : Option α := match t with | .fl (.pointer none) => N | .pt r _ x => cond r (K true x) (K false x) | _ => none
end
noncomputable def sem (call : FuncId → List TV → Option Res) (hd hb pt : List Nat → Env → Option Res) (rg : List Nat → Array Bool → Env → Option Res) : Nd → Option Res
  | .ret rs us => some (rs, us)
  | .non => none
  | .bif c a b => cond c (sem call hd hb pt rg a) (sem call hd hb pt rg b)
  | .ck c a => cond c (sem call hd hb pt rg a) none
  | .int k t K => mInt k t fun x => sem call hd hb pt rg (K x)
  | .bool t K => mBool t fun x => sem call hd hb pt rg (K x)
  | .str t K => mStr t fun x => sem call hd hb pt rg (K x)
  | .slR n t K => mSlR n t fun xs => sem call hd hb pt rg (K xs)
  | .slO n t K => mSlO n t fun xs => sem call hd hb pt rg (K xs)
  | .slS n t K => mSlS n t fun xs => sem call hd hb pt rg (K xs)
  | .slB n t K => mSlB n t fun r xs => sem call hd hb pt rg (K r xs)
  | .st t K => mSt t fun xs => sem call hd hb pt rg (K xs)
  | .ptR t N K => mPtR t (sem call hd hb pt rg N) fun x => sem call hd hb pt rg (K x)
  | .ptO t N K => mPtO t (sem call hd hb pt rg N) fun x => sem call hd hb pt rg (K x)
  | .ptS t N K => mPtS t (sem call hd hb pt rg N) fun x => sem call hd hb pt rg (K x)
  | .ptB t N K => mPtB t (sem call hd hb pt rg N) fun r x => sem call hd hb pt rg (K r x)
  | .cons ts K => mCons ts fun t ts => sem call hd hb pt rg (K t ts)
  | .nil ts a => mNil ts (sem call hd hb pt rg a)
  | .call f args K => (call f args).bind fun r => sem call hd hb pt rg (K r)
  | .head p env => hd p env
  | .back p env => hb p env
  | .go p env => pt p env
  | .rg p l env => rg p l.toArray env
  | .isNil ts a b => mNull ts (sem call hd hb pt rg a) (sem call hd hb pt rg b)
  | .amb2 a b => amb [sem call hd hb pt rg a, sem call hd hb pt rg b]
  | .amb3 a b c => amb [sem call hd hb pt rg a, sem call hd hb pt rg b, sem call hd hb pt rg c]
  | .amb4 a b c d => amb [sem call hd hb pt rg a, sem call hd hb pt rg b, sem call hd hb pt rg c, sem call hd hb pt rg d]
  | .amb5 a b c d e => amb [sem call hd hb pt rg a, sem call hd hb pt rg b, sem call hd hb pt rg c, sem call hd hb pt rg d, sem call hd hb pt rg e]
  | .amb6 a b c d e g => amb [sem call hd hb pt rg a, sem call hd hb pt rg b, sem call hd hb pt rg c, sem call hd hb pt rg d, sem call hd hb pt rg e, sem call hd hb pt rg g]

/-- From some fuel on it is so. -/
def Ev (F : Nat → (Nat → Nat) → Option Res) (r : Res) : Prop := ∃ N, ∀ n k, N ≤ n → (∀ d, N ≤ k d) → F n k = some r
open Classical in
noncomputable def limit (F : Nat → (Nat → Nat) → Option Res) : Option Res := if h : ∃ r, Ev F r then some h.choose else none
theorem Ev.uniq {F : Nat → (Nat → Nat) → Option Res} {r s : Res} : Ev F r → Ev F s → r = s := by
  rintro ⟨N, h⟩ ⟨M, g⟩
  have h1 := h (N + M) (fun _ => N + M) (by omega) (fun _ => by omega)
  have h2 := g (N + M) (fun _ => N + M) (by omega) (fun _ => by omega)
  rw [h1] at h2
  exact Option.some.inj h2
theorem limit_some {F : Nat → (Nat → Nat) → Option Res} {r : Res} : limit F = some r ↔ Ev F r := by
  unfold limit
  constructor
  · intro h
    split at h
    · rename_i hh
      rw [← Option.some.inj h]
      exact hh.choose_spec
    · cases h
  · intro h
    have hh : ∃ r, Ev F r := ⟨r, h⟩
    rw [dif_pos hh]
    exact congrArg some (Ev.uniq hh.choose_spec h)
noncomputable def tw (cx : Ctx) (f : FuncId) (args : List TV) : Option Res := limit fun n _ => tcall cx n f args
noncomputable def hw (cx : Ctx) (f : FuncId) (p : List Nat) (env : Env) : Option Res := limit fun n k => loopAt cx n k f p (k (c5 p)) env
noncomputable def pw (cx : Ctx) (f : FuncId) (p : List Nat) (env : Env) : Option Res := limit fun n k => ptR cx f n k p env
noncomputable def gw (cx : Ctx) (f : FuncId) (p : List Nat) (l : Array Bool) (env : Env) : Option Res := limit fun n k => rgR cx f n k p l env
/-- What a point comes to. -/
noncomputable def S (cx : Ctx) (f : FuncId) (N : Nd) : Option Res := sem (tw cx) (hw cx f) (hw cx f) (pw cx f) (gw cx f) N

theorem Ev.cond {c : Bool} {A B : Option Res} {F G : Nat → (Nat → Nat) → Option Res} {r : Res} (hA : A = some r → Ev F r) (hB : B = some r → Ev G r) (h : cond c A B = some r) : Ev (fun n k => cond c (F n k) (G n k)) r := by
  cases c with
  | true => exact hA h
  | false => exact hB h
theorem Ev.none {F : Nat → (Nat → Nat) → Option Res} {r : Res} (h : (none : Option Res) = some r) : Ev F r := by cases h
theorem loopAt_upd (cx : Ctx) (n m : Nat) (k : Nat → Nat) (f : FuncId) (p : List Nat) (r : Nat) (env : Env) : loopAt cx n (fun i => if i = c5 p then m else k i) f p r env = loopAt cx n k f p r env := by
  unfold loopAt
  have : ∀ (P : Pol) (fn : Func) (c : Code), @contAt P cx (tcall cx n) f fn n (fun i => if i = c5 p then m else k i) 0 p c (@resK P cx f fn) = @contAt P cx (tcall cx n) f fn n k 0 p c (@resK P cx f fn) := fun P fn c => @contAt_congr P cx _ f fn n _ _ p 0 c _ fun i _ h => by
    rw [if_neg (by omega)]
  simp only [this]
theorem amb_all {α : Type} {x : Option α} {xs : List (Option α)} {r : α} (h : amb (x :: xs) = some r) : x = some r ∧ ∀ y ∈ xs, y = some r := by
  cases xs with
  | nil => exact ⟨h, fun y hy => by cases hy⟩
  | cons y ys =>
    simp only [amb] at h
    split at h
    · rename_i hh
      exact ⟨h, fun z hz => (hh z hz).trans h⟩
    · cases h
theorem amb_of {α : Type} {x : Option α} {xs : List (Option α)} {r : α} (h : x = some r) (hs : ∀ y ∈ xs, y = some r) : amb (x :: xs) = some r := by
  cases xs with
  | nil => exact h
  | cons y ys =>
    simp only [amb]
    rw [if_pos (fun z hz => (hs z hz).trans h.symm)]
    exact h
theorem sem_ev (cx : Ctx) (f : FuncId) : ∀ (N : Nd) (r : Res), S cx f N = some r → Ev (fun n k => sem (tcall cx n) (hdE cx f n k) (hdB cx f n k) (ptR cx f n k) (rgR cx f n k) N) r
  | .ret rs us, r, h => ⟨0, fun _ _ _ _ => h⟩
  | .non, r, h => by cases h
  | .bif c a b, r, h => Ev.cond (sem_ev cx f a r) (sem_ev cx f b r) h
  | .ck c a, r, h => Ev.cond (sem_ev cx f a r) (fun h => Ev.none h) h
  | .int k t K, r, h => by
    simp only [S, sem, mInt] at h ⊢
    split at h
    · split at h
      · rename_i hk
        simp only [hk, if_true]
        exact sem_ev cx f _ r h
      · cases h
    · cases h
  | .bool t K, r, h => by
    simp only [S, sem, mBool] at h ⊢
    split at h
    · exact sem_ev cx f _ r h
    · cases h
  | .str t K, r, h => by
    simp only [S, sem, mStr] at h ⊢
    split at h
    · exact sem_ev cx f _ r h
    · cases h
  | .slR m t K, r, h => by
    simp only [S, sem, mSlR] at h ⊢
    split at h
    · split at h
      · rename_i hk
        simp only [hk, if_true]
        exact sem_ev cx f _ r h
      · cases h
    · cases h
  | .slO m t K, r, h => by
    simp only [S, sem, mSlO] at h ⊢
    split at h
    · split at h
      · rename_i hk
        simp only [hk, if_true]
        exact Ev.cond (fun h => Ev.none h) (sem_ev cx f _ r) h
      · cases h
    · cases h
  | .slS m t K, r, h => by
    simp only [S, sem, mSlS] at h ⊢
    split at h
    · split at h
      · rename_i hk
        simp only [hk, if_true]
        exact Ev.cond (sem_ev cx f _ r) (fun h => Ev.none h) h
      · cases h
    · cases h
  | .slB m t K, r, h => by
    simp only [S, sem, mSlB] at h ⊢
    split at h
    · split at h
      · rename_i hk
        simp only [hk, if_true]
        exact Ev.cond (sem_ev cx f _ r) (sem_ev cx f _ r) h
      · cases h
    · cases h
  | .st t K, r, h => by
    simp only [S, sem, mSt] at h ⊢
    split at h
    · exact sem_ev cx f _ r h
    · cases h
  | .ptR t N K, r, h => by
    simp only [S, sem, mPtR] at h ⊢
    split at h
    · exact sem_ev cx f _ r h
    · exact sem_ev cx f _ r h
    · cases h
  | .ptO t N K, r, h => by
    simp only [S, sem, mPtO] at h ⊢
    split at h
    · exact sem_ev cx f _ r h
    · exact Ev.cond (fun h => Ev.none h) (sem_ev cx f _ r) h
    · cases h
  | .ptS t N K, r, h => by
    simp only [S, sem, mPtS] at h ⊢
    split at h
    · exact sem_ev cx f _ r h
    · exact Ev.cond (sem_ev cx f _ r) (fun h => Ev.none h) h
    · cases h
  | .ptB t N K, r, h => by
    simp only [S, sem, mPtB] at h ⊢
    split at h
    · exact sem_ev cx f _ r h
    · exact Ev.cond (sem_ev cx f _ r) (sem_ev cx f _ r) h
    · cases h
  | .cons ts K, r, h => by
    simp only [S, sem, mCons] at h ⊢
    split at h
    · exact sem_ev cx f _ r h
    · cases h
  | .nil ts a, r, h => by
    simp only [S, sem, mNil] at h ⊢
    split at h
    · exact sem_ev cx f _ r h
    · cases h
  | .call g args K, r, h => by
    simp only [S, sem] at h ⊢
    obtain ⟨s, hs, h⟩ := Option.bind_eq_some_iff.1 h
    obtain ⟨N, hN⟩ := limit_some.1 hs
    obtain ⟨M, hM⟩ := sem_ev cx f (K s) r h
    refine ⟨N + M, fun n k h1 h2 => ?_⟩
    show (tcall cx n g args).bind _ = some r
    rw [show tcall cx n g args = some s from hN n k (by omega) (fun d => by have := h2 d; omega)]
    exact hM n k (by omega) (fun d => by have := h2 d; omega)
  | .head p env, r, h => by
    obtain ⟨N, hN⟩ := limit_some.1 (show hw cx f p env = some r from h)
    refine ⟨N, fun n k h1 h2 => ?_⟩
    show hdE cx f n k p env = some r
    have := hN n (fun i => if i = c5 p then n else k i) h1 (fun d => by split; exact h1; exact h2 d)
    have this : loopAt cx n (fun i => if i = c5 p then n else k i) f p (if c5 p = c5 p then n else k (c5 p)) env = some r := this
    rw [loopAt_upd, if_pos rfl] at this
    exact this
  | .back p env, r, h => by
    obtain ⟨N, hN⟩ := limit_some.1 (show hw cx f p env = some r from h)
    exact ⟨N, hN⟩
  | .go p env, r, h => by
    obtain ⟨N, hN⟩ := limit_some.1 (show pw cx f p env = some r from h)
    exact ⟨N, hN⟩
  | .rg p l env, r, h => by
    obtain ⟨N, hN⟩ := limit_some.1 (show gw cx f p l.toArray env = some r from h)
    exact ⟨N, hN⟩
  | .isNil ts a b, r, h => by
    simp only [S, sem, mNull] at h ⊢
    split at h
    · exact sem_ev cx f a r h
    · exact sem_ev cx f b r h
  | .amb2 a b, r, h => by
    obtain ⟨h0, hb⟩ := amb_all (show amb [S cx f a, S cx f b] = some r from h)
    obtain ⟨N0, H0⟩ := sem_ev cx f a r h0
    obtain ⟨N1, H1⟩ := sem_ev cx f b r (hb _ (by simp))
    refine ⟨N0 + N1, fun n k h1 h2 => amb_of (H0 n k (by omega) fun d => by have := h2 d; omega) fun y hy => ?_⟩
    simp only [List.mem_cons, List.not_mem_nil, or_false] at hy
    rw [hy]
    exact H1 n k (by omega) fun d => by have := h2 d; omega
  | .amb3 a b c, r, h => by
    obtain ⟨h0, hb⟩ := amb_all (show amb [S cx f a, S cx f b, S cx f c] = some r from h)
    obtain ⟨N0, H0⟩ := sem_ev cx f a r h0
    obtain ⟨N1, H1⟩ := sem_ev cx f b r (hb _ (by simp))
    obtain ⟨N2, H2⟩ := sem_ev cx f c r (hb _ (by simp))
    refine ⟨N0 + N1 + N2, fun n k h1 h2 => amb_of (H0 n k (by omega) fun d => by have := h2 d; omega) fun y hy => ?_⟩
    simp only [List.mem_cons, List.not_mem_nil, or_false] at hy
    rcases hy with hy | hy
    · rw [hy]
      exact H1 n k (by omega) fun d => by have := h2 d; omega
    · rw [hy]
      exact H2 n k (by omega) fun d => by have := h2 d; omega
  | .amb4 a b c d, r, h => by
    obtain ⟨h0, hb⟩ := amb_all (show amb [S cx f a, S cx f b, S cx f c, S cx f d] = some r from h)
    obtain ⟨N0, H0⟩ := sem_ev cx f a r h0
    obtain ⟨N1, H1⟩ := sem_ev cx f b r (hb _ (by simp))
    obtain ⟨N2, H2⟩ := sem_ev cx f c r (hb _ (by simp))
    obtain ⟨N3, H3⟩ := sem_ev cx f d r (hb _ (by simp))
    refine ⟨N0 + N1 + N2 + N3, fun n k h1 h2 => amb_of (H0 n k (by omega) fun d => by have := h2 d; omega) fun y hy => ?_⟩
    simp only [List.mem_cons, List.not_mem_nil, or_false] at hy
    rcases hy with hy | hy | hy
    · rw [hy]
      exact H1 n k (by omega) fun d => by have := h2 d; omega
    · rw [hy]
      exact H2 n k (by omega) fun d => by have := h2 d; omega
    · rw [hy]
      exact H3 n k (by omega) fun d => by have := h2 d; omega
  | .amb5 a b c d e, r, h => by
    obtain ⟨h0, hb⟩ := amb_all (show amb [S cx f a, S cx f b, S cx f c, S cx f d, S cx f e] = some r from h)
    obtain ⟨N0, H0⟩ := sem_ev cx f a r h0
    obtain ⟨N1, H1⟩ := sem_ev cx f b r (hb _ (by simp))
    obtain ⟨N2, H2⟩ := sem_ev cx f c r (hb _ (by simp))
    obtain ⟨N3, H3⟩ := sem_ev cx f d r (hb _ (by simp))
    obtain ⟨N4, H4⟩ := sem_ev cx f e r (hb _ (by simp))
    refine ⟨N0 + N1 + N2 + N3 + N4, fun n k h1 h2 => amb_of (H0 n k (by omega) fun d => by have := h2 d; omega) fun y hy => ?_⟩
    simp only [List.mem_cons, List.not_mem_nil, or_false] at hy
    rcases hy with hy | hy | hy | hy
    · rw [hy]
      exact H1 n k (by omega) fun d => by have := h2 d; omega
    · rw [hy]
      exact H2 n k (by omega) fun d => by have := h2 d; omega
    · rw [hy]
      exact H3 n k (by omega) fun d => by have := h2 d; omega
    · rw [hy]
      exact H4 n k (by omega) fun d => by have := h2 d; omega
  | .amb6 a b c d e g, r, h => by
    obtain ⟨h0, hb⟩ := amb_all (show amb [S cx f a, S cx f b, S cx f c, S cx f d, S cx f e, S cx f g] = some r from h)
    obtain ⟨N0, H0⟩ := sem_ev cx f a r h0
    obtain ⟨N1, H1⟩ := sem_ev cx f b r (hb _ (by simp))
    obtain ⟨N2, H2⟩ := sem_ev cx f c r (hb _ (by simp))
    obtain ⟨N3, H3⟩ := sem_ev cx f d r (hb _ (by simp))
    obtain ⟨N4, H4⟩ := sem_ev cx f e r (hb _ (by simp))
    obtain ⟨N5, H5⟩ := sem_ev cx f g r (hb _ (by simp))
    refine ⟨N0 + N1 + N2 + N3 + N4 + N5, fun n k h1 h2 => amb_of (H0 n k (by omega) fun d => by have := h2 d; omega) fun y hy => ?_⟩
    simp only [List.mem_cons, List.not_mem_nil, or_false] at hy
    rcases hy with hy | hy | hy | hy | hy
    · rw [hy]
      exact H1 n k (by omega) fun d => by have := h2 d; omega
    · rw [hy]
      exact H2 n k (by omega) fun d => by have := h2 d; omega
    · rw [hy]
      exact H3 n k (by omega) fun d => by have := h2 d; omega
    · rw [hy]
      exact H4 n k (by omega) fun d => by have := h2 d; omega
    · rw [hy]
      exact H5 n k (by omega) fun d => by have := h2 d; omega
theorem tw_of {cx : Ctx} {f : FuncId} {args : List TV} {N : Nd} (e : ∀ call hd hb pt rg, rdCall cx call hd pt rg f args = sem call hd hb pt rg N) {r : Res} (h : S cx f N = some r) : tw cx f args = some r := by
  obtain ⟨M, hM⟩ := sem_ev cx f N r h
  refine limit_some.2 ⟨M + 1, fun n k h1 h2 => ?_⟩
  obtain ⟨m, rfl⟩ : ∃ m, n = m + 1 := ⟨n - 1, by omega⟩
  refine rdCall_eq (k := k) args ?_
  rw [e _ _ (hdB cx f m k) _ _]
  exact hM m k (by omega) fun d => by have := h2 d; omega
theorem hw_of {cx : Ctx} {f : FuncId} {p : List Nat} {env : Env} {N : Nd} (e : ∀ call hd hb pt rg, rdHd cx call hd hb pt rg f p env = sem call hd hb pt rg N) {r : Res} (h : S cx f N = some r) : hw cx f p env = some r := by
  obtain ⟨M, hM⟩ := sem_ev cx f N r h
  refine limit_some.2 ⟨M + 1, fun n k h1 h2 => ?_⟩
  have := hM n (fun i => if i = c5 p then k (c5 p) - 1 else k i) (by omega) (fun d => by have := h2 d; have := h2 (c5 p); split <;> omega)
  have h3 := ((rdHd_eq (n := n) (k := fun i => if i = c5 p then k (c5 p) - 1 else k i) p env).symm.trans (e _ _ _ _ _)).trans this
  rw [loopAt_upd] at h3
  simp only [if_true] at h3
  rw [show k (c5 p) - 1 + 1 = k (c5 p) by have := h2 (c5 p); omega] at h3
  exact h3
theorem pw_of {cx : Ctx} {f : FuncId} {p : List Nat} {env : Env} {N : Nd} (e : ∀ call hd hb pt rg, rdPt cx call hd hb pt rg f p env = sem call hd hb pt rg N) {r : Res} (h : S cx f N = some r) : pw cx f p env = some r := by
  obtain ⟨M, hM⟩ := sem_ev cx f N r h
  refine limit_some.2 ⟨M, fun n k h1 h2 => ?_⟩
  exact ((rdPt_eq (n := n) (k := k) p env).symm.trans (e _ _ _ _ _)).trans (hM n k h1 h2)
theorem gw_of {cx : Ctx} {f : FuncId} {p : List Nat} {l : List Bool} {env : Env} {N : Nd} (e : ∀ call hd hb pt rg, rdRg cx call hd hb pt rg f p l.toArray env = sem call hd hb pt rg N) {r : Res} (h : S cx f N = some r) : gw cx f p l.toArray env = some r := by
  obtain ⟨M, hM⟩ := sem_ev cx f N r h
  refine limit_some.2 ⟨M, fun n k h1 h2 => ?_⟩
  exact ((rdRg_eq (n := n) (k := k) p l.toArray env).symm.trans (e _ _ _ _ _)).trans (hM n k h1 h2)
theorem tw_calls {cx : Ctx} (hc : ∀ n, CallsOk cx.P cx.sig (tcall cx n)) : CallsOk cx.P cx.sig (tw cx) := by
  intro f Ts w r h hm hnd hxx hwm
  obtain ⟨N, hN⟩ := limit_some.1 h
  exact hc N f Ts w r (hN N (fun _ => N) (Nat.le_refl _) (fun _ => Nat.le_refl _)) hm hnd hxx hwm
end Go.Tree

/- Trees of values: what pieces of a point come to. -/
namespace Go.Tree
set_option linter.unusedVariables false
set_option linter.unusedSimpArgs false
variable {cx : Ctx} {f : FuncId} {r : Res}
theorem S_ret {rs us : List TV} : S cx f (.ret rs us) = some (rs, us) := rfl
theorem S_bif {c : Bool} {A B : Nd} : S cx f (.bif c A B) = if c = true then S cx f A else S cx f B := by cases c <;> rfl
theorem S_ck {c : Bool} {A : Nd} : S cx f (.ck c A) = if c = true then S cx f A else none := by cases c <;> rfl
theorem ck_pos {c : Bool} {A : Nd} {X : Option Res} (h : c = true) (e : S cx f A = X) : S cx f (.ck c A) = X := by rw [h]; exact e
theorem bif_pos {c : Bool} {A B : Nd} {X : Option Res} (h : c = true) (e : S cx f A = X) : S cx f (.bif c A B) = X := by rw [h]; exact e
theorem bif_neg {c : Bool} {A B : Nd} {X : Option Res} (h : c = false) (e : S cx f B = X) : S cx f (.bif c A B) = X := by rw [h]; exact e
theorem S_int {k : IntKind} {n : Int} {K : Int → Nd} : S cx f (.int k (.fl (.int k n)) K) = S cx f (K n) := by
  simp only [S, sem, mInt, if_true, cond_true, cond_false]
theorem S_bool {b : Bool} {K : Bool → Nd} : S cx f (.bool (.fl (.bool b)) K) = S cx f (K b) := rfl
theorem S_slR {n : Ek} {q : Bool} {xs : List TV} {K : List TV → Nd} : S cx f (.slR n (.sl q n () xs) K) = S cx f (K xs) := by
  simp only [S, sem, mSlR, if_true, cond_true, cond_false]
theorem S_slO {n : Ek} {xs : List TV} {K : List TV → Nd} : S cx f (.slO n (.sl false n () xs) K) = S cx f (K xs) := by
  simp only [S, sem, mSlO, if_true, cond_true, cond_false]
theorem S_slB {n : Ek} {q : Bool} {xs : List TV} {K : Bool → List TV → Nd} : S cx f (.slB n (.sl q n () xs) K) = S cx f (K q xs) := by
  cases q <;> simp only [S, sem, mSlB, if_true, cond_true, cond_false]
theorem S_st {xs : List TV} {K : List TV → Nd} : S cx f (.st (.st xs) K) = S cx f (K xs) := rfl
theorem S_cons {t : TV} {ts : List TV} {K : TV → List TV → Nd} : S cx f (.cons (t :: ts) K) = S cx f (K t ts) := rfl
theorem S_nil {A : Nd} : S cx f (.nil [] A) = S cx f A := rfl
theorem S_call {g : FuncId} {args : List TV} {v : Res} {K : Res → Nd} (h : tw cx g args = some v) : S cx f (.call g args K) = S cx f (K v) := by
  show Option.bind (tw cx g args) _ = _
  rw [h]; rfl
theorem amb_same {α : Type} {X : Option α} : ∀ (xs : List (Option α)), xs ≠ [] → (∀ y ∈ xs, y = X) → amb xs = X
  | [], h, _ => absurd rfl h
  | [x], _, h => h x (by simp)
  | x :: y :: xs, _, h => by
    have hx := h x (by simp)
    simp only [amb]
    rw [if_pos (fun z hz => (h z (by simp [List.mem_cons.1 hz])).trans hx.symm)]
    exact hx
theorem S_amb2 {A B : Nd} {X : Option Res} (a : S cx f A = X) (b : S cx f B = X) : S cx f (.amb2 A B) = X := by
  show amb [S cx f A, S cx f B] = X
  exact amb_same _ (by simp) (by intro y hy; simp only [List.mem_cons, List.not_mem_nil, or_false] at hy; rcases hy with rfl | rfl <;> assumption)
theorem S_amb3 {A B C : Nd} {X : Option Res} (a : S cx f A = X) (b : S cx f B = X) (c : S cx f C = X) : S cx f (.amb3 A B C) = X := by
  show amb [S cx f A, S cx f B, S cx f C] = X
  exact amb_same _ (by simp) (by intro y hy; simp only [List.mem_cons, List.not_mem_nil, or_false] at hy; rcases hy with rfl | rfl | rfl <;> assumption)
theorem S_amb4 {A B C D : Nd} {X : Option Res} (a : S cx f A = X) (b : S cx f B = X) (c : S cx f C = X) (d : S cx f D = X) : S cx f (.amb4 A B C D) = X := by
  show amb [S cx f A, S cx f B, S cx f C, S cx f D] = X
  exact amb_same _ (by simp) (by intro y hy; simp only [List.mem_cons, List.not_mem_nil, or_false] at hy; rcases hy with rfl | rfl | rfl | rfl <;> assumption)
theorem S_amb5 {A B C D E : Nd} {X : Option Res} (a : S cx f A = X) (b : S cx f B = X) (c : S cx f C = X) (d : S cx f D = X) (e : S cx f E = X) : S cx f (.amb5 A B C D E) = X := by
  show amb [S cx f A, S cx f B, S cx f C, S cx f D, S cx f E] = X
  exact amb_same _ (by simp) (by intro y hy; simp only [List.mem_cons, List.not_mem_nil, or_false] at hy; rcases hy with rfl | rfl | rfl | rfl | rfl <;> assumption)
theorem S_isNil {ts : List TV} {A B : Nd} {X : Option Res} (a : ts = [] → S cx f A = X) (b : ts ≠ [] → S cx f B = X) : S cx f (.isNil ts A B) = X := by
  cases ts with
  | nil => exact a rfl
  | cons t ts => exact b (by simp)
theorem tw_given {g : List TV → Option Res} {args : List TV} (h : cx.given f = some g) (hr : g args = some r) : tw cx f args = some r := by
  refine limit_some.2 ⟨1, fun n k h1 _ => ?_⟩
  obtain ⟨m, rfl⟩ : ∃ m, n = m + 1 := ⟨n - 1, by omega⟩
  show tcall cx (m + 1) f args = some r
  simp only [tcall, h, hr]
theorem getD_map' {β : Type} {e : β → TV} {xs : List β} {i : Nat} {x : β} (h : xs[i]? = some x) : (xs.map e).getD i (.dead ()) = e x := by
  rw [List.getD_eq_getElem?_getD, List.getElem?_map, h]; rfl
theorem at_some {β : Type} {xs : List β} {i : Nat} (h : i < xs.length) : ∃ x, xs[i]? = some x := ⟨_, List.getElem?_eq_getElem h⟩
theorem set_map' {β : Type} {e : β → TV} {xs : List β} {i : Nat} {x : β} : (xs.map e).set i (e x) = (xs.set i x).map e := by rw [List.map_set]
end Go.Tree

/- Trees of values: what a law is handed, told as trees that are for reading alone. -/
namespace Go.Tree
open Go.Deep
set_option linter.unusedVariables false
set_option linter.unusedSimpArgs false
section
variable {H : Type} {enc : TypeId × Value → H} {P : Program} {W : World}
/-- Whatever reads as data of type t is a tree that lies in memory, for reading alone, of which Q holds. -/
def OpensT (enc : TypeId × Value → H) (P : Program) (W : World) (t : TypeId) (Q : LT → Prop) : Prop :=
  ∀ (fuel : Nat) (cs : List Value) (x : DataW H × List MemPlace), DataW.trod enc P W 0 (fun _ => true) true fuel t cs = some x → ∃ T : LT, cells T = cs ∧ Mem W T ∧ own T = [] ∧ Q T
theorem OpensT.imp {t : TypeId} {Q R : LT → Prop} (h : OpensT enc P W t Q) (i : ∀ T, Q T → R T) : OpensT enc P W t R := fun fuel cs x hx => by
  obtain ⟨T, h1, h2, h3, h4⟩ := h fuel cs x hx
  exact ⟨T, h1, h2, h3, i T h4⟩
theorem opensT_int {t : TypeId} {ik : IntKind} (ht : P.underlying t = some (.int ik)) : OpensT enc P W t fun T => ∃ n, er T = .fl (.int ik n) ∧ (Lit.int ik n).wf = true := fun fuel cs x h => by
  obtain ⟨n, rfl, _, hw⟩ := DataW.trod_int ht h
  exact ⟨.fl (.int ik n), rfl, rfl, rfl, n, rfl, hw⟩
/-- Fields, one behind the other. -/
def OpensL (enc : TypeId × Value → H) (P : Program) (W : World) (tot : Nat) : Nat → List Field → List (LT → Prop) → Prop
  | off, [], Qs => Qs = [] ∧ tot ≤ off
  | off, f :: fs, Qs => f.offset = off ∧ ∃ Q Qs', Qs = Q :: Qs' ∧ OpensT enc P W f.type Q ∧ OpensL enc P W tot (off + P.cellsOf f.type) fs Qs'
def AllQ : List (LT → Prop) → List LT → Prop
  | [], Ts => Ts = []
  | Q :: Qs, Ts => ∃ T Ts', Ts = T :: Ts' ∧ Q T ∧ AllQ Qs Ts'
theorem opensT_fields {n : Nat} {cs : List Value} {tot : Nat} (hc : cs.length = tot) : ∀ (fs : List Field) (Qs : List (LT → Prop)) (off : Nat) (ys : List (DataW H × List MemPlace)), OpensL enc P W tot off fs Qs → ys.length = fs.length →
    (∀ (i : Nat) (f : Field), fs[i]? = some f → DataW.trod enc P W 0 (fun _ => true) true n f.type ((cs.drop f.offset).take (P.cellsOf f.type)) = ys[i]?) → ∃ Ts, cellsL Ts = cs.drop off ∧ MemL W Ts ∧ ownL Ts = [] ∧ AllQ Qs Ts
  | [], Qs, off, ys, ho, hy, hf => by
    obtain ⟨rfl, h⟩ := ho
    exact ⟨[], by rw [List.drop_of_length_le (by omega)]; rfl, trivial, rfl, rfl⟩
  | f :: fs, Qs, off, ys, ho, hy, hf => by
    obtain ⟨h0, Q, Qs', rfl, hQ, ho⟩ := ho
    obtain ⟨y, ys, rfl⟩ : ∃ y ys', ys = y :: ys' := by
      cases ys with
      | nil => simp at hy
      | cons y ys => exact ⟨y, ys, rfl⟩
    have h1 := hf 0 f rfl
    obtain ⟨T, t1, t2, t3, t4⟩ := hQ n _ y h1
    obtain ⟨Ts, u1, u2, u3, u4⟩ := opensT_fields hc fs Qs' _ ys ho (by simpa using hy) (fun i f' hi => by simpa using hf (i + 1) f' (by simpa using hi))
    refine ⟨T :: Ts, ?_, ⟨t2, u2⟩, by rw [ownL, t3, u3]; rfl, T, Ts, rfl, t4, u4⟩
    rw [cellsL, t1, u1, h0, ← List.drop_drop]
    exact List.take_append_drop _ _
theorem opensT_struct {t : TypeId} {fs : Array Field} {Qs : List (LT → Prop)} (ht : P.underlying t = some (.struct fs)) (ho : OpensL enc P W (P.cellsOf t) 0 fs.toList Qs) : OpensT enc P W t fun T => ∃ Ts, T = .st Ts ∧ AllQ Qs Ts := fun fuel cs x h => by
  obtain ⟨ys, n, _, _, hl, hyl, hf⟩ := DataW.trod_struct ht h
  obtain ⟨Ts, h1, h2, h3, h4⟩ := opensT_fields hl fs.toList Qs 0 ys ho (by simpa using hyl) (fun i f hi => hf i f (by simpa using hi))
  exact ⟨.st Ts, by rw [cells, h1]; simp, h2, h3, Ts, rfl, h4⟩
/-- A row. -/
theorem opensT_row {Q : LT → Prop} {e : TypeId} {m : Nat} (hC : P.cellsOf e = m) (he : OpensT enc P W e Q) (a : Addr) (hs : a.spot = none) : ∀ (len : Nat) (n : Nat) (D : Nat → DataW H) (Pl : Nat → List MemPlace),
    (∀ i, i < len → ∃ cs', W.cells? 0 (a.add (i * P.cellsOf e)) (P.cellsOf e) = some cs' ∧ DataW.trod enc P W 0 (fun _ => true) true n e cs' = some (D i, Pl i)) →
    ∃ xs : List LT, xs.length = len ∧ (∀ x ∈ xs, (cells x).length = m ∧ Mem W x ∧ own x = [] ∧ Q x) ∧ (cellsL xs).length = len * m ∧ W.rangeAt a.block a.off (cellsL xs) := by
  intro len
  induction len with
  | zero => exact fun n D Pl _ => ⟨[], rfl, by simp, by simp [cellsL], fun j v h => by simp [cellsL] at h⟩
  | succ len ih =>
    intro n D Pl h
    obtain ⟨xs, hl, hg, hcl, hr⟩ := ih n D Pl (fun i hi => h i (by omega))
    obtain ⟨cs', hc, ht⟩ := h len (by omega)
    obtain ⟨T, t1, t2, t3, t4⟩ := he n cs' _ ht
    obtain ⟨_, hcc, hat⟩ := World.cells?_some hc
    rw [hC] at hcc hat
    refine ⟨xs ++ [T], by simp [hl], fun x hx => ?_, ?_, fun j v hj => ?_⟩
    · rcases List.mem_append.1 hx with hx | hx
      · exact hg x hx
      · rw [List.mem_singleton.1 hx]; exact ⟨by rw [t1, hcc], t2, t3, t4⟩
    · rw [cellsL_append, List.length_append, hcl, Nat.succ_mul]; simp [cellsL, t1, hcc]
    · rw [cellsL_append] at hj
      by_cases hlt : j < (cellsL xs).length
      · rw [List.getElem?_append_left hlt] at hj
        exact hr j v hj
      · rw [List.getElem?_append_right (by omega)] at hj
        simp only [cellsL, List.append_nil, t1] at hj
        have hj2 := (List.getElem?_eq_some_iff.1 hj).1
        have h3 := hat (j - (cellsL xs).length) (by omega)
        rw [hj, add_add] at h3
        rw [← h3]
        congr 1
        unfold Addr.add
        by_cases h0 : len * m + (j - (cellsL xs).length) = 0
        · rw [if_pos h0]
          cases a with
          | mk b o s =>
            have hs : s = none := hs
            subst hs
            have : j = 0 := by omega
            subst this; rfl
        · rw [if_neg h0]
          simp only [Addr.mk.injEq, true_and, and_true]
          omega
theorem opensT_slice {Q : LT → Prop} {t e : TypeId} {k : Ek} (ht : P.underlying t = some (.slice e)) (hC : P.cellsOf e = k.n) (hk : 0 < k.n) (he : OpensT enc P W e Q) (hf : k.m = false → ∀ T, Q T → all T = []) :
    OpensT enc P W t fun T => ∃ h xs, T = .sl true k h xs ∧ xs.length ≤ 9223372036854775807 ∧ ∀ x ∈ xs, Q x := fun fuel cs x h => by
  rcases open_slice ht h with ⟨rfl, _⟩ | ⟨a, len, cap, m, n, D, Pl, rfl, _, hl, hm, hmm, _, hi⟩
  · exact ⟨.sl true k (.slice none 0 0) [], rfl, ⟨⟨none, 0, rfl, Nat.le_refl _, by simp [cellsL], fun h => absurd rfl h⟩, by simp, trivial⟩, rfl, _, [], rfl, by simp, by simp⟩
  · have hm2 : cap = m := by rw [hmm]; rfl
    subst hm2
    by_cases c0 : cap = 0
    · subst c0
      have : len = 0 := by omega
      subst this
      exact ⟨.sl true k (.slice (some a) 0 0) [], rfl, ⟨⟨some a, 0, rfl, Nat.le_refl _, by simp [cellsL], fun h => absurd rfl h⟩, by simp, trivial⟩, rfl, _, [], rfl, by simp, by simp⟩
    · obtain ⟨cs', hc, _⟩ := hi 0 (by omega)
      obtain ⟨_, hcl, hat⟩ := World.cells?_some hc
      obtain ⟨v, hv⟩ : ∃ v, cs'[0]? = some v := ⟨_, List.getElem?_eq_getElem (by omega)⟩
      have h0 := hat 0 (by omega)
      rw [hv, Nat.zero_mul] at h0
      have e0 : (a.add 0).add 0 = a := rfl
      rw [e0] at h0
      have hs : a.spot = none ∧ a.block < W.heap.size := by
        unfold World.cell? at h0
        split at h0
        · rename_i c0 _ _ hh
          refine ⟨?_, (Array.getElem?_eq_some_iff.1 hh).1⟩
          cases hsp : a.spot with
          | none => rfl
          | some s => rw [hsp] at h0; cases h0
        · cases h0
      obtain ⟨xs, hx, hg, hcl2, hr⟩ := opensT_row hC he a hs.1 len n D Pl (fun i h => hi i (by omega))
      subst hx
      refine ⟨.sl true k (.slice (some a) xs.length cap) xs, rfl, ⟨⟨some a, cap, rfl, hl, hcl2, fun _ => ⟨a.block, a.off, ?_, hs.2, hr, fun h => by cases h⟩⟩, fun x hx => ⟨(hg x hx).1, fun h => hf h x (hg x hx).2.2.2⟩, memL_iff.2 fun x hx => (hg x hx).2.1⟩, rfl, _, xs, rfl, by unfold maxLen at hm; omega, fun x hx => (hg x hx).2.2.2⟩
      cases a with
      | mk b o s =>
        have h2 : s = none := hs.1
        subst h2; rfl
/-- An argument. -/
theorem opensT_arg {t : TypeId} {v : Value} {d : DataW H} {ps : List MemPlace} {Q : LT → Prop} (he : OpensT enc P W t Q) (hv : ∀ T : LT, cells T = v.cells.toList → Q T → valOf T = v) (h : DataW.Trod enc P W 0 (fun _ => true) true t v d ps) :
    ∃ T : LT, valOf T = v ∧ Mem W T ∧ own T = [] ∧ Q T := by
  obtain ⟨fuel, hf⟩ := h
  obtain ⟨T, h1, h2, h3, h4⟩ := he fuel _ _ hf
  exact ⟨T, hv T h1 h4, h2, h3, h4⟩
end
/-- What a call has left that may turn nothing. -/
theorem Fr.below {w w' : World} (h : Fr w [] w') : Go.RowKit.Below w.heap.size w w' :=
  ⟨h.os, h.tape, h.output, h.size, fun k hk => h.block k hk (by simp)⟩
theorem map_of {α : Type} {e : α → TV} {G : α → Prop} : ∀ {xs : List LT}, (∀ x ∈ xs, ∃ a, er x = e a ∧ G a) → ∃ l : List α, xs.map er = l.map e ∧ l.length = xs.length ∧ ∀ a ∈ l, G a
  | [], _ => ⟨[], rfl, rfl, by simp⟩
  | x :: xs, h => by
    obtain ⟨a, h1, h2⟩ := h x (by simp)
    obtain ⟨l, h3, h4, h5⟩ := map_of (xs := xs) (fun y hy => h y (by simp [hy]))
    exact ⟨a :: l, by simp [h1, h3], by simp [h4], fun b hb => by
      rcases List.mem_cons.1 hb with rfl | hb
      · exact h2
      · exact h5 b hb⟩
theorem opensT_rowOf {H : Type} {enc : TypeId × Value → H} {P : Program} {W : World} {α : Type} {e' : α → TV} {G : α → Prop} {t e : TypeId} {k : Ek} (ht : P.underlying t = some (.slice e)) (hC : P.cellsOf e = k.n) (hk : 0 < k.n) (he : OpensT enc P W e fun T => ∃ a, er T = e' a ∧ G a) (hf : k.m = false → ∀ a, noMem (e' a) = true) :
    OpensT enc P W t fun T => ∃ l : List α, er T = .sl true k () (l.map e') ∧ l.length ≤ 9223372036854775807 ∧ ∀ a ∈ l, G a :=
  (opensT_slice ht hC hk he fun h T ⟨a, ha, _⟩ => by letI : Pol := ⟨fun _ _ _ => true, fun _ => true⟩; exact noMem_all T (by rw [ha]; exact hf h a)).imp fun T ⟨h, xs, hT, hl, hx⟩ => by
    obtain ⟨l, h1, h2, h3⟩ := map_of hx
    exact ⟨l, by rw [hT, er_sl, h1], by rw [h2]; exact hl, h3⟩
theorem ownL_none {Ts : List LT} (h : ∀ T ∈ Ts, own T = []) : ownL Ts = [] := by
  rw [ownL_eq, List.flatMap_eq_nil_iff]; exact h
theorem Wm_nil : ∀ {Ts : List LT}, (∀ T ∈ Ts, own T = []) → Wm false [] Ts
  | [], _ => trivial
  | T :: Ts, h => ⟨fun _ => h T (by simp), fun h' => absurd h' (by simp), Wm_nil fun U hU => h U (by simp [hU])⟩
/-- A function that only reads, and returns one plain value. -/
theorem calls_ro {cx : Ctx} (ok : CallsOk cx.P cx.sig (tw cx)) {f : FuncId} (hs : cx.sig f = ⟨[], [], [], false⟩) {Ts : List LT} {v : Value} {w : World} (hm : ∀ T ∈ Ts, Mem w T) (ho : ∀ T ∈ Ts, own T = []) (h : tw cx f (Ts.map er) = some ([.fl v], [])) :
    Calls cx.P f (Ts.map valOf).toArray w fun e w' => e = .returned v ∧ Go.RowKit.Below w.heap.size w w' := by
  have h0 := ownL_none ho
  refine (ok f Ts w _ h (memL_iff.2 hm) (by rw [h0]; exact List.nodup_nil) (fun b _ => by rw [h0]; simp) (by rw [hs]; exact Wm_nil ho)).mono ?_
  intro e w' hp
  cases e with
  | returned u =>
    obtain ⟨Rs, Vs, hr, hv, rfl, hm', _, _, _, _, fr, _⟩ := hp
    have hr : Rs.map er = [.fl v] := hr
    obtain ⟨R, rfl, hr2⟩ := List.map_eq_singleton_iff.1 hr
    letI : Pol := cx.pol f
    have := er_fl_inv hr2
    subst this
    rw [h0] at fr
    exact ⟨rfl, fr.below⟩
  | _ => exact hp.elim
section
variable [Pol] {T : LT} {v : Value}
theorem val_fl {u : Value} (e : er T = .fl u) (h : cells T = [v]) : valOf T = v := by
  have := er_fl_inv e
  subst this
  exact (List.cons.inj h).1
theorem val_st {xs : List TV} {cs : Array Value} (e : er T = .st xs) (h : cells T = cs.toList) : valOf T = .agg cs := by
  obtain ⟨ys, rfl, _⟩ := er_st_inv e
  show Value.agg (cellsL ys).toArray = _
  have h : cellsL ys = cs.toList := h
  rw [h]
end
end Go.Tree
