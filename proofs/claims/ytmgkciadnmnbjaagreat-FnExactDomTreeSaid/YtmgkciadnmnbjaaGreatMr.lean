/- slices.Reverse: what it does. Conditions: none. -/
import Derived.Test.YtmgkciadnmnbjaaGreatMt3
import Derived.Test.YtmgkciadnmnbjaaGreatProg
import Derived.KernelRfl
/- Trees of values: what is told of the functions, and words for views and calls. -/
namespace Go.Tree.R
open Go.Proofs
set_option linter.unusedVariables false
set_option maxRecDepth 20000
abbrev i64 (n : Int) : TV := .fl (.int .i64 n)
abbrev tb (b : Bool) : TV := .fl (.bool b)
abbrev tnil : TV := .fl (.pointer none)
abbrev sl (r : Bool) (k : Ek) (xs : List TV) : TV := .sl r k () xs
abbrev w64 (n : Int) : Int := IntKind.i64.wrap n
abbrev uns (n : Nat) : Env := List.replicate n .un
/-- A table. -/
def tab {β : Type} (d : β) : List (Nat × β) → Nat → β
  | [], _ => d
  | (k, v) :: l, n => bif Nat.beq k n then v else tab d l n
/-- What the evaluator is told of the functions: who writes what, what lives where. -/
noncomputable def cx : Ctx where
  P := Tryz.prog
  sig := tab ⟨[], [], [], false⟩ [(64, ⟨[true], [], [], false⟩)]
  given := fun _ => none
  keep := fun f r => tab [] [(64001, [0, 2, 3, 28])] (f * 1000 + r)
  cut := fun f r => tab none [] (f * 1000 + r)
  pol := fun f => ⟨fun s i b => match tab 0 [] ((f * 1000 + s) * 10000000 + i) with | 0 => !b | 1 => b | _ => true, fun t => tab false [] (f * 1000 + t)⟩
  inl := tab false []
theorem call_S {f g : FuncId} {args : List TV} {v : Res} {K : Res → Nd} {X : Option Res} (h : tw cx g args = some v) (e : S cx f (K v) = X) : S cx f (.call g args K) = X := by
  show Option.bind (tw cx g args) _ = X
  rw [h]
  exact e
end Go.Tree.R

/- Trees of values: program points of functions. -/
namespace Go.Tree.R
open Go.Proofs
set_option linter.unusedVariables false
set_option maxRecDepth 20000
noncomputable def EH64_0 (i_1 : Int) (j_2 : Int) (s_0 : List TV) : Env := [.ref 28 [] none 36 false, .un, .val [] (i64 i_1), .val [] (i64 j_2)] ++ uns 24 ++ [.val [] (sl false ⟨1, false⟩ s_0)]
noncomputable abbrev H64_0 (i_1 : Int) (j_2 : Int) (s_0 : List TV) : Nd := .head [1, 2] (EH64_0 i_1 j_2 s_0)
noncomputable abbrev B64_0 (i_1 : Int) (j_2 : Int) (s_0 : List TV) : Nd := .back [1, 2] (EH64_0 i_1 j_2 s_0)
noncomputable def N64 (s_0 : List TV) : Nd :=
  H64_0 0 (w64 (((s_0.length : Nat) : Int) - 1)) s_0
theorem e64 {s_0 : List TV} {r : Res} (h : S cx 64 (N64 s_0) = some r) : tw cx 64 [sl false ⟨1, false⟩ s_0] = some r :=
  tw_of (fun call hd hb pt rg => by kernel_rfl) h
noncomputable def NH64_0 (i_1 : Int) (j_2 : Int) (s_0 : List TV) : Nd :=
  .bif (decide (i_1 < j_2))
  (.ck (decide ((0 : Int) ≤ j_2) && decide (j_2 < ((s_0.length : Nat) : Int))) <|
    .int .i64 (s_0.getD (0 + j_2.toNat) (.dead ())) fun x_98f8 =>
    .ck (decide ((0 : Int) ≤ i_1) && decide (i_1 < ((s_0.length : Nat) : Int))) <|
    .int .i64 (s_0.getD (0 + i_1.toNat) (.dead ())) fun x_fca4 =>
    .ck (decide ((0 : Int) ≤ i_1) && decide (i_1 < ((s_0.length : Nat) : Int))) <|
    .ck (decide ((0 : Int) ≤ j_2) && decide (j_2 < (((s_0.set (0 + i_1.toNat) (i64 x_98f8)).length : Nat) : Int))) <|
    B64_0 (w64 (i_1 + 1)) (w64 (j_2 - 1)) ((s_0.set (0 + i_1.toNat) (i64 x_98f8)).set (0 + j_2.toNat) (i64 x_fca4)))
  (.ret [] [sl false ⟨1, false⟩ s_0])
theorem eH64_0 {i_1 : Int} {j_2 : Int} {s_0 : List TV} {r : Res} (h : S cx 64 (NH64_0 i_1 j_2 s_0) = some r) : S cx 64 (H64_0 i_1 j_2 s_0) = some r :=
  hw_of (fun call hd hb pt rg => by kernel_rfl) h
end Go.Tree.R

/- slices.Reverse: what it does. -/
namespace Go.Tree.R
open Go.Proofs
set_option linter.unusedVariables false
set_option linter.unusedSimpArgs false
theorem noNG : (Tryz.prog.funcs.all fun fn => !(fn.name == "runtime.NumGoroutine")) = true := by kernel_rfl
theorem noNG' : ∀ (f : FuncId) (fn : Func), Tryz.prog.funcs[f]? = some fn → (fn.name == "runtime.NumGoroutine") = false := fun f fn h => by
  have h0 := noNG
  rw [Array.all_eq_true] at h0
  obtain ⟨hi, rfl⟩ := Array.getElem?_eq_some_iff.1 h
  simpa using h0 f hi
theorem mixed : Tryz.prog.follows .mixedOrders = true := by kernel_rfl
theorem back_of {f : FuncId} {p : List Nat} {e : Env} {X : Option Res} (h : S cx f (.head p e) = X) : S cx f (.back p e) = X := h
theorem w64_id {x : Int} (h0 : -9223372036854775808 ≤ x) (h1 : x < 9223372036854775808) : w64 x = x := by
  show IntKind.i64.wrap x = x
  rw [IntKind.wrap_i64]; omega
theorem int_pos {f : FuncId} {t : TV} {n : Int} {K : Int → Nd} {X : Option Res} (h : t = i64 n) (e : S cx f (K n) = X) : S cx f (.int .i64 t K) = X := by rw [h, S_int]; exact e
theorem rev (d : Nat) : ∀ (m : List Int) (P Q : List TV), m.length ≤ d → P.length + m.length + Q.length < 1000000 →
    S cx 64 (H64_0 P.length ((P.length : Int) + m.length - 1) (P ++ m.map i64 ++ Q)) = some ([], [sl false ⟨1, false⟩ (P ++ m.reverse.map i64 ++ Q)]) := by
  induction d with
  | zero =>
    intro m P Q hm hb
    have : m = [] := List.length_eq_zero_iff.1 (by omega)
    subst this
    exact eH64_0 (bif_neg (decide_eq_false (by simp only [List.length_nil]; omega)) rfl)
  | succ d ih =>
    intro m P Q hm hb
    match m, hm, hb with
    | [], hm, hb => exact eH64_0 (bif_neg (decide_eq_false (by simp only [List.length_nil]; omega)) rfl)
    | [x], hm, hb => exact eH64_0 (bif_neg (decide_eq_false (by simp only [List.length_cons, List.length_nil]; omega)) rfl)
    | a :: y :: t, hm, hb =>
      obtain ⟨m', b, e⟩ : ∃ m' b, y :: t = m' ++ [b] := ⟨(y :: t).dropLast, (y :: t).getLast (by simp), (List.dropLast_concat_getLast (by simp)).symm⟩
      rw [e] at hm hb ⊢
      have hl : (a :: (m' ++ [b])).length = m'.length + 2 := by simp
      have e0 : P ++ (a :: (m' ++ [b])).map i64 ++ Q = P ++ (i64 a :: (m'.map i64 ++ (i64 b :: Q))) := by simp
      have hL : (P ++ (i64 a :: (m'.map i64 ++ (i64 b :: Q)))).length = P.length + m'.length + 2 + Q.length := by simp; omega
      rw [hl] at hm hb ⊢
      rw [e0]
      have g1 : (P ++ (i64 a :: (m'.map i64 ++ (i64 b :: Q)))).getD (0 + ((P.length : Int) + (m'.length + 2 : Nat) - 1).toNat) (.dead ()) = i64 b := by
        rw [show 0 + ((P.length : Int) + (m'.length + 2 : Nat) - 1).toNat = P.length + (1 + (m'.map i64).length) by rw [List.length_map]; omega, List.getD_eq_getElem?_getD, List.getElem?_append_right (by omega)]
        simp [Nat.add_comm 1]
      have g2 : (P ++ (i64 a :: (m'.map i64 ++ (i64 b :: Q)))).getD (0 + (P.length : Int).toNat) (.dead ()) = i64 a := by
        rw [show 0 + (P.length : Int).toNat = P.length by omega, List.getD_eq_getElem?_getD, List.getElem?_append_right (by omega)]
        simp
      refine eH64_0 (bif_pos (decide_eq_true (by omega)) (ck_pos (by rw [hL, decide_eq_true (by omega), decide_eq_true (by omega)]; rfl) (int_pos g1 (ck_pos (by rw [hL, decide_eq_true (by omega), decide_eq_true (by omega)]; rfl) (int_pos g2 (ck_pos (by rw [hL, decide_eq_true (by omega), decide_eq_true (by omega)]; rfl) (ck_pos (by rw [List.length_set, hL, decide_eq_true (by omega), decide_eq_true (by omega)]; rfl) (back_of ?_))))))))
      rw [w64_id (by omega) (by omega), w64_id (by omega) (by omega)]
      have e1 : ((P ++ (i64 a :: (m'.map i64 ++ (i64 b :: Q)))).set (0 + (P.length : Int).toNat) (i64 b)).set (0 + ((P.length : Int) + (m'.length + 2 : Nat) - 1).toNat) (i64 a) = (P ++ [i64 b]) ++ m'.map i64 ++ (i64 a :: Q) := by
        rw [show 0 + (P.length : Int).toNat = P.length by omega, show 0 + ((P.length : Int) + (m'.length + 2 : Nat) - 1).toNat = P.length + (1 + (m'.map i64).length) by rw [List.length_map]; omega, List.set_append_right _ _ (Nat.le_refl _), Nat.sub_self, List.set_cons_zero, List.set_append_right _ _ (by omega), Nat.add_sub_cancel_left, Nat.add_comm 1, List.set_cons_succ, List.set_append_right _ _ (Nat.le_refl _), Nat.sub_self, List.set_cons_zero]
        simp
      rw [e1]
      have := ih m' (P ++ [i64 b]) (i64 a :: Q) (by omega) (by simp; omega)
      have e2 : (P ++ [i64 b]).length = P.length + 1 := by simp
      rw [e2] at this
      rw [show ((P.length : Int) + 1) = ((P.length + 1 : Nat) : Int) by omega, show (P.length : Int) + (m'.length + 2 : Nat) - 1 - 1 = ((P.length + 1 : Nat) : Int) + m'.length - 1 by omega, this]
      simp
theorem t64 (m : List Int) (hm : m.length < 100000) : tw cx 64 [sl false ⟨1, false⟩ (m.map i64)] = some ([], [sl false ⟨1, false⟩ (m.reverse.map i64)]) := by
  refine e64 ?_
  have := rev m.length m [] [] (Nat.le_refl _) (by simp; omega)
  simp only [List.length_nil, List.nil_append, List.append_nil] at this
  show S cx 64 (H64_0 0 (w64 (((m.map i64).length : Nat) - 1)) (m.map i64)) = _
  rw [List.length_map, w64_id (by omega) (by omega), show ((m.length : Int) - 1) = ((0 : Nat) : Int) + m.length - 1 by omega]
  exact this
theorem ok : CallsOk cx.P cx.sig (tw cx) := tw_calls (tcall_ok (fun f k h => by cases h) noNG' mixed)
theorem flat {X : List LT} (h : ∀ x ∈ X, all x = []) : allL X = [] := by
  rw [allL_eq, List.flatMap_eq_nil_iff]; exact h
theorem flat_own {X : List LT} (h : allL X = []) : ownL X = [] := by
  refine List.eq_nil_iff_forall_not_mem.2 fun b hb => ?_
  have := own_allL X hb
  rw [h] at this; cases this
theorem flat_shr {X : List LT} (h : allL X = []) : shrL X = [] := by
  refine List.eq_nil_iff_forall_not_mem.2 fun b hb => ?_
  have := shr_allL X hb
  rw [h] at this; cases this
theorem calls64 (h : Value) (X : List LT) (m : List Int) (w : World) (hX : X.map er = m.map i64) (hb : m.length < 100000) (hm : Mem w (.sl false ⟨1, false⟩ h X)) :
    Calls Tryz.prog 64 #[h] w fun e w' => e = .returned (.tuple #[]) ∧ ∃ Y : List LT, Y.map er = m.reverse.map i64 ∧ Mem w' (.sl false ⟨1, false⟩ h Y) ∧ Fr w (blk h) w' := by
  have hfl : allL X = [] := flat fun x hx => (hm.2.1 x hx).2 rfl
  have hown : ownL [(.sl false ⟨1, false⟩ h X : LT)] = blk h := by simp [ownL, own, flat_own hfl]
  have h24 := t64 m hb
  have hc := ok 64 [.sl false ⟨1, false⟩ h X] w _ (by
      rw [List.map_cons, er_sl, List.map_nil, hX]; exact h24) ⟨hm, trivial⟩ (by
      rw [hown]; unfold blk; split <;> simp) (fun b hb => by simp [shrL, shr, flat_shr hfl] at hb) (by
      have e0 : cx.sig 64 = ⟨[true], [], [], false⟩ := rfl
      rw [e0]
      simp [Wm, isSt, own])
  letI : Pol := cx.pol 64
  refine hc.mono ?_
  intro e w' hp
  cases e with
  | returned v =>
    obtain ⟨Rs, Vs, hr, hv, rfl, hm', _, _, _, _, fr, ln⟩ := hp
    have hr : Rs.map er = [] := hr
    have hv : Vs.map er = [sl false ⟨1, false⟩ (m.reverse.map i64)] := hv
    have hr := List.map_eq_nil_iff.1 hr
    subst hr
    obtain ⟨V, rfl, hv2⟩ := List.map_eq_singleton_iff.1 hv
    obtain ⟨hd, Y, rfl, hY⟩ := er_sl_inv hv2
    rcases ln with ⟨_, _, V2, Vs', e1, e2, _⟩ | ⟨h0, _⟩
    · cases e1
      have e2 : hd = h := e2
      subst e2
      rw [hown] at fr
      exact ⟨rfl, Y, hY.symm, hm'.1, fr⟩
    · rcases h0 with h0 | h0 <;> cases h0
  | _ => exact hp.elim
end Go.Tree.R
