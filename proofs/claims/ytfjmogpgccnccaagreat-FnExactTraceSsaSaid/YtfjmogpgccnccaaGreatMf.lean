/- What was given by hand holds; what the law is handed. Conditions: none. -/
import Derived.Test.YtfjmogpgccnccaaGreatMqa
import Derived.Test.YtfjmogpgccnccaaGreatMt3
import Derived.Test.YtfjmogpgccnccaaGreatMu
import Derived.Test.YtfjmogpgccnccaaGreatMh
import Derived.Test.YtfjmogpgccnccaaGreatMe
import Derived.WalkKit
import Derived.ProofKit
/- The laws on runs: what is given of slices.Grow is kept. -/
namespace Go.Tree.Q
open Go.Proofs
set_option linter.unusedVariables false
set_option linter.unusedSimpArgs false
theorem grow_run (n : Nat) (hn : n ≤ 1073741824) (w : World) :
    Calls Tryz.prog 185 #[.slice none 0 0, .int .i64 n] w fun | .returned v, w' => (∃ h, v = h ∧ Mem w' (.sl false ⟨1, false⟩ h []) ∧ (∀ b ∈ blk h, w.heap.size ≤ b) ∧ (blk h).Nodup ∧ Fr w [] w') | _, _ => False := by
  letI : Pol := cx.pol 185
  by_cases h0 : n = 0
  · subst h0
    refine (Any8.slices_Grow_room Tryz.growI none 0 0 0 w (Nat.le_refl _) (by decide) (by decide) (by decide)).mono ?_
    rintro e w' ⟨rfl, rfl⟩
    have hb0 : blk (.slice none 0 0) = [] := rfl
    refine ⟨_, rfl, ⟨⟨none, 0, rfl, Nat.le_refl _, rfl, fun h => absurd rfl h⟩, by simp, trivial⟩, ?_, ?_, ⟨rfl, rfl, rfl, Nat.le_refl _, fun _ _ _ => rfl⟩⟩
    · rw [hb0]; intro b hb; cases hb
    · rw [hb0]; exact List.nodup_nil
  · have hrow : rowOk Tryz.prog 3 = true := by kernel_rfl
    obtain ⟨i, z, hi, hz, hsz, hc0, hb0, hzs, hby⟩ := rowOk_spec hrow
    have e1 : Tryz.prog.cellsOf 3 = 1 := by kernel_rfl
    have e2 : bytesOf Tryz.prog 3 = 8 := by kernel_rfl
    rw [e1] at hsz
    rw [e2] at hby
    have hrun := Any8.slices_Grow_grow Tryz.growI i z hi hz (by omega) none 0 0 n [] w (Nat.le_refl _) (by omega) (by rw [← hby]; omega) (by omega) (by simp) (fun _ => rfl) (fun a h => by cases h)
    refine hrun.mono ?_
    rintro e w' ⟨rfl, rfl⟩
    have hge := grownCap_ge w (0 + n) 0 3
    have ht : Tryz.growI_ren.t 25 = 3 := rfl
    rw [ht]
    generalize hG : grownCap w (0 + n) 0 3 = G at hge ⊢
    have hlen : (([] : List Value).toArray ++ Builtin.zeroCells z.cells (0 + n - 0) ++ Builtin.zeroCells z.cells (G - (0 + n))).size = G := by
      simp only [Builtin.zeroCells]
      simp [hzs, hsz]
      omega
    generalize hA : (([] : List Value).toArray ++ Builtin.zeroCells z.cells (0 + n - 0) ++ Builtin.zeroCells z.cells (G - (0 + n))) = A at hlen ⊢
    have hd : w.drew.heap = w.heap := rfl
    have hblk : blk (.slice (some ⟨w.heap.size, 0, none⟩) 0 G) = [w.heap.size] := by rw [blk_row, if_neg (by omega)]
    refine ⟨_, rfl, ⟨⟨_, G, rfl, Nat.zero_le _, rfl, fun _ => ⟨w.heap.size, 0, rfl, by simp [hd], fun j v hj => by simp [cellsL] at hj, fun _ j hj => ?_⟩⟩, by simp, trivial⟩, fun b hb => ?_, ?_, ⟨rfl, rfl, rfl, ?_, fun k hk _ => ?_⟩⟩
    · rw [Nat.zero_add, ← hd, World.cell?_alloc_new, World.frozen?_alloc_new]
      refine ⟨?_, rfl⟩
      have : j < A.size := by rw [hlen]; simpa using hj
      simp [Array.getElem?_eq_getElem this]
    · rw [hblk] at hb
      simp at hb; omega
    · rw [hblk]; simp
    · simp [hd]
    · rw [Go.RowKit.Below.heap_alloc _ _ _ (by rw [hd]; exact hk), hd]
theorem given185 (Ts : List LT) (w : World) (r : Res) (hr : g185 (Ts.map er) = some r) :
    Calls cx.P 185 (Ts.map valOf).toArray w fun | .returned v, w' => Post (cx.sig 185) Ts w r v w' | _, _ => False := by
  letI : Pol := cx.pol 185
  unfold g185 at hr
  split at hr
  · rename_i n e
    split at hr
    · rename_i hc
      obtain ⟨T, rest, rfl, hT, e⟩ := List.map_eq_cons_iff.1 e
      obtain ⟨K, e0, rfl, hK, e⟩ := List.map_eq_cons_iff.1 e
      have e := List.map_eq_nil_iff.1 e
      subst e
      have := er_fl_inv hK
      subst this
      have := er_fl_inv hT
      subst this
      obtain ⟨m, rfl⟩ := Int.eq_ofNat_of_zero_le hc.1
      have hr := Option.some.inj hr
      subst hr
      refine (grow_run m (by omega) w).mono ?_
      intro e w' hp
      cases e with
      | returned v =>
        obtain ⟨h, rfl, hm, hnew, hnd, fr⟩ := hp
        have ho : ownL ([.sl false ⟨1, false⟩ v []] ++ [] : List LT) = blk v := by simp [ownL, own]
        have hs : shrL ([.sl false ⟨1, false⟩ v []] ++ [] : List LT) = [] := by simp [shrL, shr]
        have ho2 : ownL [(.fl (.slice none 0 0) : LT), .fl (.int .i64 (m : Int))] = [] := by simp [ownL, own]
        refine ⟨[.sl false ⟨1, false⟩ v []], [], ?_, rfl, rfl, ⟨hm, trivial⟩, ?_, ?_, ?_, ?_, ?_, ?_⟩
        · simp [er_sl]
        · rw [ho]; exact hnd
        · rw [hs]; intro b hb; cases hb
        · rw [ho]; exact fun b hb => .inr (hnew b hb)
        · rw [hs]; intro b hb; cases hb
        · rw [ho2]; exact fr
        · exact .inr ⟨.inl rfl, .inr ⟨.inl rfl, rfl⟩⟩
      | _ => exact hp.elim
    · cases hr
  · cases hr
end Go.Tree.Q

/- The laws on runs: what is given is kept. -/
namespace Go.Tree.Q
open Go.Proofs
set_option linter.unusedVariables false
set_option linter.unusedSimpArgs false
theorem row_inv [Pol] {T : LT} {xs : List TV} (e : er T = .sl false ⟨1, false⟩ () xs) : ∃ h X, T = .sl false ⟨1, false⟩ h X ∧ xs = X.map er := er_sl_inv e
theorem given19 (Ts : List LT) (w : World) (r : Res) (hr : g19 (Ts.map er) = some r) (hm : MemL w Ts) (hnd : (ownL Ts).Nodup) :
    Calls cx.P 19 (Ts.map valOf).toArray w fun | .returned v, w' => Post (cx.sig 19) Ts w r v w' | _, _ => False := by
  letI : Pol := cx.pol 19
  unfold g19 at hr
  split at hr
  · rename_i xs ys zs k e
    split at hr
    · rename_i hc
      obtain ⟨T, rest, rfl, hT, e⟩ := List.map_eq_cons_iff.1 e
      obtain ⟨K, e0, rfl, hK, e⟩ := List.map_eq_cons_iff.1 e
      have e := List.map_eq_nil_iff.1 e
      subst e
      have := er_fl_inv hK
      subst this
      obtain ⟨us, rfl, hu⟩ := er_st_inv hT
      obtain ⟨A, us1, rfl, hA, hu⟩ := List.map_eq_cons_iff.1 hu.symm
      obtain ⟨B, us2, rfl, hB, hu⟩ := List.map_eq_cons_iff.1 hu
      obtain ⟨C, us3, rfl, hC, hu⟩ := List.map_eq_cons_iff.1 hu
      have hu := List.map_eq_nil_iff.1 hu
      subst hu
      obtain ⟨h1, X1, rfl, rfl⟩ := row_inv hA
      obtain ⟨h2, X2, rfl, rfl⟩ := row_inv hB
      obtain ⟨h3, X3, rfl, rfl⟩ := row_inv hC
      simp only [List.length_map] at hc
      obtain ⟨k0, k1, l1, l2, l3⟩ := hc
      have m1 := hm.1.1
      have m2 := hm.1.2.1
      have m3 := hm.1.2.2.1
      have fl : ∀ {h : Value} {X : List LT} {w : World}, Mem w (.sl false ⟨1, false⟩ h X) → allL X = [] := fun hm => G.flat fun x hx => (hm.2.1 x hx).2 rfl
      have ow : ∀ {Y1 Y2 Y3 : List LT}, allL Y1 = [] → allL Y2 = [] → allL Y3 = [] → ownL [(.st [.sl false ⟨1, false⟩ h1 Y1, .sl false ⟨1, false⟩ h2 Y2, .sl false ⟨1, false⟩ h3 Y3] : LT)] = blk h1 ++ (blk h2 ++ blk h3) := fun a b c => by
        simp [ownL, own, G.flat_own a, G.flat_own b, G.flat_own c]
      have sh : ∀ {Y1 Y2 Y3 : List LT}, allL Y1 = [] → allL Y2 = [] → allL Y3 = [] → shrL [(.st [.sl false ⟨1, false⟩ h1 Y1, .sl false ⟨1, false⟩ h2 Y2, .sl false ⟨1, false⟩ h3 Y3] : LT)] = [] := fun a b c => by
        simp [shrL, shr, G.flat_shr a, G.flat_shr b, G.flat_shr c]
      have ot : ownL [(.st [.sl false ⟨1, false⟩ h1 X1, .sl false ⟨1, false⟩ h2 X2, .sl false ⟨1, false⟩ h3 X3] : LT), .fl (.int .i64 k)] = blk h1 ++ (blk h2 ++ blk h3) := by
        rw [← ow (fl m1) (fl m2) (fl m3)]; simp [ownL, own]
      rw [ot] at hnd
      obtain ⟨n1, n2, n3⟩ := List.nodup_append.1 hnd
      obtain ⟨n4, n5, n6⟩ := List.nodup_append.1 n2
      refine (G.calls19 h1 h2 h3 X1 X2 X3 k w ⟨k0, k1⟩ l1 l2 l3 m1 m2 m3 (fun b hb hb' => n3 b hb b (List.mem_append.2 (.inl hb')) rfl) (fun b hb hb' => n3 b hb b (List.mem_append.2 (.inr hb')) rfl) (fun b hb hb' => n6 b hb b hb' rfl)).mono ?_
      rintro e w' ⟨rfl, Y1, Y2, Y3, y1, y2, y3, o1, o2, o3, fr⟩
      have hr := Option.some.inj hr
      subst hr
      refine ⟨[.fl (.int .i64 (k + X1.length + X2.length + X3.length))], [.st [.sl false ⟨1, false⟩ h1 Y1, .sl false ⟨1, false⟩ h2 Y2, .sl false ⟨1, false⟩ h3 Y3]], ?_, ?_, rfl, ⟨rfl, ⟨o1, o2, o3, trivial⟩, trivial⟩, ?_, ?_, ?_, ?_, ?_, ?_⟩
      · simp [er_fl]
      · simp only [List.map_cons, List.map_nil, er_st, er_sl, y1, y2, y3, List.length_map]
        rfl
      · show (ownL [(.fl _ : LT), _]).Nodup
        rw [show ∀ (v : Value) (t : LT), ownL [.fl v, t] = ownL [t] from fun v t => by simp [ownL, own], ow (fl o1) (fl o2) (fl o3)]
        exact hnd
      · show ∀ b ∈ shrL [(.fl _ : LT), _], _
        rw [show ∀ (v : Value) (t : LT), shrL [.fl v, t] = shrL [t] from fun v t => by simp [shrL, shr], sh (fl o1) (fl o2) (fl o3)]
        intro b hb; cases hb
      · show ∀ b ∈ ownL [(.fl _ : LT), _], _
        rw [show ∀ (v : Value) (t : LT), ownL [.fl v, t] = ownL [t] from fun v t => by simp [ownL, own], ow (fl o1) (fl o2) (fl o3), ot]
        exact fun b hb => .inl hb
      · show ∀ b ∈ shrL [(.fl _ : LT), _], _
        rw [show ∀ (v : Value) (t : LT), shrL [.fl v, t] = shrL [t] from fun v t => by simp [shrL, shr], sh (fl o1) (fl o2) (fl o3)]
        intro b hb; cases hb
      · rw [ot, ← List.append_assoc]; exact fr
      · exact .inl ⟨rfl, rfl, _, [], rfl, rfl, .inr ⟨.inl rfl, rfl⟩⟩
    · cases hr
  · cases hr
theorem given18 (Ts : List LT) (w : World) (r : Res) (hr : g18 (Ts.map er) = some r) (hm : MemL w Ts) (hnd : (ownL Ts).Nodup) (hss : ∀ b ∈ shrL Ts, b ∉ ownL Ts) :
    Calls cx.P 18 (Ts.map valOf).toArray w fun | .returned v, w' => Post (cx.sig 18) Ts w r v w' | _, _ => False := by
  letI : Pol := cx.pol 18
  unfold g18 at hr
  split at hr
  · rename_i ps v k e
    split at hr
    · rename_i k2 qs ht
      obtain ⟨T, rest, rfl, hT, e⟩ := List.map_eq_cons_iff.1 e
      obtain ⟨K, e0, rfl, hK, e⟩ := List.map_eq_cons_iff.1 e
      have e := List.map_eq_nil_iff.1 e
      subst e
      have := er_fl_inv hK
      subst this
      obtain ⟨us, rfl, hu⟩ := er_st_inv hT
      obtain ⟨A, us1, rfl, hA, hu⟩ := List.map_eq_cons_iff.1 hu.symm
      obtain ⟨B, us2, rfl, hB, hu⟩ := List.map_eq_cons_iff.1 hu
      have hu := List.map_eq_nil_iff.1 hu
      subst hu
      have := er_fl_inv hB
      subst this
      obtain ⟨h, X, rfl, rfl⟩ := er_sl_inv hA
      have oo : ∀ (Y : List LT) (n : Int), ownL [(.st [.sl false ⟨6, true⟩ h Y, .fl (.int .i64 v)] : LT), .fl (.int .i64 n)] = own (.sl false ⟨6, true⟩ h Y) := fun Y n => by simp only [ownL, own, List.append_nil]
      have so : ∀ (Y : List LT) (n : Int), shrL [(.st [.sl false ⟨6, true⟩ h Y, .fl (.int .i64 v)] : LT), .fl (.int .i64 n)] = shr (.sl false ⟨6, true⟩ h Y) := fun Y n => by simp only [shrL, shr, List.append_nil]
      have o2 : ∀ (Y : List LT) (n : Int), ownL ([(.fl (.int .i64 n) : LT)] ++ [.st [.sl false ⟨6, true⟩ h Y, .fl (.int .i64 v)]]) = own (.sl false ⟨6, true⟩ h Y) := fun Y n => by simp only [List.singleton_append, ownL, own, List.append_nil, List.nil_append]
      have s2 : ∀ (Y : List LT) (n : Int), shrL ([(.fl (.int .i64 n) : LT)] ++ [.st [.sl false ⟨6, true⟩ h Y, .fl (.int .i64 v)]]) = shr (.sl false ⟨6, true⟩ h Y) := fun Y n => by simp only [List.singleton_append, shrL, shr, List.append_nil, List.nil_append]
      rw [oo] at hnd
      rw [so, oo] at hss
      have hr := Option.some.inj hr
      subst hr
      refine (G.calls18 h X v k w ht hm.1.1 hnd hss).mono ?_
      rintro e w' ⟨rfl, Y, y1, y2, y3, y4, y5, y6, fr⟩
      refine ⟨[.fl (.int .i64 k2)], [.st [.sl false ⟨6, true⟩ h Y, .fl (.int .i64 v)]], ?_, ?_, rfl, ⟨rfl, ⟨y2, rfl, trivial⟩, trivial⟩, ?_, ?_, ?_, ?_, ?_, ?_⟩
      · simp [er_fl]
      · simp only [List.map_cons, List.map_nil, er_st, er_sl, er_fl, y1]
      · rw [o2]; exact y3
      · rw [o2, s2]; exact y4
      · rw [o2, oo]; exact y5
      · rw [s2, so, oo]; exact y6
      · rw [oo]; exact fr
      · exact .inl ⟨rfl, rfl, _, [], rfl, rfl, .inr ⟨.inl rfl, rfl⟩⟩
    · cases hr
  · cases hr
theorem beqf {f m : Nat} (h : ¬f = m) : Nat.beq f m = false := by
  cases h' : Nat.beq f m with
  | false => rfl
  | true => exact absurd (Nat.eq_of_beq_eq_true h') h
theorem givenOk : GivenOk cx := by
  intro f g hg Ts w r hr hm hnd hss hwm
  have hg : (bif Nat.beq f 185 then some g185 else bif Nat.beq f 19 then some g19 else bif Nat.beq f 18 then some g18 else none) = some g := hg
  by_cases c1 : f = 185
  · subst c1
    have : g185 = g := by injection hg
    subst this
    exact given185 Ts w r hr
  rw [beqf c1, cond_false] at hg
  by_cases c2 : f = 19
  · subst c2
    have : g19 = g := by injection hg
    subst this
    exact given19 Ts w r hr hm hnd
  rw [beqf c2, cond_false] at hg
  by_cases c3 : f = 18
  · subst c3
    have : g18 = g := by injection hg
    subst this
    exact given18 Ts w r hr hm hnd hss
  rw [beqf c3] at hg
  cases hg
theorem ok : CallsOk cx.P cx.sig (tw cx) := tw_calls (tcall_ok givenOk G.noNG' G.mixed)
end Go.Tree.Q

/- The laws on runs: what they are handed. -/
namespace Go.Tree.Q
open Go.Proofs
set_option linter.unusedVariables false
set_option linter.unusedSimpArgs false
set_option linter.unusedSectionVars false
section
variable {H : Type} {enc : TypeId × Value → H} {W : World} [Pol]
theorem o_int : OpensT enc Tryz.prog W 3 fun T => ∃ n : Int, er T = i64 n ∧ True := (opensT_int Tryz.underlying3).imp fun T ⟨n, h, _⟩ => ⟨n, h, trivial⟩
theorem o_ints : OpensT enc Tryz.prog W 25 fun T => ∃ l : List Int, er T = rI true l ∧ l.length ≤ 9223372036854775807 ∧ ∀ a ∈ l, True :=
  opensT_rowOf (k := ⟨1, false⟩) Tryz.underlying25 (by kernel_rfl) (by decide) o_int (fun _ _ => rfl)
theorem o_rI : OpensT enc Tryz.prog W 25 fun T => ∃ l : List Int, er T = rI true l ∧ l.length ≤ 9223372036854775807 := o_ints.imp fun T ⟨l, h1, h2, _⟩ => ⟨l, h1, h2⟩
theorem o_rII : OpensT enc Tryz.prog W 60 fun T => ∃ l : List (List Int), er T = rII true true l ∧ l.length ≤ 9223372036854775807 ∧ ∀ a ∈ l, a.length ≤ 9223372036854775807 :=
  opensT_rowOf (k := ⟨1, true⟩) Tryz.underlying60 (by kernel_rfl) (by decide) o_rI (fun h => by cases h)
set_option maxRecDepth 20000 in
theorem o_F : OpensT enc Tryz.prog W 202 fun T => ∃ x : F, er T = eF x ∧ True :=
  (opensT_struct Tryz.underlying202 (Qs := [_, _, _, _, _, _]) ⟨rfl, _, _, rfl, o_int, by kernel_rfl, _, _, rfl, o_int, by kernel_rfl, _, _, rfl, o_int, by kernel_rfl, _, _, rfl, o_int, by kernel_rfl, _, _, rfl, o_int, by kernel_rfl, _, _, rfl, o_int, rfl, of_decide_eq_true (by kernel_rfl)⟩).imp
    fun T ⟨Ts, hT, T0, _, e0, ⟨a0, q0, _⟩, T1, _, e1, ⟨a1, q1, _⟩, T2, _, e2, ⟨a2, q2, _⟩, T3, _, e3, ⟨a3, q3, _⟩, T4, _, e4, ⟨a4, q4, _⟩, T5, _, e5, ⟨a5, q5, _⟩, e6⟩ => by
      subst e6; subst e5; subst e4; subst e3; subst e2; subst e1; subst e0; subst hT
      exact ⟨⟨a0, a1, a2, a3, a4, a5⟩, by rw [er_st]; simp only [List.map_cons, List.map_nil, q0, q1, q2, q3, q4, q5], trivial⟩
theorem o_rF : OpensT enc Tryz.prog W 115 fun T => ∃ l : List F, er T = rF true l ∧ l.length ≤ 9223372036854775807 ∧ ∀ a ∈ l, True :=
  opensT_rowOf (k := ⟨6, false⟩) Tryz.underlying115 (by kernel_rfl) (by decide) o_F (fun _ _ => rfl)
set_option maxRecDepth 20000 in
theorem o_Pt : OpensT enc Tryz.prog W 117 fun T => ∃ p : Pt, er T = ePt true true p ∧ hugeP p :=
  (opensT_struct Tryz.underlying117 (Qs := [_, _, _, _, _, _]) ⟨rfl, _, _, rfl, o_rI, by kernel_rfl, _, _, rfl, o_rF, by kernel_rfl, _, _, rfl, o_int, by kernel_rfl, _, _, rfl, o_int, by kernel_rfl, _, _, rfl, o_rI, by kernel_rfl, _, _, rfl, o_rII, rfl, of_decide_eq_true (by kernel_rfl)⟩).imp
    fun T ⟨Ts, hT, T0, _, e0, ⟨a0, q0, l0⟩, T1, _, e1, ⟨a1, q1, l1, _⟩, T2, _, e2, ⟨a2, q2, _⟩, T3, _, e3, ⟨a3, q3, _⟩, T4, _, e4, ⟨a4, q4, l4⟩, T5, _, e5, ⟨a5, q5, l5, k5⟩, e6⟩ => by
      subst e6; subst e5; subst e4; subst e3; subst e2; subst e1; subst e0; subst hT
      exact ⟨⟨a0, a1, a2, a3, a4, a5⟩, by rw [er_st]; simp only [List.map_cons, List.map_nil, q0, q1, q2, q3, q4, q5], l0, l1, l4, l5, k5⟩
theorem o_rP : OpensT enc Tryz.prog W 22 fun T => ∃ l : List Pt, er T = sl true ⟨6, true⟩ (l.map (ePt true true)) ∧ l.length ≤ 9223372036854775807 ∧ ∀ p ∈ l, hugeP p :=
  opensT_rowOf (k := ⟨6, true⟩) Tryz.underlying22 (by kernel_rfl) (by decide) o_Pt (fun h => by cases h)
set_option maxRecDepth 20000 in
theorem o_Sa : OpensT enc Tryz.prog W 24 fun T => ∃ s : Sa, er T = eSa true true true s ∧ hugeA s :=
  (opensT_struct Tryz.underlying24 (Qs := [_, _]) ⟨rfl, _, _, rfl, o_rP, by kernel_rfl, _, _, rfl, o_int, rfl, of_decide_eq_true (by kernel_rfl)⟩).imp
    fun T ⟨Ts, hT, T0, _, e0, ⟨a0, q0, l0, k0⟩, T1, _, e1, ⟨a1, q1, _⟩, e2⟩ => by
      subst e2; subst e1; subst e0; subst hT
      exact ⟨⟨a0, a1⟩, by rw [er_st]; simp only [List.map_cons, List.map_nil, q0, q1], l0, k0⟩
set_option maxRecDepth 20000 in
theorem o_S : OpensT enc Tryz.prog W 27 fun T => ∃ s : Sx, er T = eS true s ∧ hugeS s :=
  (opensT_struct Tryz.underlying27 (Qs := [_, _, _]) ⟨rfl, _, _, rfl, o_rI, by kernel_rfl, _, _, rfl, o_rI, by kernel_rfl, _, _, rfl, o_rI, rfl, of_decide_eq_true (by kernel_rfl)⟩).imp
    fun T ⟨Ts, hT, T0, _, e0, ⟨a0, q0, l0⟩, T1, _, e1, ⟨a1, q1, l1⟩, T2, _, e2, ⟨a2, q2, l2⟩, e3⟩ => by
      subst e3; subst e2; subst e1; subst e0; subst hT
      exact ⟨⟨a0, a1, a2⟩, by rw [er_st]; simp only [List.map_cons, List.map_nil, q0, q1, q2], l0, l1, l2⟩
end
/-- What a law on runs computes. -/
theorem told {g : FuncId} (hs : cx.sig g = ⟨[], [], [], false⟩) (ht : ∀ (s : Sa) (x : Sx) (n : Int), hugeA s → hugeS x → tw cx g [eSa true true true s, eS true x, i64 n] = some ([tb true], []))
    {W : World} {T0 T1 T2 : LT} {s : Sa} {x : Sx} {n : Int} (m0 : Mem W T0) (m1 : Mem W T1) (m2 : Mem W T2) (w0 : Tree.own T0 = []) (w1 : Tree.own T1 = []) (w2 : Tree.own T2 = []) (e0 : er T0 = eSa true true true s) (e1 : er T1 = eS true x) (e2 : er T2 = i64 n)
    (h1 : hugeA s) (h2 : hugeS x) :
    Calls Tryz.prog g #[valOf T0, valOf T1, valOf T2] W fun e w' => e = .returned (.bool true) ∧ Go.RowKit.Below W.heap.size W w' :=
  calls_ro (cx := cx) ok (f := g) hs (Ts := [T0, T1, T2]) (v := .bool true) (fun T hT => by
      simp only [List.mem_cons, List.not_mem_nil, or_false] at hT
      rcases hT with rfl | rfl | rfl <;> assumption)
    (fun T hT => by
      simp only [List.mem_cons, List.not_mem_nil, or_false] at hT
      rcases hT with rfl | rfl | rfl <;> assumption)
    (by rw [List.map_cons, List.map_cons, List.map_cons, List.map_nil, e0, e1, e2]; exact ht s x n h1 h2)
end Go.Tree.Q
