/- What was given by hand holds; what the law is handed. Conditions: none. -/
import Derived.Test.YtmgkciadnmnbjaaGreatMc
import Derived.Test.YtmgkciadnmnbjaaGreatMs
import Derived.Test.YtmgkciadnmnbjaaGreatMt3
import Derived.WalkKit
import Derived.ProofKit
/- order is given by hand: what is given holds. -/
namespace Go.Tree.Q
open Go.Proofs Go.Proofs.YtmgkciadnmnbjaaGreat.Ord
set_option linter.unusedVariables false
set_option linter.unusedSimpArgs false
theorem row_inv [Pol] {T : LT} {q : Bool} {k : Ek} {xs : List TV} (e : er T = .sl q k () xs) : ∃ h X, T = .sl q k h X ∧ xs = X.map er := er_sl_inv e
theorem ints_inv [Pol] : ∀ {X : List LT} {m : List Nat}, O.nT m = X.map er → X = m.map fun (a : Nat) => (.fl (.int .i64 (a : Int)) : LT)
  | [], [], _ => rfl
  | [], _ :: _, h => by simp [O.nT] at h
  | _ :: _, [], h => by simp [O.nT] at h
  | x :: X, a :: m, h => by
    simp only [O.nT, List.map_cons, List.cons.injEq] at h
    rw [List.map_cons, er_fl_inv h.1.symm, ints_inv (X := X) (m := m) h.2]
theorem ints_cells (m : List Nat) : cellsL (m.map fun (a : Nat) => (.fl (.int .i64 (a : Int)) : LT)) = m.map fun (a : Nat) => Value.int .i64 (a : Int) := by
  rw [cellsL_eq]
  induction m with
  | nil => rfl
  | cons x m ih => simp only [List.map_cons, List.flatMap_cons] at ih ⊢; rw [ih]; rfl
theorem cellsL_one {X : List LT} (h : ∀ x ∈ X, (cells x).length = 1) : ∀ (k : Nat) (hk : k < X.length), ∃ v, cells X[k] = [v] ∧ (cellsL X)[k]? = some v := by
  induction X with
  | nil => intro k hk; simp at hk
  | cons x X ih =>
    intro k hk
    have hx := h x List.mem_cons_self
    obtain ⟨v, hv⟩ := List.length_eq_one_iff.1 hx
    rw [cellsL]
    cases k with
    | zero => exact ⟨v, hv, by rw [hv]; rfl⟩
    | succ k =>
      obtain ⟨u, h1, h2⟩ := ih (fun y hy => h y (List.mem_cons_of_mem _ hy)) k (by simpa using hk)
      exact ⟨u, h1, by rw [hv]; simpa using h2⟩
theorem gx_of [Pol] {w : World} {hp : Value} {q : Bool} {k : Ek} {hd : Value} {rows : List LT} {next : List TV} {N : List (List Nat)} (hm : Mem w (.pt true hp (.st [.sl q k hd rows]))) (hn : next = rows.map er) (ha : O.ask next N) :
    ∃ gb, hp = .pointer (some gb) ∧ Gx w gb N := by
  obtain ⟨⟨b, o, rfl, hb, hr, _⟩, hst⟩ := hm
  have hU : Mem w (.sl q k hd rows) := hst.1
  obtain ⟨⟨A, c, rfl, hc, hl, hx⟩, hk, hmx⟩ := hU
  obtain ⟨⟨hlen, hrows⟩, a1, a2, a3⟩ := ha
  have hrl : rows.length = N.length := by rw [← hlen, hn, List.length_map]
  refine ⟨⟨b, o, none⟩, rfl, A, c, ?_, fun i hi => ?_⟩
  · have := hr 0 (.slice A rows.length c) rfl
    rw [Nat.add_zero, hrl] at this
    exact this
  · have hir : i < rows.length := by omega
    obtain ⟨b2, o2, rfl, hb2, hr2, _⟩ := hx (by omega)
    obtain ⟨q', e'⟩ := hrows i hi
    rw [hn, List.getElem?_map, List.getElem?_eq_getElem hir] at e'
    simp only [Option.map_some, Option.some.injEq] at e'
    obtain ⟨hk2, X, hT, hX⟩ := row_inv e'
    have hone : ∀ x ∈ rows, (cells x).length = 1 := fun x hx => by
      have h1 := (hk x hx).1
      have h2 := (hk rows[i] (List.getElem_mem hir)).1
      rw [hT] at h2
      have h3 : (cells (.sl q' ⟨1, false⟩ hk2 X : LT)).length = 1 := rfl
      omega
    obtain ⟨v, hv, hci⟩ := cellsL_one hone i hir
    rw [hT] at hv
    have hv : [hk2] = [v] := hv
    injection hv with hv _
    subst hv
    have hc2 := hr2 i hk2 hci
    have hmi : Mem w rows[i] := memL_iff.1 hmx _ (List.getElem_mem hir)
    rw [hT] at hmi
    obtain ⟨⟨Ak, ck, rfl, hc3, hl3, hx3⟩, _, _⟩ := hmi
    have hX' := ints_inv hX
    have hXl : X.length = N[i].length := by rw [hX', List.length_map]
    refine ⟨⟨b2, o2, none⟩, Ak, ck, rfl, ?_, fun j hj => ?_⟩
    · rw [Addr.add_mid, hc2, hXl]
    · obtain ⟨b3, o3, rfl, hb3, hr3, _⟩ := hx3 (by omega)
      refine ⟨⟨b3, o3, none⟩, rfl, ?_⟩
      rw [Addr.add_mid]
      refine hr3 j _ ?_
      rw [hX', ints_cells, List.getElem?_map, List.getElem?_eq_getElem hj]
      rfl
theorem givenOk : GivenOk cx := by
  intro f g hg Ts w r hr hm hnd hss hwm
  letI : Pol := cx.pol 43
  have hf : f = 43 := by
    by_cases c : f = 43
    · exact c
    · exfalso
      have : Nat.beq f 43 = false := by
        cases h : Nat.beq f 43 with
        | false => rfl
        | true => exact absurd (Nat.eq_of_beq_eq_true h) c
      have h2 : (bif Nat.beq f 43 then some O.g49 else none) = some g := hg
      rw [this] at h2; cases h2
  subst hf
  have hg : O.g49 = g := by injection (show some O.g49 = some g from hg)
  subst hg
  obtain ⟨q, k, next, N, e, ha, rfl⟩ := O.g49_inv hr
  obtain ⟨T, rfl, hT⟩ := List.map_eq_singleton_iff.1 e
  obtain ⟨hp, y, rfl, hy⟩ := er_pt_inv hT
  obtain ⟨us, rfl, hu⟩ := er_st_inv hy.symm
  obtain ⟨U, rfl, hU⟩ := List.map_eq_singleton_iff.1 hu.symm
  obtain ⟨hd, rows, rfl, hrows⟩ := er_sl_inv hU
  obtain ⟨gb, rfl, hgx⟩ := gx_of hm.1 hrows ha
  have hN : ∀ (k : Nat) (h : k < N.length), N[k].length ≤ 12 ∧ ∀ x ∈ N[k], x < N.length := ha.2.2.2
  refine (R.order w gb N hgx ha.2.1 ha.2.2.1 hN).mono ?_
  rintro e w' ⟨v, rfl, hb, Y, hY, hmY, hblk⟩
  have hfl : allL Y = [] := R.flat fun x hx => (hmY.2.1 x hx).2 rfl
  have ho : ownL [(.sl false ⟨1, false⟩ v Y : LT)] = blk v := by simp [ownL, own, R.flat_own hfl]
  have hs : shrL [(.sl false ⟨1, false⟩ v Y : LT)] = [] := by simp [shrL, shr, R.flat_shr hfl]
  refine ⟨[.sl false ⟨1, false⟩ v Y], [], ?_, rfl, rfl, ⟨hmY, trivial⟩, ?_, ?_, ?_, ?_, ?_, ?_⟩
  · rw [List.map_cons, List.map_nil, er_sl, hY]
    rfl
  · rw [List.append_nil, ho]
    unfold blk; split <;> simp
  · rw [List.append_nil, hs]; intro b hb; cases hb
  · rw [List.append_nil, ho]
    exact fun b hb => .inr (hblk b hb)
  · rw [List.append_nil, hs]; intro b hb; cases hb
  · exact ⟨hb.os, hb.tape, hb.output, hb.size, fun i hi _ => hb.block i hi⟩
  · exact .inr ⟨.inl rfl, rfl⟩
theorem ok : CallsOk cx.P cx.sig (tw cx) := tw_calls (tcall_ok givenOk R.noNG' R.mixed)
end Go.Tree.Q

/- The law FnExactDomTree: what it is handed. -/
namespace Go.Tree.Q
open Go.Proofs
set_option linter.unusedVariables false
set_option linter.unusedSimpArgs false
set_option linter.unusedSectionVars false
section
variable {H : Type} {enc : TypeId × Value → H} {W : World} [Pol]
theorem o_int : OpensT enc Tryz.prog W 3 fun T => ∃ n : Int, er T = i64 n ∧ True := (opensT_int Tryz.underlying3).imp fun T ⟨n, h, _⟩ => ⟨n, h, trivial⟩
theorem o_ints : OpensT enc Tryz.prog W 36 fun T => ∃ l : List Int, er T = rI true l ∧ l.length ≤ 9223372036854775807 ∧ ∀ a ∈ l, True :=
  opensT_rowOf (k := ⟨1, false⟩) Tryz.underlying36 (by kernel_rfl) (by decide) o_int (fun _ _ => rfl)
set_option maxRecDepth 20000 in
theorem o_F : OpensT enc Tryz.prog W 83 fun T => ∃ x : F, er T = eF x ∧ True :=
  (opensT_struct Tryz.underlying83 (Qs := [_, _, _, _, _, _]) ⟨rfl, _, _, rfl, o_int, by kernel_rfl, _, _, rfl, o_int, by kernel_rfl, _, _, rfl, o_int, by kernel_rfl, _, _, rfl, o_int, by kernel_rfl, _, _, rfl, o_int, by kernel_rfl, _, _, rfl, o_int, rfl, of_decide_eq_true (by kernel_rfl)⟩).imp
    fun T ⟨Ts, hT, T0, _, e0, ⟨a0, q0, _⟩, T1, _, e1, ⟨a1, q1, _⟩, T2, _, e2, ⟨a2, q2, _⟩, T3, _, e3, ⟨a3, q3, _⟩, T4, _, e4, ⟨a4, q4, _⟩, T5, _, e5, ⟨a5, q5, _⟩, e6⟩ => by
      subst e6; subst e5; subst e4; subst e3; subst e2; subst e1; subst e0; subst hT
      exact ⟨⟨a0, a1, a2, a3, a4, a5⟩, by rw [er_st]; simp only [List.map_cons, List.map_nil, q0, q1, q2, q3, q4, q5], trivial⟩
theorem o_rF : OpensT enc Tryz.prog W 35 fun T => ∃ l : List F, er T = rF true l ∧ l.length ≤ 9223372036854775807 ∧ ∀ a ∈ l, True :=
  opensT_rowOf (k := ⟨6, false⟩) Tryz.underlying35 (by kernel_rfl) (by decide) o_F (fun _ _ => rfl)
set_option maxRecDepth 20000 in
theorem o_B : OpensT enc Tryz.prog W 38 fun T => ∃ b : Bk, er T = eB true b ∧ (b.code.length ≤ 9223372036854775807 ∧ b.next.length ≤ 9223372036854775807) :=
  (opensT_struct Tryz.underlying38 (Qs := [_, _, _, _]) ⟨rfl, _, _, rfl, o_rF, by kernel_rfl, _, _, rfl, o_int, by kernel_rfl, _, _, rfl, o_int, by kernel_rfl, _, _, rfl, o_ints, rfl, of_decide_eq_true (by kernel_rfl)⟩).imp
    fun T ⟨Ts, hT, T0, _, e0, ⟨a0, q0, l0, _⟩, T1, _, e1, ⟨a1, q1, _⟩, T2, _, e2, ⟨a2, q2, _⟩, T3, _, e3, ⟨a3, q3, l3, _⟩, e4⟩ => by
      subst e4; subst e3; subst e2; subst e1; subst e0; subst hT
      exact ⟨⟨a0, a1, a2, a3⟩, by rw [er_st]; simp only [List.map_cons, List.map_nil, q0, q1, q2, q3], l0, l3⟩
theorem o_rB : OpensT enc Tryz.prog W 22 fun T => ∃ l : List Bk, er T = rB true true l ∧ l.length ≤ 9223372036854775807 ∧ ∀ b ∈ l, b.code.length ≤ 9223372036854775807 ∧ b.next.length ≤ 9223372036854775807 :=
  opensT_rowOf (k := ⟨4, true⟩) Tryz.underlying22 (by kernel_rfl) (by decide) o_B (fun h => by cases h)
end
/-- What the law computes. -/
theorem told {W : World} {T0 : LT} {f : List Bk} (m0 : Mem W T0) (w0 : Tree.own T0 = []) (e0 : er T0 = rB true true f)
    (h1 : f.length ≤ 9223372036854775807) (h2 : ∀ b ∈ f, b.code.length ≤ 9223372036854775807 ∧ b.next.length ≤ 9223372036854775807) :
    Calls Tryz.prog 3 #[valOf T0] W fun e w' => e = .returned (.bool true) ∧ Go.RowKit.Below W.heap.size W w' :=
  calls_ro (cx := cx) ok (f := 3) rfl (Ts := [T0]) (v := .bool true) (fun T hT => by
      simp only [List.mem_cons, List.not_mem_nil, or_false] at hT
      rcases hT with rfl <;> assumption)
    (fun T hT => by
      simp only [List.mem_cons, List.not_mem_nil, or_false] at hT
      rcases hT with rfl <;> assumption)
    (by rw [List.map_cons, List.map_nil, e0]; exact t3 f h1 h2)
end Go.Tree.Q
