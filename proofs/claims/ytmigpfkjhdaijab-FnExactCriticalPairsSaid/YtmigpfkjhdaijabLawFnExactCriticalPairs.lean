/- The row of FnExactCriticalPairs: the program's CriticalPairs answers as the reference's, for every rules. Conditions: none beyond the statement's own. -/
import Derived.Test.YtmigpfkjhdaijabRows
import Derived.Test.YtmigpfkjhdaijabCritHand
import Derived.Test.YtmigpfkjhdaijabPureFnExactCriticalPairs
import Derived.WalkKit
import Derived.ProofKit
import Derived.OpenShut
import Derived.ShutString
import Derived.ChangeOld
import Derived.Below
import Derived.SizedLaws
import Derived.Test.YtmigpfkjhdaijabWSized
namespace Go.Proofs.Ytmigpfkjhdaijab.CP
set_option linter.unusedSimpArgs false
set_option linter.unusedVariables false
open Go.RowKit Go.Proofs.YtmigpfkjhdaijabW.PrintWords Go.Proofs.YtmigpfkjhdaijabW.PrintLast Go.Proofs.YtmigpfkjhdaijabW.PrintMore
/-! ### What an argument that is read as data holds: of every kind -/
section
open Go.ChangeShapes Go.WideShapes Go.Deep
variable {H : Type} {enc : TypeId × Value → H} {P : Program} {W : World}
/-- Whatever reads as data of type t is told by kind k, and G holds of it. -/
def Opens {α : Type} (enc : TypeId × Value → H) (P : Program) (W : World) (t : TypeId) (k : Kd α) (G : α → Prop) : Prop :=
  ∀ (fuel : Nat) (cs : List Value) (x : DataW H × List MemPlace), DataW.trod enc P W 0 (fun _ => true) true fuel t cs = some x → ∃ a : α, k.K W a cs ∧ G a
theorem opens_int {t : TypeId} {ik : IntKind} (ht : P.underlying t = some (.int ik)) : Opens enc P W t (Kd.int ik) (fun a => (Lit.int ik a).wf = true) := fun fuel cs x h => by
  obtain ⟨n, rfl, _, hw⟩ := DataW.trod_int ht h
  exact ⟨n, rfl, hw⟩
theorem opens_bool {t : TypeId} (ht : P.underlying t = some .bool) : Opens enc P W t Kd.bool (fun _ => True) := fun fuel cs x h => by
  obtain ⟨b, rfl, _⟩ := DataW.trod_bool ht h
  exact ⟨b, rfl, trivial⟩
theorem opens_string {t : TypeId} (ht : P.underlying t = some .string) : Opens enc P W t Kd.string (fun a => a.size ≤ 9223372036854775807) := fun fuel cs x h => by
  obtain ⟨s, rfl, _, hm⟩ := DataW.trod_string ht h
  exact ⟨s, rfl, by unfold maxLen at hm; exact hm⟩
/-- A row of elements that can be told. -/
theorem opens_row {α : Type} {k : Kd α} {G : α → Prop} {e : TypeId} (hC : P.cellsOf e = k.sz) (he : Opens enc P W e k G) (a : Addr) : ∀ (len : Nat) (n : Nat) (D : Nat → DataW H) (Pl : Nat → List MemPlace),
    (∀ i, i < len → ∃ cs', W.cells? 0 (a.add (i * P.cellsOf e)) (P.cellsOf e) = some cs' ∧ DataW.trod enc P W 0 (fun _ => true) true n e cs' = some (D i, Pl i)) →
    ∃ l : List α, l.length = len ∧ (∀ y ∈ l, G y) ∧ ∀ j p, l[j]? = some p → ∃ c, c.length = k.sz ∧ k.K W p c ∧ ∀ i u, c[i]? = some u → W.cell? (a.add (j * k.sz + i)) = some u := by
  intro len
  induction len with
  | zero => exact fun n D Pl _ => ⟨[], rfl, by simp, fun j p h => by simp at h⟩
  | succ len ih =>
    intro n D Pl h
    obtain ⟨l, hl, hg, hr⟩ := ih n D Pl (fun i hi => h i (by omega))
    obtain ⟨cs', hc, ht⟩ := h len (by omega)
    obtain ⟨y, hk, hy⟩ := he n cs' _ ht
    obtain ⟨_, hcl, hat⟩ := World.cells?_some hc
    refine ⟨l ++ [y], by simp [hl], fun z hz => ?_, fun j p hj => ?_⟩
    · rcases List.mem_append.1 hz with hz | hz
      · exact hg z hz
      · rw [List.mem_singleton.1 hz]
        exact hy
    · by_cases hlt : j < l.length
      · rw [List.getElem?_append_left hlt] at hj
        exact hr j p hj
      · rw [List.getElem?_append_right (by omega)] at hj
        have hj0 : j = l.length := by
          by_cases h0 : j - l.length = 0
          · omega
          · rw [List.getElem?_eq_none (by simp; omega)] at hj
            cases hj
        subst hj0
        simp only [Nat.sub_self, List.getElem?_cons_zero, Option.some.injEq] at hj
        subst hj
        refine ⟨cs', by rw [hcl, hC], hk, fun i u hi => ?_⟩
        have hi2 : i < cs'.length := (List.getElem?_eq_some_iff.1 hi).1
        have h3 := hat i (by omega)
        rw [hl, ← Go.Deep.add_add, ← hC, h3]
        exact hi
theorem opens_slice {α : Type} {k : Kd α} {G : α → Prop} {t e : TypeId} (ht : P.underlying t = some (.slice e)) (hC : P.cellsOf e = k.sz) (he : Opens enc P W e k G) :
    Opens enc P W t (Kd.slice e k) (fun l => l.length ≤ 9223372036854775807 ∧ ∀ y ∈ l, G y) := fun fuel cs x h => by
  rcases open_slice ht h with ⟨rfl, _⟩ | ⟨a, len, cap, m, n, D, Pl, rfl, _, hl, hm, hmm, _, hi⟩
  · exact ⟨[], ⟨none, 0, rfl, Nat.le_refl _, ⟨rfl, by simp, fun h => absurd h (Nat.lt_irrefl 0)⟩⟩, by simp, by simp⟩
  · have hm2 : len ≤ m := by rw [hmm]; simpa using hl
    obtain ⟨l, rfl, hg, hr⟩ := opens_row hC he a len n D Pl (fun i h0 => hi i (by omega))
    have hb : l.length ≤ 9223372036854775807 := by unfold maxLen at hm; omega
    exact ⟨l, ⟨some a, cap, rfl, hl, ⟨rfl, hb, fun _ => ⟨a, rfl, hr⟩⟩⟩, hb, hg⟩
/-- An argument that is a slice, at a law's row. -/
theorem opens_arg {α : Type} {k : Kd α} {G : α → Prop} {t e : TypeId} {A : Option Addr} {len cap : Nat} {d : DataW H} {ps : List MemPlace} {ts : List TypeId} {ds : List (DataW H)} {j : Nat}
    (hsz : (DataW.weightsEach P ts ds).all (· ≤ reachBytes) = true) (hts : ts[j]? = some t) (hds : ds[j]? = some d) (ht : P.underlying t = some (.slice e)) (hC : P.cellsOf e = k.sz) {B : Nat} (hB : P.bytesOf e = B) (he : Opens enc P W e k G)
    (h : DataW.Trod enc P W 0 (fun _ => true) true t (.slice A len cap) d ps) :
    ∃ l : List α, len = l.length ∧ k.C W A l.length l ∧ l.length ≤ cap ∧ l.length * B ≤ 140737488351232 ∧ (l.length ≤ 9223372036854775807 ∧ ∀ y ∈ l, G y) := by
  obtain ⟨fuel, hf⟩ := h
  obtain ⟨l, ⟨A', c', e', hle, hC'⟩, hg⟩ := opens_slice ht hC he fuel _ _ hf
  simp only [Value.cells, List.cons.injEq, Value.slice.injEq, and_true] at e'
  obtain ⟨rfl, rfl, rfl⟩ := e'
  refine ⟨l, rfl, hC', hle, ?_, hg⟩
  rcases open_slice ht hf with ⟨hcs, _⟩ | ⟨a, len, cap', m, n, D, Pl, hcs, _, hl, hm, hmm, hx, hi⟩
  · simp only [Value.cells, List.cons.injEq, Value.slice.injEq, and_true] at hcs
    obtain ⟨_, h0, _⟩ := hcs
    rw [h0]
    simp
  · simp only [Value.cells, List.cons.injEq, Value.slice.injEq, and_true] at hcs
    obtain ⟨rfl, rfl, rfl⟩ := hcs
    obtain ⟨hx, _⟩ := Prod.mk.inj hx
    subst hx
    have z := sized_slice hsz hts hds ht
    rw [hB] at z
    simp only [List.length_map, List.length_range] at z
    exact Nat.le_trans (Nat.mul_le_mul_right _ (by omega)) z
theorem some_of_length {α : Type} {l : List α} {n i : Nat} (h : l.length = n) (hi : i < n) : ∃ y, l[i]? = some y := ⟨_, List.getElem?_eq_getElem (by omega)⟩
end

section
open Go.ChangeShapes Go.WideShapes Go.Deep
set_option maxRecDepth 100000 in
theorem opens_T72 {H : Type} {enc : TypeId × Value → H} {W : World} : Opens enc Try.prog W 72 k72 G72 := fun fuel cs x h => by
  obtain ⟨ys, n, rfl, _, hl, hyl, hf⟩ := DataW.trod_struct Try.underlying72 h
  have hl2 : cs.length = 2 := hl.trans (by kernel_rfl)
  have hy2 : ys.length = 2 := hyl
  obtain ⟨c0, c1, rfl⟩ : ∃ c0 c1, cs = [c0, c1] := by
    match cs, hl2 with
    | [c0, c1], _ => exact ⟨c0, c1, rfl⟩
  obtain ⟨y0, hy0⟩ := some_of_length (i := 0) hy2 (by omega)
  have z0 : Try.prog.cellsOf 9 = 1 := by kernel_rfl
  have h0 : DataW.trod enc Try.prog W 0 (fun _ => true) true n 9 (([c0, c1].drop 0).take (Try.prog.cellsOf 9)) = some y0 := (hf 0 _ rfl).trans hy0
  rw [z0] at h0
  simp only [List.drop_zero, List.drop_succ_cons, List.take_succ_cons, List.take_zero] at h0
  obtain ⟨a0, k0_, g0⟩ := (opens_string Try.underlying9) n _ y0 h0
  obtain ⟨y1, hy1⟩ := some_of_length (i := 1) hy2 (by omega)
  have z1 : Try.prog.cellsOf 9 = 1 := by kernel_rfl
  have h1 : DataW.trod enc Try.prog W 0 (fun _ => true) true n 9 (([c0, c1].drop 1).take (Try.prog.cellsOf 9)) = some y1 := (hf 1 _ rfl).trans hy1
  rw [z1] at h1
  simp only [List.drop_zero, List.drop_succ_cons, List.take_succ_cons, List.take_zero] at h1
  obtain ⟨a1, k1_, g1⟩ := (opens_string Try.underlying9) n _ y1 h1
  exact ⟨⟨a0, a1⟩, ⟨_, _, rfl, k0_, k1_⟩, g0, g1⟩
end
end Go.Proofs.Ytmigpfkjhdaijab.CP
namespace Go.Proofs.Ytmigpfkjhdaijab.fnExactCriticalPairs
open Go.ChangeShapes Go.WideShapes Go.ChangeAt Go.RowKit Go.Proofs.Ytmigpfkjhdaijab Go.Proofs.Ytmigpfkjhdaijab.CP Go.Proofs.YtmigpfkjhdaijabW.PrintWords Go.Proofs.YtmigpfkjhdaijabW.PrintLast
open Go.ChangeMaps (open_string shut_string)
set_option linter.unusedVariables false
theorem own : ownKnob Try.prog.godebug = none := by kernel_rfl
theorem laidOut : laidOutB Try.prog = true := by kernel_rfl
set_option maxRecDepth 100000 in
theorem lifted (os : Os) (started : os.Started) (H : Type) (enc : TypeId × Value → H) :
    ReturnsInHanded {} Try.checked os 4 .any (Rows.fnExactCriticalPairsSpec.pre6 enc Try.prog Try.f4 Rows.fnExactCriticalPairsRow.domain false) (Rows.fnExactCriticalPairsSpec.post enc Try.prog Try.f4 false true false false) := by
  refine returnsInHanded_of_change_sized (C := Try.checked) own started (by kernel_rfl) Try.func4
    (ChangeSpec.witness6 (enc := enc) (C := Try.checked) false ⟨#[], #[.slice none 0 0], []⟩ 8 (by kernel_rfl) (by kernel_rfl) (by kernel_rfl) (by kernel_rfl)) ?_
  intro W base args ds gs before hval0 hW hcnd hsz0 _
  have hsz : (DataW.weightsEach Try.prog (Try.f4.params.toList ++ Rows.fnExactCriticalPairsSpec.plain.varTypes Try.prog) (ds ++ gs)).all (· ≤ reachBytes) = true := hsz0
  have hval : ∀ (j : Nat) t v, Try.f4.params[j]? = some t → args[j]? = some v → Value.okWide Try.prog W .any base t v := hval0
  have hW' := hW
  obtain ⟨p, q, hA0, hV, rfl, hfz, hnd⟩ := hW
  have hA : DataW.TrodAll enc Try.prog W 0 (fun _ => true) true Try.f4.params.toList args.toList ds p := hA0
  rw [Try.params4] at hA hval hsz
  obtain ⟨v0, vs0, d0, ds0, p0, q0, hargs, rfl, rfl, h0, r0⟩ := trodAll_cons hA
  obtain ⟨rfl, rfl, rfl⟩ := trodAll_nil r0
  obtain rfl : args = #[v0] := by cases args; simp_all
  obtain ⟨rfl, rfl⟩ := trodVars_none hV
  obtain ⟨A0, len0, c0, rfl⟩ := okWide_slice Try.underlying38 (hval 0 38 v0 rfl rfl)
  have k0 := h0
  have lt0 : ∀ x ∈ p0, x.block < W.heap.size := by obtain ⟨m, hm⟩ := k0; exact DataW.trod_lt m _ _ _ hm
  obtain ⟨l0, rfl, hr0, hc0, y0, g0⟩ := opens_arg hsz (j := 0) (t := 38) rfl rfl Try.underlying38 (by kernel_rfl) (B := 32) (by kernel_rfl) (opens_T72) h0
  clear hA0 hval0 hsz0 hsz
  refine (Pure.FnExactCriticalPairs A0 c0 l0 W hr0 hc0 g0).mono fun e W' ⟨he, bel⟩ => ?_
  subst he
  exact ⟨_, rfl, _, _, _, [], _, [], hW', trodAll_mk1 (shut_bool Try.underlying4 _), (trodAll_cons_mk (Below.trod laidOut (by kernel_rfl) (of_decide_eq_true (by kernel_rfl)) k0 bel lt0) trodAll_mk0), rfl, bel.frame _, fun h => by cases h⟩
theorem over : Rows.fnExactCriticalPairsRow.holds Try.pinned (OpenSpec.ofChange Rows.fnExactCriticalPairsSpec) :=
  OpenClaim.holds_of_wide 4 Try.f4 rfl rfl rfl rfl rfl rfl rfl ⟨rfl, rfl, rfl, rfl, rfl⟩ rfl rfl rfl rfl rfl (by kernel_rfl) Try.func4 (by kernel_rfl)
    (of_decide_eq_true (by kernel_rfl)) (by unfold Func.isWrapper; first | (rw [if_pos (by decide +kernel)]; kernel_rfl) | (rw [if_neg (by decide +kernel)]; exact ⟨rfl, rfl⟩))
    (fun os started H enc _ => lifted os started H enc)
theorem proved : Rows.FnExactCriticalPairsSaid := over
#print axioms proved
end Go.Proofs.Ytmigpfkjhdaijab.fnExactCriticalPairs
namespace Go.Proofs.Ytmigpfkjhdaijab
/-- The row, under a short name, for the claim. -/
theorem fnExactCriticalPairs_holds : Rows.FnExactCriticalPairsSaid := fnExactCriticalPairs.proved
end Go.Proofs.Ytmigpfkjhdaijab
