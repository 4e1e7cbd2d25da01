/- The nodes of a graph in reverse postorder: the walk, by hand. Conditions: none. -/
import Derived.Test.YtmgkciadnmnbjaaGreatProg
import Derived.Test.YtmgkciadnmnbjaaGreatMo
import Derived.Below
import Derived.Deep.Draws
import Derived.Deep.AppendLies
import Derived.Maps.AppendAt
import Derived.OwnWalk
import Derived.Laws.BytesArg
import Derived.Laws.MakeOwn
import Derived.Laws.OwnMore
import Derived.Deep.OwnRows
import Derived.Tactics
import Derived.Lib.ConvBytes
import Derived.Laws.Slices
import Derived.WalkKit
import Derived.KernelRfl
import Derived.RowKit3
import Derived.Deep.LoopGhost
import Derived.Deep.QuietTactic
import Derived.BigQuiet
import Derived.WideLaws
import Derived.Deep.DeepCutAuto
import Derived.Deep.CutBlock
import Derived.Deep.RegionHeld3
import Derived.Laws.Rows
import Derived.Lib.AppendStr
import Derived.ArgAppend
import Derived.Laws.IdiomCopy
import Derived.OrdersHeld
import Derived.Laws.BitsLemmas
import Derived.RowKit
import Derived.ProofKit
import Derived.OpenShut
import Derived.ShutString
import Derived.ChangeOld
import Derived.SizedLaws
import Derived.Deep.Slices
import Derived.Deep.Fields
import Derived.ChangeSame
import Derived.ChangeSlices
import Derived.Shelf.Abstract
import Derived.Test.YtmgkciadnmnbjaaGreatWWords
import Derived.Test.YtmgkciadnmnbjaaGreatWLast
import Derived.Test.YtmgkciadnmnbjaaGreatWTab
import Derived.Test.YtmgkciadnmnbjaaGreatWFour
import Derived.Test.YtmgkciadnmnbjaaGreatWQPut
import Derived.Test.YtmgkciadnmnbjaaGreatWApart
import Derived.Test.YtmgkciadnmnbjaaGreatWArr
import Derived.Test.YtmgkciadnmnbjaaGreatWZeros
import Derived.Test.YtmgkciadnmnbjaaGreatWFoot
import Derived.Test.YtmgkciadnmnbjaaGreatWKept
import Derived.Test.YtmgkciadnmnbjaaGreatWShare
import Derived.Test.YtmgkciadnmnbjaaGreatWN
import Derived.Test.YtmgkciadnmnbjaaGreatWFootNe
import Derived.Test.YtmgkciadnmnbjaaGreatWAt
import Derived.Test.YtmgkciadnmnbjaaGreatWEqStruct
import Derived.Test.YtmgkciadnmnbjaaGreatWRepsOne
import Derived.Test.YtmgkciadnmnbjaaGreatWInv
import Derived.Test.YtmgkciadnmnbjaaGreatWInvWords
import Derived.Test.YtmgkciadnmnbjaaGreatWGuard
import Derived.Test.YtmgkciadnmnbjaaGreatWNEv
import Derived.Test.YtmgkciadnmnbjaaGreatWMore
import Derived.Test.YtmgkciadnmnbjaaGreatMr
namespace Go.Proofs.YtmgkciadnmnbjaaGreat.Ord
open Go.RowKit Go.Proofs.YtmgkciadnmnbjaaGreatW.PrintWords Go.Proofs.YtmgkciadnmnbjaaGreatW.PrintLast Go.Proofs.YtmgkciadnmnbjaaGreatW.PrintMore
set_option linter.unusedVariables false
set_option linter.unusedSimpArgs false
/-- A graph in memory. -/
def Gx (w : World) (gb : Addr) (N : List (List Nat)) : Prop :=
  ∃ A c, w.cell? gb = some (.slice A N.length c) ∧ ∀ k (h : k < N.length), ∃ ad Ak ck, A = some ad ∧ w.cell? (ad.add k) = some (.slice Ak N[k].length ck) ∧ ∀ j (h2 : j < N[k].length), ∃ ak, Ak = some ak ∧ w.cell? (ak.add j) = some (.int .i64 (N[k][j] : Nat))
open Go.Tree.O (visV)
abbrev bls (bs : List Bool) : Array Value := (bs.map fun b => Value.bool b).toArray
def nis (ts : List Nat) : List Int := ts.map fun (a : Nat) => (a : Int)
theorem nis_len (ts : List Nat) : (nis ts).length = ts.length := by simp [nis]
theorem nis_snoc (ts : List Nat) (k : Nat) : nis (ts ++ [k]) = nis ts ++ [(k : Int)] := by simp [nis]
/-- What lies there while one goes on. -/
structure St (w0 W : World) (gb : Addr) (n B : Nat) (bs : List Bool) (out : List Nat) : Prop where
  below : Below w0.heap.size w0 W
  g : W.heap[B]? = some (.cells #[.pointer (some gb)] 92 (0, 0))
  row : W.heap[B + 1]? = some (.cells (bls bs) 4 (0, 0))
  len : bs.length = n
  seen : W.heap[B + 3]? = some (.cells #[.slice (some ⟨B + 1, 0, none⟩) n n] 68 (0, 0))
  out : ∃ ov, W.heap[B + 4]? = some (.cells #[ov] 36 (0, 0)) ∧ Kd.R (Kd.int .i64) 3 W w0.heap.size (fun _ => True) ov (nis out)
  fn : W.heap[B + 5]? = some (.cells #[.func (.func 63) #[] #[.pointer (some ⟨B + 3, 0, none⟩), .pointer (some ⟨B, 0, none⟩), .pointer (some ⟨B + 5, 0, none⟩), .pointer (some ⟨B + 4, 0, none⟩)]] 93 (0, 0))
theorem St.cell {w0 W : World} {gb : Addr} {n B : Nat} {bs : List Bool} {out : List Nat} (h : St w0 W gb n B bs out) {p : Addr} {v : Value} (hv : w0.cell? p = some v) : W.cell? p = some v := (h.below.cell (World.block_lt_of_cell? w0 _ hv)).trans hv
theorem St.mark {w0 W : World} {gb : Addr} {n B : Nat} {bs : List Bool} {out : List Nat} (hB : w0.heap.size ≤ B) (h : St w0 W gb n B bs out) (k : Nat) : St w0 (W.setCell ⟨B + 1, k, none⟩ (.bool true)) gb n B (bs.set k true) out := by
  have far : ∀ b : Nat, b ≠ B + 1 → (W.setCell ⟨B + 1, k, none⟩ (.bool true)).heap[b]? = W.heap[b]? := fun b hb => Below.heap_setCell W ⟨B + 1, k, none⟩ _ b hb
  obtain ⟨ov, h1, h2⟩ := h.out
  refine ⟨h.below.setCell (p := ⟨B + 1, k, none⟩) (by show w0.heap.size ≤ B + 1; omega) _, (far _ (by omega)).trans h.g, ?_, by rw [List.length_set]; exact h.len, (far _ (by omega)).trans h.seen, ⟨ov, (far _ (by omega)).trans h1, Kd.R_set h2 h.row (by decide) k _⟩, (far _ (by omega)).trans h.fn⟩
  rw [blk_set h.row]
  congr 2
  simp [bls, List.map_set]
theorem St.grow {w0 W w1 : World} {gb : Addr} {n B k : Nat} {bs : List Bool} {out : List Nat} {ov v1 : Value} (hB : w0.heap.size ≤ B) (h : St w0 W gb n B bs out) (hov : W.heap[B + 4]? = some (.cells #[ov] 36 (0, 0))) (hkr : Kd.R (Kd.int .i64) 3 W w0.heap.size (fun _ => True) ov (nis out)) (hg : W.grownBy w1 ov.ownBlock) (hb : Below w0.heap.size W w1) (ho : Kd.R (Kd.int .i64) 3 w1 w0.heap.size (fun _ => True) v1 (nis out ++ [(k : Int)])) :
    St w0 (w1.setCell ⟨B + 4, 0, none⟩ v1) gb n B bs (out ++ [k]) := by
  have far : ∀ b : Nat, b ≠ B + 4 → (w1.setCell ⟨B + 4, 0, none⟩ v1).heap[b]? = w1.heap[b]? := fun b hb => Below.heap_setCell w1 ⟨B + 4, 0, none⟩ _ b hb
  have h4 := blk_grown hov hg (Kd.R_ne hkr hov (by decide))
  refine ⟨(h.below.trans hb).setCell (p := ⟨B + 4, 0, none⟩) (by show w0.heap.size ≤ B + 4; omega) _, (far _ (by omega)).trans (blk_grown h.g hg (Kd.R_ne hkr h.g (by decide))), (far _ (by omega)).trans (blk_grown h.row hg (Kd.R_ne hkr h.row (by decide))), h.len, (far _ (by omega)).trans (blk_grown h.seen hg (Kd.R_ne hkr h.seen (by decide))), ⟨v1, by rw [blk_set h4]; rfl, by rw [nis_snoc]; exact Kd.R_set ho h4 (by decide) 0 _⟩, (far _ (by omega)).trans (blk_grown h.fn hg (Kd.R_ne hkr h.fn (by decide)))⟩
def cntF (bs : List Bool) : Nat := (bs.filter fun b => !b).length
theorem cnt_set : ∀ (bs : List Bool) (k : Nat), bs[k]? = some false → cntF (bs.set k true) + 1 = cntF bs
  | [], k, h => by simp at h
  | b :: bs, 0, h => by
    simp only [List.getElem?_cons_zero, Option.some.injEq] at h
    subst h
    simp [cntF]
  | b :: bs, k + 1, h => by
    have := cnt_set bs k (by simpa using h)
    simp only [cntF, List.set_cons_succ, List.filter_cons] at this ⊢
    cases b <;> simp <;> omega
theorem info3 : (Tryz.prog.info? 3).map (fun i => (i.zero, i.size, i.bytes)) = some (some (.int .i64 0), 1, 8) := by kernel_rfl
def stepV (N : List (List Nat)) (m : Nat) (s : List Bool × List Nat) (x : Nat) : List Bool × List Nat := if s.1.getD x false = true then s else visV N m x s
set_option maxHeartbeats 4000000 in
set_option maxRecDepth 100000 in
theorem visit (w0 : World) (gb : Addr) (N : List (List Nat)) (hg : Gx w0 gb N) (B : Nat) (hB : w0.heap.size ≤ B) (hn : N.length ≤ 12) (hN : ∀ (k : Nat) (h : k < N.length), N[k].length ≤ 12 ∧ ∀ x ∈ N[k], x < N.length) :
    ∀ (m k : Nat) (W : World) (bs : List Bool) (out : List Nat), k < N.length → St w0 W gb N.length B bs out → bs[k]? = some false → cntF bs ≤ m → cntF bs + out.length ≤ 100 →
    Calls Tryz.prog 63 #[.int .i64 k, .pointer (some ⟨B + 3, 0, none⟩), .pointer (some ⟨B, 0, none⟩), .pointer (some ⟨B + 5, 0, none⟩), .pointer (some ⟨B + 4, 0, none⟩)] W fun e W' => e = .returned (.tuple #[]) ∧ ∃ bs' out', visV N m k (bs, out) = (bs', out') ∧ St w0 W' gb N.length B bs' out' ∧ cntF bs' ≤ cntF bs ∧ cntF bs' + out'.length = cntF bs + out.length := by
  intro m
  induction m with
  | zero =>
    intro k W bs out hk hS hbk hm
    have := cnt_set bs k hbk
    omega
  | succ m ih =>
    intro k W bs out hk hS hbk hm ho
    have hcnt := cnt_set bs k hbk
    have hlen := hS.len
    have HS1 := Aside0.mk (hS.mark hB k)
    have hc0 : W.cell? ⟨B, 0, none⟩ = some (.pointer (some gb)) := (blk_cell hS.g 0).trans rfl
    have hc3 : W.cell? ⟨B + 3, 0, none⟩ = some (.slice (some ⟨B + 1, 0, none⟩) N.length N.length) := (blk_cell hS.seen 0).trans rfl
    have hf1 := blk_frozen hS.row k
    have hck : W.cell? ⟨B + 1, k, none⟩ = some (.bool (bs[k]'(by omega))) := (blk_cell hS.row k).trans (by simp [bls, hlen, hk])
    have hkz : (k : Int) < (N.length : Int) := by omega
    have hk0 : (0 : Int) ≤ (k : Int) := by omega
    have hD : visV N (m + 1) k (bs, out) = (((N[k].foldl (stepV N m) (bs.set k true, out)).1), (N[k].foldl (stepV N m) (bs.set k true, out)).2 ++ [k]) := by
      simp only [visV, List.getD_eq_getElem?_getD, List.getElem?_eq_getElem hk, Option.getD_some]
      rfl
    obtain ⟨A, c, hgc, hrows⟩ := hg
    obtain ⟨ad, Ak, ck, rfl, hrk, hin⟩ := hrows k hk
    have hgc1 := HS1.out.cell hgc
    have hrk1 := HS1.out.cell hrk
    have hc0' : (W.setCell ⟨B + 1, k, none⟩ (.bool true)).cell? ⟨B, 0, none⟩ = some (.pointer (some gb)) := (blk_cell HS1.out.g 0).trans rfl
    have HIN := Aside0.mk hin
    have HNk := Aside0.mk (hN k hk)
    have HD := Aside0.mk hD
    clear hin hS hD
    go_enter Tryz.func63, Tryz.ntmps63
    go_wp2_with fail
    have hm' : cntF (bs.set k true) ≤ m := by omega
    have HM := Aside0.mk hm'
    have HC0 : Aside0 (cntF (bs.set k true) + out.length + 1 = cntF bs + out.length) := ⟨by omega⟩
    have HCL : Aside0 (cntF (bs.set k true) ≤ cntF bs) := ⟨by omega⟩
    clear hm' hcnt hm
    go_loopg [7, 19] (N[k].length) (fun gg _ s19 wr => ∃ (j : Nat) (bs' : List Bool) (out' : List Nat), j ≤ N[k].length ∧ N[k].length - j ≤ gg ∧ s19 = .int .i64 j ∧ Aside0 (St w0 wr gb N.length B bs' out') ∧ Aside0 ((N[k].take j).foldl (stepV N m) (bs.set k true, out) = (bs', out')) ∧ Aside0 (cntF bs' ≤ m) ∧ Aside0 (cntF bs' + out'.length + 1 = cntF bs + out.length) ∧ Aside0 (cntF bs' ≤ cntF bs))
    case atStart => exact ⟨0, _, _, Nat.zero_le _, by omega, rfl, HS1, ⟨rfl⟩, HM, HC0, HCL⟩
    case round =>
      clear HS1 HM HC0 HCL hck hf1 hc0 hc3 hc0' hgc1 hrk1
      obtain ⟨j, bs', out', hj, hg, rfl, HS2, HF2, HM2, HC2, HL2⟩ := hrel
      have hN12 : N[k].length ≤ 12 := HNk.out.1
      by_cases hlt : j < N[k].length
      · have hltz : (j : Int) < (N[k].length : Int) := by omega
        have hj0 : (0 : Int) ≤ (j : Int) := by omega
        obtain ⟨ak, rfl, hcj⟩ := HIN.out j hlt
        replace hcj := HS2.out.cell hcj
        have hx := HNk.out.2 _ (List.getElem_mem hlt)
        have HT : Aside0 ((N[k].take (j + 1)).foldl (stepV N m) (bs.set k true, out) = stepV N m (bs', out') N[k][j]) := ⟨by rw [List.take_succ_eq_append_getElem hlt, List.foldl_append, HF2.out]; rfl⟩
        generalize N[k][j] = x at hcj hx HT
        have hc3 : wr.cell? ⟨B + 3, 0, none⟩ = some (.slice (some ⟨B + 1, 0, none⟩) N.length N.length) := (blk_cell HS2.out.seen 0).trans rfl
        have hl2 := HS2.out.len
        have hcb : wr.cell? ⟨B + 1, x, none⟩ = some (.bool (bs'[x]'(by omega))) := (blk_cell HS2.out.row x).trans (by simp [bls, hl2, hx])
        have hgx : bs'[x]? = some (bs'[x]'(by omega)) := List.getElem?_eq_getElem (by omega)
        have hc5 : wr.cell? ⟨B + 5, 0, none⟩ = some (.func (.func 63) #[] #[.pointer (some ⟨B + 3, 0, none⟩), .pointer (some ⟨B, 0, none⟩), .pointer (some ⟨B + 5, 0, none⟩), .pointer (some ⟨B + 4, 0, none⟩)]) := (blk_cell HS2.out.fn 0).trans rfl
        have hxz : (x : Int) < (N.length : Int) := by omega
        have hx0 : (0 : Int) ≤ (x : Int) := by omega
        generalize (bs'[x]'(by omega)) = b at hcb hgx
        have HGX := Aside0.mk hgx
        clear hgx hl2
        cases b with
        | true =>
          go_wp2_with fail
          go_roundg (N[k].length - (j + 1))
          case measure => omega
          case rel => exact ⟨j + 1, bs', out', by omega, by omega, by go_num, HS2, ⟨by rw [HT.out, stepV, List.getD_eq_getElem?_getD, HGX.out]; rfl⟩, HM2, HC2, HL2⟩
        | false =>
          go_wp2_with (go_at_call 63; refine (ih x wr bs' out' hx HS2.out HGX.out HM2.out (by have := HC2.out; omega)).mono ?_; rintro e w' ⟨rfl, bs2, out2, hv, hs2, hl2, hc2⟩; have HV := Aside0.mk hv; have HS3 := Aside0.mk hs2; have HL3 := Aside0.mk hl2; have HC3 := Aside0.mk hc2; clear hv hs2 hl2 hc2)
          go_roundg (N[k].length - (j + 1))
          case measure => omega
          case rel => exact ⟨j + 1, bs2, out2, by omega, by omega, by go_num, HS3, ⟨by rw [HT.out, stepV, List.getD_eq_getElem?_getD, HGX.out]; exact HV.out⟩, ⟨by have := HL3.out; have := HM2.out; omega⟩, ⟨by have := HC3.out; have := HC2.out; omega⟩, ⟨by have := HL3.out; have := HL2.out; omega⟩⟩
      · have hltz : ¬ (j : Int) < (N[k].length : Int) := by omega
        have hjn : j = N[k].length := by omega
        have HF3 : Aside0 (visV N (m + 1) k (bs, out) = (bs', out' ++ [k])) := ⟨by have h := HF2.out; rw [hjn, List.take_length] at h; rw [HD.out, h]⟩
        obtain ⟨ov, hov, hkr⟩ := HS2.out.out
        obtain ⟨Ao, co, rfl⟩ := Kd.R_slice hkr
        rw [nis_len] at hov hkr
        have hc4 : wr.cell? ⟨B + 4, 0, none⟩ = some (.slice Ao out'.length co) := (blk_cell hov 0).trans rfl
        have hf4 := blk_frozen hov 0
        have HOV := Aside0.mk hov
        have HKR := Aside0.mk hkr
        have hlo : (nis out').length ≤ 1000 := by have := HC2.out; rw [nis_len]; omega
        have hB4 := blk_lt hov
        clear hov hkr HF2 hg HIN HNk HD
        go_wp2_with ((with_reducible refine gate_builtin (b := .append) (xs := #[.tmp 32, .tmp 34]) rfl ?_); at_builtin; refine Kd.R_append (Kd.int .i64) (w0 := wr) w0.heap.size rfl (.tmp 32) (.tmp 34) 36 3 (.int .i64 0) 8 rfl Tryz.underlying36 info3 rfl (by decide) (by omega) (.slice Ao out'.length co) (nis out') (k : Int) [.int .i64 k] (fun _ => True) (fun _ => False) rfl rfl ?aP (fun _ hk => hk.elim) ?aF ?aO ?aB ?aS ?aL ?_; (case aP => exact rfl); (case aB => exact Below.refl _ _); (case aF => exact (fun _ _ => trivial)); (case aO => exact HKR.out); (case aS => omega); (case aL => omega); intro v1 w1 ho hb hg hat; obtain ⟨A1, c1, rfl⟩ := Kd.R_slice ho; have hf5 := blk_frozen (blk_grown HOV.out hg (Kd.R_ne HKR.out HOV.out (by decide))) 0; have hc5 : w1.cell? ⟨B + 4, 0, none⟩ = some (.slice Ao out'.length co) := (blk_cell (blk_grown HOV.out hg (Kd.R_ne HKR.out HOV.out (by decide))) 0).trans rfl; have HS5 := Aside0.mk (HS2.out.grow hB HOV.out HKR.out hg hb ho); clear ho hb hg hat)
        go_end0
        have h5 := HS5.out
        simp only [List.length_append, List.length_cons, List.length_nil, Nat.zero_add] at h5
        have h6 := HC2.out
        exact ⟨rfl, bs', out' ++ [k], HF3.out, h5, HL2.out, by rw [List.length_append]; simp only [List.length_cons, List.length_nil]; omega⟩
end Go.Proofs.YtmgkciadnmnbjaaGreat.Ord

/- order: the walk. -/
namespace Go.Tree.R
open Go.Proofs Go.Proofs.YtmgkciadnmnbjaaGreat.Ord
open Go.Tree.O (visV ordL)
open Go.RowKit Go.Proofs.YtmgkciadnmnbjaaGreatW.PrintWords Go.Proofs.YtmgkciadnmnbjaaGreatW.PrintLast Go.Proofs.YtmgkciadnmnbjaaGreatW.PrintMore
set_option linter.unusedVariables false
set_option linter.unusedSimpArgs false
abbrev lts (m : List Int) : List LT := m.map fun x => (.fl (.int .i64 x) : LT)
theorem lts_er (m : List Int) : (lts m).map er = m.map i64 := by
  simp [lts, er_fl]
theorem lts_cells (m : List Int) : cellsL (lts m) = m.map fun x => Value.int .i64 x := by
  rw [cellsL_eq]
  induction m with
  | nil => rfl
  | cons x m ih => simp only [lts, List.map_cons, List.flatMap_cons] at ih ⊢; rw [ih]; rfl
theorem mem_of_R {W : World} {base : Nat} {v : Value} {m : List Int} (h : Kd.R (Kd.int .i64) 3 W base (fun _ => True) v m) : Mem W (.sl false ⟨1, false⟩ v (lts m)) ∧ (∀ b ∈ blk v, base ≤ b) ∧ ∀ b ∈ blk v, v.ownBlock = some b := by
  have ho := Kd.own_of_R h
  have hk : ∀ x ∈ lts m, (cells x).length = 1 ∧ ((false : Bool) = false → all x = []) := fun x hx => by
    obtain ⟨a, _, rfl⟩ := List.mem_map.1 hx
    exact ⟨rfl, fun _ => rfl⟩
  have hm : MemL W (lts m) := memL_iff.2 fun x hx => by
    obtain ⟨a, _, rfl⟩ := List.mem_map.1 hx
    rfl
  have hl : (lts m).length = m.length := by simp
  obtain ⟨h1, h2⟩ := ho
  rcases h2 with ⟨rfl, h3⟩ | ⟨g, cap, cur, rfl, hb, hh, hn, hmx, hs, ht⟩
  · refine ⟨⟨⟨none, 0, by rw [hl, h3], by rw [hl, h3]; exact Nat.le_refl _, by rw [lts_cells]; simp, fun h => absurd rfl h⟩, hk, hm⟩, fun b hb => by simp [blk, plc] at hb, fun b hb => by simp [blk, plc] at hb⟩
  · have hs : cur.size = cap := by omega
    have hcur : ∀ j, j < cap → ∃ x, cur[j]? = some x := fun j hj => ⟨cur[j]'(by omega), Array.getElem?_eq_getElem (by omega)⟩
    refine ⟨⟨⟨some ⟨g, 0, none⟩, cap, by rw [hl], by rw [hl]; exact hn, by rw [lts_cells]; simp, fun h => ⟨g, 0, rfl, blk_lt hh, fun j x hj => ?_, fun _ j hj => ?_⟩⟩, hk, hm⟩, fun b hb' => ?_, fun b hb' => ?_⟩
    · rw [Nat.zero_add, blk_cell hh j]
      rw [lts_cells] at hj
      have : (cur.toList.take (m.length * 1))[j]? = some x := by rw [ht]; exact hj
      rw [List.getElem?_take] at this
      split at this
      · simpa using this
      · cases this
    · rw [Nat.zero_add, blk_cell hh j, blk_frozen hh j]
      obtain ⟨x, hx⟩ := hcur j (by simpa using hj)
      exact ⟨by rw [hx]; rfl, rfl⟩
    · have : b = g := by
        unfold blk plc at hb'
        split at hb' <;> simp_all
      omega
    · have : b = g := by
        unfold blk plc at hb'
        split at hb' <;> simp_all
      subst this; rfl
theorem info4 : (Tryz.prog.info? 4).map (fun i => (i.zero, i.size, i.bytes)) = some (some (.bool false), 1, 1) := by kernel_rfl
/-- What lies there at first. -/
abbrev w6 (w0 : World) (gb : Addr) (n : Nat) : World :=
  (((((w0.alloc (.cells #[.pointer (some gb)] 92)).alloc (.cells (madeCells #[.bool false] n) 4)).alloc (.cells #[] 3)).alloc (.cells #[.slice (some ⟨w0.heap.size + 1, 0, none⟩) n n] 68)).alloc (.cells #[.slice (some ⟨w0.heap.size + 1 + 1, 0, none⟩) 0 0] 36)).alloc
    (.cells #[.func (.func 63) #[] #[.pointer (some ⟨w0.heap.size + 1 + 1 + 1, 0, none⟩), .pointer (some ⟨w0.heap.size, 0, none⟩), .pointer (some ⟨w0.heap.size + 1 + 1 + 1 + 1 + 1, 0, none⟩), .pointer (some ⟨w0.heap.size + 1 + 1 + 1 + 1, 0, none⟩)]] 93)
theorem sz (w : World) (o : Obj) : (w.alloc o).heap.size = w.heap.size + 1 := by
  show (w.heap.push o).size = _
  simp
theorem bls_made (n : Nat) : madeCells #[.bool false] n = bls (List.replicate n false) := by
  apply Array.ext'
  apply List.ext_getElem
  · simp [madeCells, bls]
  · intro i h1 h2
    simp [madeCells, bls, Nat.mod_one]
theorem start (w0 : World) (gb : Addr) (n : Nat) : St w0 (w6 w0 gb n) gb n w0.heap.size (List.replicate n false) [] := by
  have a := fun (w : World) (o : Obj) => heap_alloc_new w o
  refine ⟨?_, ?_, ?_, by simp, ?_, ⟨.slice (some ⟨w0.heap.size + 1 + 1, 0, none⟩) 0 0, ?_, ?_⟩, ?_⟩
  · repeat (first | exact Below.refl _ _ | apply below_alloc)
  · exact blk_alloc (blk_alloc (blk_alloc (blk_alloc (blk_alloc (a w0 _) _) _) _) _) _
  · have h := a (w0.alloc (.cells #[.pointer (some gb)] 92)) (.cells (madeCells #[.bool false] n) 4)
    rw [sz] at h
    rw [← bls_made]
    exact blk_alloc (blk_alloc (blk_alloc (blk_alloc h _) _) _) _
  · have h := a (((w0.alloc (.cells #[.pointer (some gb)] 92)).alloc (.cells (madeCells #[.bool false] n) 4)).alloc (.cells #[] 3)) (.cells #[.slice (some ⟨w0.heap.size + 1, 0, none⟩) n n] 68)
    rw [sz, sz, sz] at h
    exact blk_alloc (blk_alloc h _) _
  · have h := a ((((w0.alloc (.cells #[.pointer (some gb)] 92)).alloc (.cells (madeCells #[.bool false] n) 4)).alloc (.cells #[] 3)).alloc (.cells #[.slice (some ⟨w0.heap.size + 1, 0, none⟩) n n] 68)) (.cells #[.slice (some ⟨w0.heap.size + 1 + 1, 0, none⟩) 0 0] 36)
    rw [sz, sz, sz, sz] at h
    exact blk_alloc h _
  · refine Kd.R_alloc (Kd.R_alloc (Kd.R_alloc ?_ _) _) _
    have h := own_lit_of (enc := fun x : Int => Value.int .i64 x) ((w0.alloc (.cells #[.pointer (some gb)] 92)).alloc (.cells (madeCells #[.bool false] n) 4)) w0.heap.size 3 [] (by rw [sz, sz]; omega) (by simp)
    rw [sz, sz] at h
    exact ⟨fun _ _ => trivial, [], h, Reps.none _ _⟩
  · have h := a (((((w0.alloc (.cells #[.pointer (some gb)] 92)).alloc (.cells (madeCells #[.bool false] n) 4)).alloc (.cells #[] 3)).alloc (.cells #[.slice (some ⟨w0.heap.size + 1, 0, none⟩) n n] 68)).alloc (.cells #[.slice (some ⟨w0.heap.size + 1 + 1, 0, none⟩) 0 0] 36)) (.cells #[.func (.func 63) #[] #[.pointer (some ⟨w0.heap.size + 1 + 1 + 1, 0, none⟩), .pointer (some ⟨w0.heap.size, 0, none⟩), .pointer (some ⟨w0.heap.size + 1 + 1 + 1 + 1 + 1, 0, none⟩), .pointer (some ⟨w0.heap.size + 1 + 1 + 1 + 1, 0, none⟩)]] 93)
    rw [sz, sz, sz, sz, sz] at h
    exact h
theorem cnt_rep (n : Nat) : cntF (List.replicate n false) = n := by simp [cntF]
set_option maxHeartbeats 4000000 in
set_option maxRecDepth 100000 in
theorem order (w0 : World) (gb : Addr) (N : List (List Nat)) (hg : Gx w0 gb N) (h1 : 1 ≤ N.length) (hn : N.length ≤ 12) (hN : ∀ (k : Nat) (h : k < N.length), N[k].length ≤ 12 ∧ ∀ x ∈ N[k], x < N.length) :
    Calls Tryz.prog 43 #[.pointer (some gb)] w0 fun e w' => ∃ v, e = .returned v ∧ Below w0.heap.size w0 w' ∧ ∃ Y : List LT, Y.map er = (nis (ordL N)).map i64 ∧ Mem w' (.sl false ⟨1, false⟩ v Y) ∧ ∀ b ∈ blk v, w0.heap.size ≤ b := by
  obtain ⟨A, c, hgc, hrows⟩ := id hg
  have hgA : ∀ o : Obj, (w0.alloc o).cell? gb = some (.slice A N.length c) := fun o => (World.cell?_of_block (Below.heap_alloc w0 o gb.block (World.block_lt_of_cell? w0 _ hgc))).trans hgc
  have hmk := print_make_of (P := Tryz.prog) 68 4 (.bool false) 1 Tryz.underlying68 info4 rfl (by decide) N.length (by omega)
  have hsf := fun (W : World) (a : Addr) (r : Fn) (xs ys : Array Value) => run_store (P := Tryz.prog) W a (.func r xs ys) .plain rfl
  have hS := Aside0.mk (start w0 gb N.length)
  have HG := Aside0.mk hg
  have HN := Aside0.mk hN
  clear hg hN hrows
  go_enter Tryz.func43, Tryz.ntmps43
  go_wp2_with (first | (go_at_call 63; refine (visit w0 gb N HG.out w0.heap.size (Nat.le_refl _) hn HN.out N.length 0 _ _ _ (by omega) hS.out (by rw [List.getElem?_replicate, if_pos (by omega)]) (by rw [cnt_rep]; exact Nat.le_refl _) (by rw [cnt_rep]; simp only [List.length_nil]; omega)).mono ?_; (rintro e w1 ⟨rfl, bs1, out1, hv, hs1, hc1, hc2⟩; rw [cnt_rep] at hc2; simp only [List.length_nil] at hc2; have HV := Aside0.mk hv; have HB := Aside0.mk hs1.below; obtain ⟨ov, hov, hkr⟩ := hs1.out; have hlo : out1.length ≤ 100 := (by omega); have hsl := Kd.R_slice hkr; obtain ⟨A1, c1, hsl⟩ := hsl; subst hsl; have hc4 : w1.cell? ⟨w0.heap.size + 1 + 1 + 1 + 1, 0, none⟩ = some (.slice A1 (nis out1).length c1) := (blk_cell hov 0).trans rfl; have HOV := Aside0.mk hov; have HKR := Aside0.mk hkr; clear hv hs1 hc1 hc2 hov hkr)) | (go_at_call 64; refine (calls64 (.slice A1 (nis out1).length c1) (lts (nis out1)) (nis out1) w1 (lts_er _) (by rw [nis_len]; omega) (mem_of_R HKR.out).1).mono ?_; rintro e w2 ⟨rfl, Y, hY, hm2, fr2⟩; have hc5 : w2.cell? ⟨w0.heap.size + 1 + 1 + 1 + 1, 0, none⟩ = some (.slice A1 (nis out1).length c1) := (World.cell?_of_block (fr2.block _ (blk_lt HOV.out) (fun hb => Kd.R_ne HKR.out HOV.out (by decide) ((mem_of_R HKR.out).2.2 _ hb).symm))).trans hc4; have HY := Aside0.mk hY; have HM2 := Aside0.mk hm2; have FR2 := Aside0.mk fr2; clear hY hm2 fr2))
  go_ret
  have f := FR2.out
  have h3 := (mem_of_R HKR.out).2.1
  refine ⟨_, rfl, HB.out.trans ⟨f.os, f.tape, f.output, f.size, fun i hi => f.block i (Nat.lt_of_lt_of_le hi HB.out.size) fun hb => ?_⟩, Y, ?_, HM2.out, h3⟩
  · have := h3 i hb
    omega
  · rw [HY.out, ordL, HV.out]
    simp [nis]
end Go.Tree.R
