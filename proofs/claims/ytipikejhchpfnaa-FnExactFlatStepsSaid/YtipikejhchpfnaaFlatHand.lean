/- The code of flat lines: the program's own, its copies and marks, and the law's walk, where all that is asked answers yes. Conditions: in each theorem. -/
import Derived.Test.YtipikejhchpfnaaFSx
import Derived.Outline
import Derived.Shelf.Abstract
namespace Go.Proofs.Ytipikejhchpfnaa.FS
open Go.RowKit Go.Proofs.YtipikejhchpfnaaW.PrintWords Go.Proofs.YtipikejhchpfnaaW.PrintLast Go.Proofs.YtipikejhchpfnaaW.PrintMore
attribute [local go_sem] max2_int min2_int max_two min_two max_three min_three max_four min_four   -- for this text's walks alone
set_option linter.unusedVariables false

set_option linter.unusedSimpArgs false

/-- Steps without a table, told by their cells: nothing lies behind them. -/
def kZ95 : Kd S95 where
  sz := 3
  E := []
  K := fun _ x cs => x.f2 = [] ∧ cs = [.int .i64 x.f0, .int .i64 x.f1, .slice none 0 0]
  M := fun _ _ _ x cs => x.f2 = [] ∧ cs = [.int .i64 x.f0, .int .i64 x.f1, .slice none 0 0]
  K_len := by rintro w x cs ⟨_, rfl⟩; rfl
  K_one := by rintro w x cs ⟨_, rfl⟩ u hu; simp at hu; rcases hu with rfl | rfl | rfl <;> rfl
  K_below := fun _ h => h
  K_of_M := fun h => h
  M_mono := fun _ h => h
  M_bound := fun h => h
  M_move := fun _ h => h
  M_lower := fun _ h => h
theorem kZ95_K {w : World} {x : S95} {cs : List Value} (h : kZ95.K w x cs) : k95.K w x cs := by
  obtain ⟨a, b, c⟩ := x
  obtain ⟨h1, rfl⟩ := h
  simp only at h1
  subst h1
  exact k95_mk w ⟨a, b, []⟩ (A2 := none) (c2 := 0) (Nat.le_refl 0) ⟨rfl, by simp, fun h => absurd h (by simp)⟩
theorem kZ95_C {w : World} {A : Option Addr} {n : Nat} {xs : List S95} (h : kZ95.C w A n xs) : k95.C w A n xs := by
  unfold Kd.C at h ⊢
  exact h.imp_ (Below.refl _ _) (fun _ _ hp => kZ95_K hp)
/-- What a flat line uses, and its code. -/
def usesZ (x : S77) : List Int := if x.f0 = 1 then [] else if x.f0 = 3 ∨ x.f0 = 5 then [x.f3, x.f4] else [x.f3]
def opZ (x : S77) : List S95 := if x.f0 = 1 then [⟨1, x.f5, []⟩] else if x.f0 = 3 then [⟨x.f1, 0, []⟩] else if x.f0 = 4 then [⟨10, 0, []⟩] else if x.f0 = 5 then [⟨11, 0, []⟩] else if x.f0 = 6 then [⟨12, 0, []⟩] else []
def getZ (n : Int) : S95 := ⟨2, n, []⟩
def lineZ (x : S77) : List S95 := (usesZ x).map getZ ++ opZ x ++ if 1 ≤ x.f0 ∧ x.f0 ≤ 4 then [⟨3, x.f2, []⟩] else []
def stepsZ (l : List S77) : List S95 := l.flatMap lineZ
theorem usesZ_len (x : S77) : (usesZ x).length ≤ 2 := by
  unfold usesZ
  (repeat' split) <;> simp
theorem opZ_len (x : S77) : (opZ x).length ≤ 1 := by
  unfold opZ
  (repeat' split) <;> simp
theorem lineZ_len (x : S77) : (lineZ x).length ≤ 4 := by
  have h1 := usesZ_len x
  have h2 := opZ_len x
  unfold lineZ
  rw [List.length_append, List.length_append, List.length_map]
  split <;> simp <;> omega
theorem stepsZ_len : ∀ (l : List S77), (stepsZ l).length ≤ 4 * l.length
  | [] => by simp [stepsZ]
  | x :: l => by
    have h1 := lineZ_len x
    have h2 := stepsZ_len l
    have e : stepsZ (x :: l) = lineZ x ++ stepsZ l := rfl
    rw [e, List.length_append, List.length_cons]
    omega
theorem stepsZ_take {l : List S77} {n : Nat} (h : n < l.length) (z : S77) : stepsZ (l.take (n + 1)) = stepsZ (l.take n) ++ lineZ (l.getD n z) := by
  rw [List.take_add_one, List.getElem?_eq_getElem h, List.getD_eq_getElem?_getD, List.getElem?_eq_getElem h]
  show List.flatMap lineZ (List.take n l ++ [l[n]]) = _
  rw [List.flatMap_append]
  simp [stepsZ]
theorem any_slice {w : World} {base : Nat} {ok : Nat → Prop} {v : Value} {xs : List S95} (h : Kd.R kZ95 95 w base ok v xs) : ∃ A n c, v = Value.slice A n c := by
  obtain ⟨A, c, h⟩ := Kd.R_slice h
  exact ⟨A, _, c, h⟩
set_option maxHeartbeats 4000000 in
set_option maxRecDepth 100000 in
theorem impl_flatSteps_1.calls (base B : Nat) (hbB : base ≤ B) (v : Value) (xs : List S95) (n : Int) (w : World)
    (hcell : w.heap[B]? = some (.cells #[v] 38 (0, 0))) (HO : Kd.R kZ95 95 w base (fun _ => True) v xs) (hl : xs.length ≤ 1000) :
    Calls Try.prog 119 #[.int .i64 n, .pointer (some ⟨B, 0, none⟩)] w fun e w' => e = .returned (.tuple #[]) ∧ ∃ v1, w'.heap[B]? = some (.cells #[v1] 38 (0, 0)) ∧ Kd.R kZ95 95 w' base (fun _ => True) v1 (xs ++ [getZ n]) ∧ Below base w w' ∧ KeepBut w w' B v.ownBlock := by
  obtain ⟨Ao, co, rfl⟩ := Kd.R_slice HO
  have hc : w.cell? ⟨B, 0, none⟩ = some (.slice Ao xs.length co) := (blk_cell hcell 0).trans rfl
  have hf := blk_frozen hcell 0
  have hB := blk_lt hcell
  have HC := Aside0.mk hcell
  have HO := Aside0.mk HO
  clear hcell
  go_enter Try.func119, Try.ntmps119
  go_wp2_with ((with_reducible refine gate_builtin (b := .append) (xs := #[.tmp 3, .tmp 6]) rfl ?_); at_builtin; refine Kd.R_append kZ95 (w0 := w) base rfl (.tmp 3) (.tmp 6) 38 95 (.agg #[(.int .i64 0), (.int .i64 0), (.slice none 0 0)]) 40 rfl Try.underlying38 info95 rfl (by decide) (by omega) (.slice Ao xs.length co) xs (getZ n) [.int .i64 2, .int .i64 n, .slice none 0 0] (fun _ => True) (fun _ => False) rfl rfl ?aP (fun _ hk => hk.elim) ?aF ?aO ?aB ?aS ?aL ?_; (case aP => exact ⟨rfl, rfl⟩); (case aB => exact Below.refl _ _); (case aF => exact (fun _ _ => trivial)); (case aO => exact HO.out); (case aS => omega); (case aL => omega); intro v1 w1 ho hb hg hat; obtain ⟨A1, c1, rfl⟩ := Kd.R_slice ho; have hbl : w1.heap[B]? = some (.cells #[.slice Ao xs.length co] 38 (0, 0)) := blk_grown HC.out hg (Kd.R_ne HO.out HC.out (by decide)); have hc1 : w1.cell? ⟨B, 0, none⟩ = some (.slice Ao xs.length co) := (blk_cell hbl 0).trans rfl; have hf1 := blk_frozen hbl 0; have HO1 := Aside0.mk ho; have HB1 := Aside0.mk hb; have HL1 := Aside0.mk hbl; have HK1 := Aside0.mk (KeepBut.of_grown hg B); clear ho hb hg hat hbl)
  go_end0
  refine ⟨rfl, .slice A1 (xs ++ [getZ n]).length c1, by rw [blk_set HL1.out]; simp, by have h_ := Kd.R_mono (Kd.R_far (p := ⟨B, 0, none⟩) (Kd.R_types HO1.out HL1.out (by decide)) (fun _ hk => hk.2) (.slice A1 (xs ++ [getZ n]).length c1)) (fun _ _ => trivial); simpa using h_, HB1.out.setCell (p := ⟨B, 0, none⟩) hbB _, HK1.out.set_ 0 _⟩
theorem uses_Z (a b c d e f : Int) (h0 : 1 ≤ a) (h6 : a ≤ 6) : impl_Flat_uses.f 2 a b c d e f = some (usesZ ⟨a, b, c, d, e, f⟩) := by
  have h : a = 1 ∨ a = 2 ∨ a = 3 ∨ a = 4 ∨ a = 5 ∨ a = 6 := by omega
  rcases h with rfl | rfl | rfl | rfl | rfl | rfl <;> simp [impl_Flat_uses.f, impl_fieldsOf.f, impl_fieldsOf.j0, usesZ]
theorem has_Z (a b c d e f : Int) (h0 : 1 ≤ a) (h6 : a ≤ 6) : impl_Flat_hasDst.f 2 a b c d e f = some (decide (1 ≤ a ∧ a ≤ 4)) := by
  have h : a = 1 ∨ a = 2 ∨ a = 3 ∨ a = 4 ∨ a = 5 ∨ a = 6 := by omega
  rcases h with rfl | rfl | rfl | rfl | rfl | rfl <;> simp [impl_Flat_hasDst.f, impl_fieldsOf.f, impl_fieldsOf.j0]
/-- A row of ints is neither the cell nor the row that is written. -/
theorem keep_ints {w2 w3 : World} {base base' B : Nat} {cs : Array Value} {vu v2 : Value} {us : List Int} {ok : Nat → Prop} {xs : List S95} (hu : Kd.R (Kd.int .i64) 3 w2 base (fun _ => True) vu us) (hc : w2.heap[B]? = some (.cells cs 38 (0, 0))) (ho : Kd.R kZ95 95 w2 base' ok v2 xs) (hk : KeepBut w2 w3 B v2.ownBlock) : Kd.R (Kd.int .i64) 3 w3 base (fun _ => True) vu us := by
  refine Kd.R_mono (Kd.R_step (Kd.R_tight rfl hu) (fun k hk1 hlt => hk.2 k hlt ?_ ?_)) (fun _ _ => trivial)
  · rintro rfl
    obtain ⟨cells, hc2⟩ := Kd.R_typed hu k hk1.symm
    rw [hc] at hc2
    injection hc2 with hc2
    injection hc2 with _ hc2
    exact absurd hc2 (by decide)
  · intro h2
    obtain ⟨cells, hc2⟩ := Kd.R_typed hu k hk1.symm
    obtain ⟨cells3, hc3⟩ := Kd.R_typed ho k h2.symm
    rw [hc2] at hc3
    injection hc3 with hc3
    injection hc3 with _ hc3
    exact absurd hc3 (by decide)
set_option maxHeartbeats 8000000 in
set_option maxRecDepth 100000 in
theorem impl_flatSteps.calls0 (A0 : Option Addr) (c0 : Nat) (l0 : List S77) (w : World) (hr0 : Kd.C k77 w A0 l0.length l0) (hc0 : l0.length ≤ c0) (h60 : l0.length ≤ 60) (hg : ∀ x ∈ l0, 1 ≤ x.f0 ∧ x.f0 ≤ 6) :
    Calls Try.prog 76 #[.slice none 0 0, .slice A0 l0.length c0] w fun e w' => ∃ v0_ : Value, e = .returned (v0_) ∧ Kd.R kZ95 95 w' w.heap.size (fun _ => True) v0_ (stepsZ l0) ∧ Below w.heap.size w w' := by
  have hmf : ∀ (fn : Fn) (first cap : Array Value) (w : World), (Instr.makeFunc fn first cap).run Try.prog w = .ok (.func fn first cap) w := fun _ _ _ _ => rfl
  have HR0 := Aside0.mk hr0
  have HC0 := Aside0.mk hc0
  have H60 := Aside0.mk h60
  have HG := Aside0.mk hg
  clear hr0 hc0 h60 hg
  go_enter Try.func76, Try.ntmps76
  go_wp2_with fail
  have hcB := heap_alloc_new w (.cells #[.slice none 0 0] 38)
  have hbB := below_alloc (Below.refl w.heap.size w) (.cells #[.slice none 0 0] 38)
  obtain ⟨B, hB⟩ : ∃ B, B = w.heap.size := ⟨_, rfl⟩
  have HBB := Aside0.mk (Nat.le_of_eq hB.symm)
  rw [← hB] at hcB ⊢
  go_loopg [13] l0.length (fun kq v13 w' => ∃ (n : Nat) (v1 : Value), n ≤ l0.length ∧ l0.length - n ≤ kq ∧ v13 = .int .i64 n ∧ Aside0 (w'.heap[B]? = some (.cells #[v1] 38 (0, 0))) ∧ Aside0 (Kd.R kZ95 95 w' w.heap.size (fun _ => True) v1 (stepsZ (l0.take n))) ∧ Aside0 (Below w.heap.size w w'))
  case atStart => exact ⟨0, .slice none 0 0, Nat.zero_le _, by omega, rfl, ⟨hcB⟩, ⟨Kd.R_nil _ _ _ _ _⟩, ⟨hbB⟩⟩
  case round =>
    clear hcB hbB hB
    obtain ⟨n, v1, hn, hm, rfl, HC, HO, HB⟩ := hrel
    by_cases c3 : n < l0.length
    · have hs := Aside0.mk (stepsZ_take c3 z77)
      obtain ⟨xs, hxs⟩ : ∃ xs, xs = stepsZ (l0.take n) := ⟨_, rfl⟩
      have HXL := Aside0.mk (show xs.length ≤ 300 from by
        have h1 := stepsZ_len (l0.take n)
        have h2 := H60.out
        rw [hxs]
        rw [List.length_take] at h1
        omega)
      rw [← hxs] at HO hs
      clear hxs
      have p144 : (0 : Int) ≤ (n : Int) := by omega
      have q144 : (n : Int) < (l0.length : Int) := by omega
      obtain ⟨ad, e144, h0, h1, h2, h3, h4, h5⟩ := at_T77 (Kd.C_below HR0.out HB.out) (n : Int) p144 q144
      cases e144
      simp only [rd_T77, Int.toNat_natCast] at h0 h1 h2 h3 h4 h5
      obtain ⟨x, hx⟩ : ∃ x, x = l0.getD n z77 := ⟨_, rfl⟩
      have hgx := HG.out x (by rw [hx, List.getD_eq_getElem?_getD, List.getElem?_eq_getElem c3]; exact List.getElem_mem _)
      rw [← hx] at h0 h1 h2 h3 h4 h5 hs
      clear hx
      obtain ⟨a, b, c, d, e, f⟩ := x
      simp only at h0 h1 h2 h3 h4 h5 hgx
      have hd : decide ((n : Int) < (l0.length : Int)) = true := decide_eq_true q144
      have HU0 := Aside0.mk (uses_Z a b c d e f hgx.1 hgx.2)
      have HH0 := Aside0.mk (has_Z a b c d e f hgx.1 hgx.2)
      have hul := Aside0.mk (usesZ_len ⟨a, b, c, d, e, f⟩)
      obtain ⟨us, hus⟩ : ∃ us, us = usesZ ⟨a, b, c, d, e, f⟩ := ⟨_, rfl⟩
      rw [← hus] at HU0 hul
      have Hus := Aside0.mk hus
      clear hus
      replace p144 := eq_true p144
      replace q144 := eq_true q144
      go_wp2_with (go_at_call 72; refine (impl_Flat_uses.calls 2 a b c d e f us _ HU0.out).mono ?_; rintro e' w1 ⟨vu, rfl, hu, hb⟩; have BK := Aside0.mk (blk_below (heap_alloc_new wr (.cells #[.int .i64 a, .int .i64 b, .int .i64 c, .int .i64 d, .int .i64 e, .int .i64 f] 77)) hb); have HC1 := Aside0.mk (blk_below (blk_alloc HC.out _) hb); have HO1 := Aside0.mk (Kd.R_below (Kd.R_alloc HO.out _) hb); have HU := Aside0.mk (Kd.R_lower hu (below_size (below_alloc HB.out _))); have HB1 := Aside0.mk (below_step (below_alloc HB.out _) hb); clear HC HO HB hu hb h0 h1 h2 h3 h4 h5; obtain ⟨Au, cu, eu⟩ := Kd.R_slice HU.out; subst eu)
      have HWN := Aside0.mk (show wrap64 ((n : Int) + 1) = ((n + 1 : Nat) : Int) from by
        have h1 := H60.out
        unfold wrap64
        omega)
      have HN1 := Aside0.mk (show n + 1 ≤ l0.length from c3)
      generalize wr.heap.size = gb at BK ⊢
      have HNE := Aside0.mk (show gb ≠ B from by
        rintro rfl
        have h1 := BK.out
        rw [HC1.out] at h1
        injection h1 with h1
        injection h1 with _ h1
        exact absurd h1 (by decide))
      go_loopg [20] us.length (fun gg v20 w2 => ∃ (m : Nat) (v2 : Value), m ≤ us.length ∧ us.length - m ≤ gg ∧ v20 = .int .i64 m ∧ Aside0 (w2.heap[B]? = some (.cells #[v2] 38 (0, 0))) ∧ Aside0 (Kd.R kZ95 95 w2 w.heap.size (fun _ => True) v2 (xs ++ (us.take m).map getZ)) ∧ Aside0 (w2.heap[gb]? = some (.cells #[.int .i64 a, .int .i64 b, .int .i64 c, .int .i64 d, .int .i64 e, .int .i64 f] 77 (0, 0))) ∧ Aside0 (Kd.R (Kd.int .i64) 3 w2 w.heap.size (fun _ => True) (.slice Au us.length cu) us) ∧ Aside0 (Below w.heap.size w w2))
      case atStart => exact ⟨0, v1, Nat.zero_le _, by omega, rfl, HC1, ⟨by simpa using HO1.out⟩, BK, HU, HB1⟩
      case round =>
        clear HC1 HO1 BK HU HB1
        obtain ⟨m, v2, hm2, hg2, rfl, HC, HO, BK, HU, HB⟩ := hrel
        by_cases c4 : m < us.length
        · have pu : (0 : Int) ≤ (m : Int) := by omega
          have qu : (m : Int) < (us.length : Int) := by omega
          obtain ⟨adu, eu, hxu⟩ := Kd.at_int (Kd.R_reads' HU.out).2.2 (m : Int) pu qu
          cases eu
          simp only [Int.toNat_natCast] at hxu
          have hdu : decide ((m : Int) < (us.length : Int)) = true := decide_eq_true qu
          have HWM := Aside0.mk (show wrap64 ((m : Int) + 1) = ((m + 1 : Nat) : Int) from by
            have h1 := hul.out
            unfold wrap64
            omega)
          have HM3 := Aside0.mk (show m + 1 ≤ us.length from c4)
          have HL2 := Aside0.mk (show (xs ++ (us.take m).map getZ).length ≤ 1000 from by
            have h1 := HXL.out
            have h2 := hul.out
            rw [List.length_append, List.length_map, List.length_take]
            omega)
          have HT := Aside0.mk (show xs ++ (us.take m).map getZ ++ [getZ (rd us (m : Int))] = xs ++ (us.take (m + 1)).map getZ from by
            have e2 : rd us (m : Int) = us[m] := by simp [rd, List.getD_eq_getElem?_getD, List.getElem?_eq_getElem c4]
            rw [List.take_succ_eq_append_getElem c4, e2, List.map_append, List.append_assoc]
            rfl)
          replace pu := eq_true pu
          replace qu := eq_true qu
          go_wp2_with (go_at_call 119; refine (impl_flatSteps_1.calls w.heap.size B HBB.out v2 (xs ++ (us.take m).map getZ) (rd us (m : Int)) _ HC.out HO.out HL2.out).mono ?_; rintro e' w3 ⟨rfl, v3, hc3, ho3, hb3, hk3⟩; have n0_ := Aside0.mk (show w3.heap[gb]? = some (.cells #[.int .i64 a, .int .i64 b, .int .i64 c, .int .i64 d, .int .i64 e, .int .i64 f] 77 (0, 0)) from (hk3.2 gb (blk_lt BK.out) HNE.out (Kd.R_ne HO.out BK.out (by decide))).trans BK.out); have n1_ := Aside0.mk (keep_ints HU.out HC.out HO.out hk3); have n2_ := Aside0.mk (below_weaken HB.out (Nat.le_refl _) hb3); have n3_ := Aside0.mk hc3; have n4_ := Aside0.mk (show Kd.R kZ95 95 w3 w.heap.size (fun _ => True) v3 (xs ++ (us.take (m + 1)).map getZ) from by rw [← HT.out]; exact ho3); clear HC HO BK HU HB hk3 hc3 ho3 hb3 hxu)
          go_roundg (us.length - (m + 1))
          case measure => omega
          case rel => exact ⟨m + 1, v3, HM3.out, Nat.le_refl _, (by first | rfl | (rw [HWM.out]; done) | (simp only [HWM.out]; done) | (simp; done) | go_num), n3_, n4_, n0_, n1_, n2_⟩
        · have hdu : decide ((m : Int) < (us.length : Int)) = false := decide_eq_false (by omega)
          have em : us.take m = us := List.take_of_length_le (by omega)
          rw [em] at HO
          have HE := Aside0.mk (show stepsZ (l0.take (n + 1)) = xs ++ us.map getZ ++ opZ ⟨a, b, c, d, e, f⟩ ++ (if 1 ≤ a ∧ a ≤ 4 then [(⟨3, c, []⟩ : S95)] else []) from by
            rw [hs.out, lineZ, Hus.out]
            simp [List.append_assoc])
          obtain ⟨ys, hys⟩ : ∃ ys, ys = xs ++ us.map getZ := ⟨_, rfl⟩
          have HYL := Aside0.mk (show ys.length ≤ 1000 from by
            have h1 := HXL.out
            have h2 := hul.out
            rw [hys, List.length_append, List.length_map]
            omega)
          rw [← hys] at HO HE
          have h6 : a = 1 ∨ a = 2 ∨ a = 3 ∨ a = 4 ∨ a = 5 ∨ a = 6 := by omega
          clear hys Hus HU hs HU0 em
          obtain ⟨A3, n3, c3_, ev⟩ := any_slice HO.out
          subst ev
          have hcB : wr.cell? ⟨B, 0, none⟩ = some (.slice A3 n3 c3_) := (blk_cell HC.out 0).trans rfl
          have hfB := blk_frozen HC.out 0
          have hcz_0 : wr.cell? ⟨gb, 0, none⟩ = some (.int .i64 a) := (blk_cell BK.out 0).trans rfl
          have hcz_1 : wr.cell? ⟨gb, 1, none⟩ = some (.int .i64 b) := (blk_cell BK.out 1).trans rfl
          have hcz_2 : wr.cell? ⟨gb, 2, none⟩ = some (.int .i64 c) := (blk_cell BK.out 2).trans rfl
          have hcz_3 : wr.cell? ⟨gb, 3, none⟩ = some (.int .i64 d) := (blk_cell BK.out 3).trans rfl
          have hcz_4 : wr.cell? ⟨gb, 4, none⟩ = some (.int .i64 e) := (blk_cell BK.out 4).trans rfl
          have hcz_5 : wr.cell? ⟨gb, 5, none⟩ = some (.int .i64 f) := (blk_cell BK.out 5).trans rfl
          clear hgx
          rcases h6 with rfl | rfl | rfl | rfl | rfl | rfl
          · go_wp2_with (first | ((with_reducible refine gate_builtin (b := .append) (xs := #[.tmp 32, .tmp 36]) rfl ?_); at_builtin; refine Kd.R_append kZ95 (w0 := w) w.heap.size rfl (.tmp 32) (.tmp 36) 38 95 (.agg #[(.int .i64 0), (.int .i64 0), (.slice none 0 0)]) 40 rfl Try.underlying38 info95 rfl (by decide) (by omega) (.slice A3 n3 c3_) (ys) (⟨1, f, []⟩ : S95) [.int .i64 1, .int .i64 f, .slice none 0 0] (fun _ => True) (fun _ => False) rfl rfl ?aP (fun _ hk => hk.elim) ?aF ?aO ?aB ?aS ?aL ?_; (case aP => exact ⟨rfl, rfl⟩); (case aB => exact HB.out); (case aF => exact (fun _ _ => trivial)); (case aO => exact HO.out); (case aS => exact (below_size HB.out)); (case aL => have := HYL.out; (try simp only [List.length_append, List.length_cons, List.length_nil]); omega); intro va4 w4 ho hb hg hat; obtain ⟨A4, n4, c4, ev4⟩ := any_slice ho; subst ev4; have hbl : w4.heap[B]? = some (.cells #[(.slice A3 n3 c3_)] 38 (0, 0)) := blk_grown HC.out hg (Kd.R_ne HO.out HC.out (by decide)); have hcB4 : w4.cell? ⟨B, 0, none⟩ = some ((.slice A3 n3 c3_)) := (blk_cell hbl 0).trans rfl; have hfB4 := blk_frozen hbl 0; have HP4 := Aside0.mk ho; have HQ4 := Aside0.mk hb; have HL4 := Aside0.mk hbl; have BK4 := Aside0.mk (blk_grown BK.out hg (Kd.R_ne HO.out BK.out (by decide))); clear ho hb hg hat hbl HO HB HC BK) | ((with_reducible refine gate_store (t := 38) (p := 2) rfl ?_); refine store_event (t := 38) (p := 2) (v := ?vo1_4) (w1 := (w4.setCell ⟨B, 0, none⟩ (.slice A4 n4 c4))) ?hg ?ho ?hn ?hr ?_; (case ho => rfl); (case hg => rfl); (case hn => rfl); (case hr => first | (go_simp; done) | (go_simp; rfl)); intro w5 hw; have n0_ := Aside0.mk (show w5.heap[B]? = some (.cells #[(.slice A4 n4 c4)] 38 (0, 0)) from by rw [hw, blk_set HL4.out]; simp); have n1_ := Aside0.mk (show Kd.R kZ95 95 w5 w.heap.size (fun _ => True) (.slice A4 n4 c4) (ys ++ [(⟨1, f, []⟩ : S95)]) from by rw [hw]; exact Kd.R_mono (Kd.R_far (p := ⟨B, 0, none⟩) (Kd.R_types HP4.out HL4.out (by decide)) (fun _ hk => hk.2) (.slice A4 n4 c4)) (fun _ _ => trivial)); have n2_ := Aside0.mk (show w5.heap[gb]? = some (.cells #[.int .i64 1, .int .i64 b, .int .i64 c, .int .i64 d, .int .i64 e, .int .i64 f] 77 (0, 0)) from by rw [hw]; exact blk_far (p := ⟨B, 0, none⟩) BK4.out HNE.out (.slice A4 n4 c4)); have n3_ := Aside0.mk (show Below w.heap.size w w5 from by rw [hw]; exact HQ4.out.setCell (p := ⟨B, 0, none⟩) HBB.out _); clear hw HP4 HQ4 HL4 BK4 hcB4 hfB4; have HC := n0_; have HO := n1_; have BK := n2_; have HB := n3_; clear n0_ n1_ n2_ n3_; have hcz_0 : w5.cell? ⟨gb, 0, none⟩ = some (.int .i64 1) := (blk_cell BK.out 0).trans rfl; have hcz_1 : w5.cell? ⟨gb, 1, none⟩ = some (.int .i64 b) := (blk_cell BK.out 1).trans rfl; have hcz_2 : w5.cell? ⟨gb, 2, none⟩ = some (.int .i64 c) := (blk_cell BK.out 2).trans rfl; have hcz_3 : w5.cell? ⟨gb, 3, none⟩ = some (.int .i64 d) := (blk_cell BK.out 3).trans rfl; have hcz_4 : w5.cell? ⟨gb, 4, none⟩ = some (.int .i64 e) := (blk_cell BK.out 4).trans rfl; have hcz_5 : w5.cell? ⟨gb, 5, none⟩ = some (.int .i64 f) := (blk_cell BK.out 5).trans rfl) | (go_at_call 66; refine (impl_Flat_hasDst.calls 2 _ b c d e f _ _ HH0.out).mono ?_; rintro e' w6 ⟨rfl, hb⟩; have n0_ := Aside0.mk (blk_below HC.out hb); have n1_ := Aside0.mk (Kd.R_below HO.out hb); have n2_ := Aside0.mk (blk_below BK.out hb); have n3_ := Aside0.mk (below_step HB.out hb); clear HC HO BK HB hb; have HC := n0_; have HO := n1_; have BK := n2_; have HB := n3_; clear n0_ n1_ n2_ n3_; have hcB : w6.cell? ⟨B, 0, none⟩ = some (.slice A4 n4 c4) := (blk_cell HC.out 0).trans rfl; have hfB := blk_frozen HC.out 0; have hcz_2 : w6.cell? ⟨gb, 2, none⟩ = some (.int .i64 c) := (blk_cell BK.out 2).trans rfl) | ((with_reducible refine gate_builtin (b := .append) (xs := #[.tmp 66, .tmp 70]) rfl ?_); at_builtin; refine Kd.R_append kZ95 (w0 := w) w.heap.size rfl (.tmp 66) (.tmp 70) 38 95 (.agg #[(.int .i64 0), (.int .i64 0), (.slice none 0 0)]) 40 rfl Try.underlying38 info95 rfl (by decide) (by omega) (.slice A4 n4 c4) (ys ++ [(⟨1, f, []⟩ : S95)]) (⟨3, c, []⟩ : S95) [.int .i64 3, .int .i64 c, .slice none 0 0] (fun _ => True) (fun _ => False) rfl rfl ?aP (fun _ hk => hk.elim) ?aF ?aO ?aB ?aS ?aL ?_; (case aP => exact ⟨rfl, rfl⟩); (case aB => exact HB.out); (case aF => exact (fun _ _ => trivial)); (case aO => exact HO.out); (case aS => exact (below_size HB.out)); (case aL => have := HYL.out; (try simp only [List.length_append, List.length_cons, List.length_nil]); omega); intro va7 w7 ho hb hg hat; obtain ⟨A7, n7, c7, ev7⟩ := any_slice ho; subst ev7; have hbl : w7.heap[B]? = some (.cells #[(.slice A4 n4 c4)] 38 (0, 0)) := blk_grown HC.out hg (Kd.R_ne HO.out HC.out (by decide)); have hcB7 : w7.cell? ⟨B, 0, none⟩ = some ((.slice A4 n4 c4)) := (blk_cell hbl 0).trans rfl; have hfB7 := blk_frozen hbl 0; have HP7 := Aside0.mk ho; have HQ7 := Aside0.mk hb; have HL7 := Aside0.mk hbl; have BK7 := Aside0.mk (blk_grown BK.out hg (Kd.R_ne HO.out BK.out (by decide))); clear ho hb hg hat hbl HO HB HC BK) | ((with_reducible refine gate_store (t := 38) (p := 2) rfl ?_); refine store_event (t := 38) (p := 2) (v := ?vo1_7) (w1 := (w7.setCell ⟨B, 0, none⟩ (.slice A7 n7 c7))) ?hg ?ho ?hn ?hr ?_; (case ho => rfl); (case hg => rfl); (case hn => rfl); (case hr => first | (go_simp; done) | (go_simp; rfl)); intro w8 hw; have n0_ := Aside0.mk (show w8.heap[B]? = some (.cells #[(.slice A7 n7 c7)] 38 (0, 0)) from by rw [hw, blk_set HL7.out]; simp); have n1_ := Aside0.mk (show Kd.R kZ95 95 w8 w.heap.size (fun _ => True) (.slice A7 n7 c7) (ys ++ [(⟨1, f, []⟩ : S95)] ++ [(⟨3, c, []⟩ : S95)]) from by rw [hw]; exact Kd.R_mono (Kd.R_far (p := ⟨B, 0, none⟩) (Kd.R_types HP7.out HL7.out (by decide)) (fun _ hk => hk.2) (.slice A7 n7 c7)) (fun _ _ => trivial)); have n2_ := Aside0.mk (show w8.heap[gb]? = some (.cells #[.int .i64 1, .int .i64 b, .int .i64 c, .int .i64 d, .int .i64 e, .int .i64 f] 77 (0, 0)) from by rw [hw]; exact blk_far (p := ⟨B, 0, none⟩) BK7.out HNE.out (.slice A7 n7 c7)); have n3_ := Aside0.mk (show Below w.heap.size w w8 from by rw [hw]; exact HQ7.out.setCell (p := ⟨B, 0, none⟩) HBB.out _); clear hw HP7 HQ7 HL7 BK7 hcB7 hfB7; have HC := n0_; have HO := n1_; have BK := n2_; have HB := n3_; clear n0_ n1_ n2_ n3_; have hcz_0 : w8.cell? ⟨gb, 0, none⟩ = some (.int .i64 1) := (blk_cell BK.out 0).trans rfl; have hcz_1 : w8.cell? ⟨gb, 1, none⟩ = some (.int .i64 b) := (blk_cell BK.out 1).trans rfl; have hcz_2 : w8.cell? ⟨gb, 2, none⟩ = some (.int .i64 c) := (blk_cell BK.out 2).trans rfl; have hcz_3 : w8.cell? ⟨gb, 3, none⟩ = some (.int .i64 d) := (blk_cell BK.out 3).trans rfl; have hcz_4 : w8.cell? ⟨gb, 4, none⟩ = some (.int .i64 e) := (blk_cell BK.out 4).trans rfl; have hcz_5 : w8.cell? ⟨gb, 5, none⟩ = some (.int .i64 f) := (blk_cell BK.out 5).trans rfl))
            go_roundg (l0.length - (n + 1))
            case measure => omega
            case rel => exact ⟨n + 1, (.slice A7 n7 c7), HN1.out, Nat.le_refl _, (by first | rfl | (rw [HWN.out]; done) | (simp only [HWN.out]; done) | (simp; done) | go_num), HC, ⟨by rw [HE.out, show ys ++ opZ (⟨1, b, c, d, e, f⟩ : S77) ++ (if 1 ≤ (1 : Int) ∧ (1 : Int) ≤ 4 then [(⟨3, c, []⟩ : S95)] else []) = ys ++ [(⟨1, f, []⟩ : S95)] ++ [(⟨3, c, []⟩ : S95)] from by simp [opZ]]; exact HO.out⟩, HB⟩
          · go_wp2_with (first | (go_at_call 66; refine (impl_Flat_hasDst.calls 2 _ b c d e f _ _ HH0.out).mono ?_; rintro e' w6 ⟨rfl, hb⟩; have n0_ := Aside0.mk (blk_below HC.out hb); have n1_ := Aside0.mk (Kd.R_below HO.out hb); have n2_ := Aside0.mk (blk_below BK.out hb); have n3_ := Aside0.mk (below_step HB.out hb); clear HC HO BK HB hb; have HC := n0_; have HO := n1_; have BK := n2_; have HB := n3_; clear n0_ n1_ n2_ n3_; have hcB : w6.cell? ⟨B, 0, none⟩ = some (.slice A3 n3 c3_) := (blk_cell HC.out 0).trans rfl; have hfB := blk_frozen HC.out 0; have hcz_2 : w6.cell? ⟨gb, 2, none⟩ = some (.int .i64 c) := (blk_cell BK.out 2).trans rfl) | ((with_reducible refine gate_builtin (b := .append) (xs := #[.tmp 66, .tmp 70]) rfl ?_); at_builtin; refine Kd.R_append kZ95 (w0 := w) w.heap.size rfl (.tmp 66) (.tmp 70) 38 95 (.agg #[(.int .i64 0), (.int .i64 0), (.slice none 0 0)]) 40 rfl Try.underlying38 info95 rfl (by decide) (by omega) (.slice A3 n3 c3_) (ys) (⟨3, c, []⟩ : S95) [.int .i64 3, .int .i64 c, .slice none 0 0] (fun _ => True) (fun _ => False) rfl rfl ?aP (fun _ hk => hk.elim) ?aF ?aO ?aB ?aS ?aL ?_; (case aP => exact ⟨rfl, rfl⟩); (case aB => exact HB.out); (case aF => exact (fun _ _ => trivial)); (case aO => exact HO.out); (case aS => exact (below_size HB.out)); (case aL => have := HYL.out; (try simp only [List.length_append, List.length_cons, List.length_nil]); omega); intro va7 w7 ho hb hg hat; obtain ⟨A7, n7, c7, ev7⟩ := any_slice ho; subst ev7; have hbl : w7.heap[B]? = some (.cells #[(.slice A3 n3 c3_)] 38 (0, 0)) := blk_grown HC.out hg (Kd.R_ne HO.out HC.out (by decide)); have hcB7 : w7.cell? ⟨B, 0, none⟩ = some ((.slice A3 n3 c3_)) := (blk_cell hbl 0).trans rfl; have hfB7 := blk_frozen hbl 0; have HP7 := Aside0.mk ho; have HQ7 := Aside0.mk hb; have HL7 := Aside0.mk hbl; have BK7 := Aside0.mk (blk_grown BK.out hg (Kd.R_ne HO.out BK.out (by decide))); clear ho hb hg hat hbl HO HB HC BK) | ((with_reducible refine gate_store (t := 38) (p := 2) rfl ?_); refine store_event (t := 38) (p := 2) (v := ?vo2_7) (w1 := (w7.setCell ⟨B, 0, none⟩ (.slice A7 n7 c7))) ?hg ?ho ?hn ?hr ?_; (case ho => rfl); (case hg => rfl); (case hn => rfl); (case hr => first | (go_simp; done) | (go_simp; rfl)); intro w8 hw; have n0_ := Aside0.mk (show w8.heap[B]? = some (.cells #[(.slice A7 n7 c7)] 38 (0, 0)) from by rw [hw, blk_set HL7.out]; simp); have n1_ := Aside0.mk (show Kd.R kZ95 95 w8 w.heap.size (fun _ => True) (.slice A7 n7 c7) (ys ++ [(⟨3, c, []⟩ : S95)]) from by rw [hw]; exact Kd.R_mono (Kd.R_far (p := ⟨B, 0, none⟩) (Kd.R_types HP7.out HL7.out (by decide)) (fun _ hk => hk.2) (.slice A7 n7 c7)) (fun _ _ => trivial)); have n2_ := Aside0.mk (show w8.heap[gb]? = some (.cells #[.int .i64 2, .int .i64 b, .int .i64 c, .int .i64 d, .int .i64 e, .int .i64 f] 77 (0, 0)) from by rw [hw]; exact blk_far (p := ⟨B, 0, none⟩) BK7.out HNE.out (.slice A7 n7 c7)); have n3_ := Aside0.mk (show Below w.heap.size w w8 from by rw [hw]; exact HQ7.out.setCell (p := ⟨B, 0, none⟩) HBB.out _); clear hw HP7 HQ7 HL7 BK7 hcB7 hfB7; have HC := n0_; have HO := n1_; have BK := n2_; have HB := n3_; clear n0_ n1_ n2_ n3_; have hcz_0 : w8.cell? ⟨gb, 0, none⟩ = some (.int .i64 2) := (blk_cell BK.out 0).trans rfl; have hcz_1 : w8.cell? ⟨gb, 1, none⟩ = some (.int .i64 b) := (blk_cell BK.out 1).trans rfl; have hcz_2 : w8.cell? ⟨gb, 2, none⟩ = some (.int .i64 c) := (blk_cell BK.out 2).trans rfl; have hcz_3 : w8.cell? ⟨gb, 3, none⟩ = some (.int .i64 d) := (blk_cell BK.out 3).trans rfl; have hcz_4 : w8.cell? ⟨gb, 4, none⟩ = some (.int .i64 e) := (blk_cell BK.out 4).trans rfl; have hcz_5 : w8.cell? ⟨gb, 5, none⟩ = some (.int .i64 f) := (blk_cell BK.out 5).trans rfl))
            go_roundg (l0.length - (n + 1))
            case measure => omega
            case rel => exact ⟨n + 1, (.slice A7 n7 c7), HN1.out, Nat.le_refl _, (by first | rfl | (rw [HWN.out]; done) | (simp only [HWN.out]; done) | (simp; done) | go_num), HC, ⟨by rw [HE.out, show ys ++ opZ (⟨2, b, c, d, e, f⟩ : S77) ++ (if 1 ≤ (2 : Int) ∧ (2 : Int) ≤ 4 then [(⟨3, c, []⟩ : S95)] else []) = ys ++ [(⟨3, c, []⟩ : S95)] from by simp [opZ]]; exact HO.out⟩, HB⟩
          · go_wp2_with (first | ((with_reducible refine gate_builtin (b := .append) (xs := #[.tmp 40, .tmp 44]) rfl ?_); at_builtin; refine Kd.R_append kZ95 (w0 := w) w.heap.size rfl (.tmp 40) (.tmp 44) 38 95 (.agg #[(.int .i64 0), (.int .i64 0), (.slice none 0 0)]) 40 rfl Try.underlying38 info95 rfl (by decide) (by omega) (.slice A3 n3 c3_) (ys) (⟨b, 0, []⟩ : S95) [.int .i64 b, .int .i64 0, .slice none 0 0] (fun _ => True) (fun _ => False) rfl rfl ?aP (fun _ hk => hk.elim) ?aF ?aO ?aB ?aS ?aL ?_; (case aP => exact ⟨rfl, rfl⟩); (case aB => exact HB.out); (case aF => exact (fun _ _ => trivial)); (case aO => exact HO.out); (case aS => exact (below_size HB.out)); (case aL => have := HYL.out; (try simp only [List.length_append, List.length_cons, List.length_nil]); omega); intro va4 w4 ho hb hg hat; obtain ⟨A4, n4, c4, ev4⟩ := any_slice ho; subst ev4; have hbl : w4.heap[B]? = some (.cells #[(.slice A3 n3 c3_)] 38 (0, 0)) := blk_grown HC.out hg (Kd.R_ne HO.out HC.out (by decide)); have hcB4 : w4.cell? ⟨B, 0, none⟩ = some ((.slice A3 n3 c3_)) := (blk_cell hbl 0).trans rfl; have hfB4 := blk_frozen hbl 0; have HP4 := Aside0.mk ho; have HQ4 := Aside0.mk hb; have HL4 := Aside0.mk hbl; have BK4 := Aside0.mk (blk_grown BK.out hg (Kd.R_ne HO.out BK.out (by decide))); clear ho hb hg hat hbl HO HB HC BK) | ((with_reducible refine gate_store (t := 38) (p := 2) rfl ?_); refine store_event (t := 38) (p := 2) (v := ?vo3_4) (w1 := (w4.setCell ⟨B, 0, none⟩ (.slice A4 n4 c4))) ?hg ?ho ?hn ?hr ?_; (case ho => rfl); (case hg => rfl); (case hn => rfl); (case hr => first | (go_simp; done) | (go_simp; rfl)); intro w5 hw; have n0_ := Aside0.mk (show w5.heap[B]? = some (.cells #[(.slice A4 n4 c4)] 38 (0, 0)) from by rw [hw, blk_set HL4.out]; simp); have n1_ := Aside0.mk (show Kd.R kZ95 95 w5 w.heap.size (fun _ => True) (.slice A4 n4 c4) (ys ++ [(⟨b, 0, []⟩ : S95)]) from by rw [hw]; exact Kd.R_mono (Kd.R_far (p := ⟨B, 0, none⟩) (Kd.R_types HP4.out HL4.out (by decide)) (fun _ hk => hk.2) (.slice A4 n4 c4)) (fun _ _ => trivial)); have n2_ := Aside0.mk (show w5.heap[gb]? = some (.cells #[.int .i64 3, .int .i64 b, .int .i64 c, .int .i64 d, .int .i64 e, .int .i64 f] 77 (0, 0)) from by rw [hw]; exact blk_far (p := ⟨B, 0, none⟩) BK4.out HNE.out (.slice A4 n4 c4)); have n3_ := Aside0.mk (show Below w.heap.size w w5 from by rw [hw]; exact HQ4.out.setCell (p := ⟨B, 0, none⟩) HBB.out _); clear hw HP4 HQ4 HL4 BK4 hcB4 hfB4; have HC := n0_; have HO := n1_; have BK := n2_; have HB := n3_; clear n0_ n1_ n2_ n3_; have hcz_0 : w5.cell? ⟨gb, 0, none⟩ = some (.int .i64 3) := (blk_cell BK.out 0).trans rfl; have hcz_1 : w5.cell? ⟨gb, 1, none⟩ = some (.int .i64 b) := (blk_cell BK.out 1).trans rfl; have hcz_2 : w5.cell? ⟨gb, 2, none⟩ = some (.int .i64 c) := (blk_cell BK.out 2).trans rfl; have hcz_3 : w5.cell? ⟨gb, 3, none⟩ = some (.int .i64 d) := (blk_cell BK.out 3).trans rfl; have hcz_4 : w5.cell? ⟨gb, 4, none⟩ = some (.int .i64 e) := (blk_cell BK.out 4).trans rfl; have hcz_5 : w5.cell? ⟨gb, 5, none⟩ = some (.int .i64 f) := (blk_cell BK.out 5).trans rfl) | (go_at_call 66; refine (impl_Flat_hasDst.calls 2 _ b c d e f _ _ HH0.out).mono ?_; rintro e' w6 ⟨rfl, hb⟩; have n0_ := Aside0.mk (blk_below HC.out hb); have n1_ := Aside0.mk (Kd.R_below HO.out hb); have n2_ := Aside0.mk (blk_below BK.out hb); have n3_ := Aside0.mk (below_step HB.out hb); clear HC HO BK HB hb; have HC := n0_; have HO := n1_; have BK := n2_; have HB := n3_; clear n0_ n1_ n2_ n3_; have hcB : w6.cell? ⟨B, 0, none⟩ = some (.slice A4 n4 c4) := (blk_cell HC.out 0).trans rfl; have hfB := blk_frozen HC.out 0; have hcz_2 : w6.cell? ⟨gb, 2, none⟩ = some (.int .i64 c) := (blk_cell BK.out 2).trans rfl) | ((with_reducible refine gate_builtin (b := .append) (xs := #[.tmp 66, .tmp 70]) rfl ?_); at_builtin; refine Kd.R_append kZ95 (w0 := w) w.heap.size rfl (.tmp 66) (.tmp 70) 38 95 (.agg #[(.int .i64 0), (.int .i64 0), (.slice none 0 0)]) 40 rfl Try.underlying38 info95 rfl (by decide) (by omega) (.slice A4 n4 c4) (ys ++ [(⟨b, 0, []⟩ : S95)]) (⟨3, c, []⟩ : S95) [.int .i64 3, .int .i64 c, .slice none 0 0] (fun _ => True) (fun _ => False) rfl rfl ?aP (fun _ hk => hk.elim) ?aF ?aO ?aB ?aS ?aL ?_; (case aP => exact ⟨rfl, rfl⟩); (case aB => exact HB.out); (case aF => exact (fun _ _ => trivial)); (case aO => exact HO.out); (case aS => exact (below_size HB.out)); (case aL => have := HYL.out; (try simp only [List.length_append, List.length_cons, List.length_nil]); omega); intro va7 w7 ho hb hg hat; obtain ⟨A7, n7, c7, ev7⟩ := any_slice ho; subst ev7; have hbl : w7.heap[B]? = some (.cells #[(.slice A4 n4 c4)] 38 (0, 0)) := blk_grown HC.out hg (Kd.R_ne HO.out HC.out (by decide)); have hcB7 : w7.cell? ⟨B, 0, none⟩ = some ((.slice A4 n4 c4)) := (blk_cell hbl 0).trans rfl; have hfB7 := blk_frozen hbl 0; have HP7 := Aside0.mk ho; have HQ7 := Aside0.mk hb; have HL7 := Aside0.mk hbl; have BK7 := Aside0.mk (blk_grown BK.out hg (Kd.R_ne HO.out BK.out (by decide))); clear ho hb hg hat hbl HO HB HC BK) | ((with_reducible refine gate_store (t := 38) (p := 2) rfl ?_); refine store_event (t := 38) (p := 2) (v := ?vo3_7) (w1 := (w7.setCell ⟨B, 0, none⟩ (.slice A7 n7 c7))) ?hg ?ho ?hn ?hr ?_; (case ho => rfl); (case hg => rfl); (case hn => rfl); (case hr => first | (go_simp; done) | (go_simp; rfl)); intro w8 hw; have n0_ := Aside0.mk (show w8.heap[B]? = some (.cells #[(.slice A7 n7 c7)] 38 (0, 0)) from by rw [hw, blk_set HL7.out]; simp); have n1_ := Aside0.mk (show Kd.R kZ95 95 w8 w.heap.size (fun _ => True) (.slice A7 n7 c7) (ys ++ [(⟨b, 0, []⟩ : S95)] ++ [(⟨3, c, []⟩ : S95)]) from by rw [hw]; exact Kd.R_mono (Kd.R_far (p := ⟨B, 0, none⟩) (Kd.R_types HP7.out HL7.out (by decide)) (fun _ hk => hk.2) (.slice A7 n7 c7)) (fun _ _ => trivial)); have n2_ := Aside0.mk (show w8.heap[gb]? = some (.cells #[.int .i64 3, .int .i64 b, .int .i64 c, .int .i64 d, .int .i64 e, .int .i64 f] 77 (0, 0)) from by rw [hw]; exact blk_far (p := ⟨B, 0, none⟩) BK7.out HNE.out (.slice A7 n7 c7)); have n3_ := Aside0.mk (show Below w.heap.size w w8 from by rw [hw]; exact HQ7.out.setCell (p := ⟨B, 0, none⟩) HBB.out _); clear hw HP7 HQ7 HL7 BK7 hcB7 hfB7; have HC := n0_; have HO := n1_; have BK := n2_; have HB := n3_; clear n0_ n1_ n2_ n3_; have hcz_0 : w8.cell? ⟨gb, 0, none⟩ = some (.int .i64 3) := (blk_cell BK.out 0).trans rfl; have hcz_1 : w8.cell? ⟨gb, 1, none⟩ = some (.int .i64 b) := (blk_cell BK.out 1).trans rfl; have hcz_2 : w8.cell? ⟨gb, 2, none⟩ = some (.int .i64 c) := (blk_cell BK.out 2).trans rfl; have hcz_3 : w8.cell? ⟨gb, 3, none⟩ = some (.int .i64 d) := (blk_cell BK.out 3).trans rfl; have hcz_4 : w8.cell? ⟨gb, 4, none⟩ = some (.int .i64 e) := (blk_cell BK.out 4).trans rfl; have hcz_5 : w8.cell? ⟨gb, 5, none⟩ = some (.int .i64 f) := (blk_cell BK.out 5).trans rfl))
            go_roundg (l0.length - (n + 1))
            case measure => omega
            case rel => exact ⟨n + 1, (.slice A7 n7 c7), HN1.out, Nat.le_refl _, (by first | rfl | (rw [HWN.out]; done) | (simp only [HWN.out]; done) | (simp; done) | go_num), HC, ⟨by rw [HE.out, show ys ++ opZ (⟨3, b, c, d, e, f⟩ : S77) ++ (if 1 ≤ (3 : Int) ∧ (3 : Int) ≤ 4 then [(⟨3, c, []⟩ : S95)] else []) = ys ++ [(⟨b, 0, []⟩ : S95)] ++ [(⟨3, c, []⟩ : S95)] from by simp [opZ]]; exact HO.out⟩, HB⟩
          · go_wp2_with (first | ((with_reducible refine gate_builtin (b := .append) (xs := #[.tmp 48, .tmp 50]) rfl ?_); at_builtin; refine Kd.R_append kZ95 (w0 := w) w.heap.size rfl (.tmp 48) (.tmp 50) 38 95 (.agg #[(.int .i64 0), (.int .i64 0), (.slice none 0 0)]) 40 rfl Try.underlying38 info95 rfl (by decide) (by omega) (.slice A3 n3 c3_) (ys) (⟨10, 0, []⟩ : S95) [.int .i64 10, .int .i64 0, .slice none 0 0] (fun _ => True) (fun _ => False) rfl rfl ?aP (fun _ hk => hk.elim) ?aF ?aO ?aB ?aS ?aL ?_; (case aP => exact ⟨rfl, rfl⟩); (case aB => exact HB.out); (case aF => exact (fun _ _ => trivial)); (case aO => exact HO.out); (case aS => exact (below_size HB.out)); (case aL => have := HYL.out; (try simp only [List.length_append, List.length_cons, List.length_nil]); omega); intro va4 w4 ho hb hg hat; obtain ⟨A4, n4, c4, ev4⟩ := any_slice ho; subst ev4; have hbl : w4.heap[B]? = some (.cells #[(.slice A3 n3 c3_)] 38 (0, 0)) := blk_grown HC.out hg (Kd.R_ne HO.out HC.out (by decide)); have hcB4 : w4.cell? ⟨B, 0, none⟩ = some ((.slice A3 n3 c3_)) := (blk_cell hbl 0).trans rfl; have hfB4 := blk_frozen hbl 0; have HP4 := Aside0.mk ho; have HQ4 := Aside0.mk hb; have HL4 := Aside0.mk hbl; have BK4 := Aside0.mk (blk_grown BK.out hg (Kd.R_ne HO.out BK.out (by decide))); clear ho hb hg hat hbl HO HB HC BK) | ((with_reducible refine gate_store (t := 38) (p := 2) rfl ?_); refine store_event (t := 38) (p := 2) (v := ?vo4_4) (w1 := (w4.setCell ⟨B, 0, none⟩ (.slice A4 n4 c4))) ?hg ?ho ?hn ?hr ?_; (case ho => rfl); (case hg => rfl); (case hn => rfl); (case hr => first | (go_simp; done) | (go_simp; rfl)); intro w5 hw; have n0_ := Aside0.mk (show w5.heap[B]? = some (.cells #[(.slice A4 n4 c4)] 38 (0, 0)) from by rw [hw, blk_set HL4.out]; simp); have n1_ := Aside0.mk (show Kd.R kZ95 95 w5 w.heap.size (fun _ => True) (.slice A4 n4 c4) (ys ++ [(⟨10, 0, []⟩ : S95)]) from by rw [hw]; exact Kd.R_mono (Kd.R_far (p := ⟨B, 0, none⟩) (Kd.R_types HP4.out HL4.out (by decide)) (fun _ hk => hk.2) (.slice A4 n4 c4)) (fun _ _ => trivial)); have n2_ := Aside0.mk (show w5.heap[gb]? = some (.cells #[.int .i64 4, .int .i64 b, .int .i64 c, .int .i64 d, .int .i64 e, .int .i64 f] 77 (0, 0)) from by rw [hw]; exact blk_far (p := ⟨B, 0, none⟩) BK4.out HNE.out (.slice A4 n4 c4)); have n3_ := Aside0.mk (show Below w.heap.size w w5 from by rw [hw]; exact HQ4.out.setCell (p := ⟨B, 0, none⟩) HBB.out _); clear hw HP4 HQ4 HL4 BK4 hcB4 hfB4; have HC := n0_; have HO := n1_; have BK := n2_; have HB := n3_; clear n0_ n1_ n2_ n3_; have hcz_0 : w5.cell? ⟨gb, 0, none⟩ = some (.int .i64 4) := (blk_cell BK.out 0).trans rfl; have hcz_1 : w5.cell? ⟨gb, 1, none⟩ = some (.int .i64 b) := (blk_cell BK.out 1).trans rfl; have hcz_2 : w5.cell? ⟨gb, 2, none⟩ = some (.int .i64 c) := (blk_cell BK.out 2).trans rfl; have hcz_3 : w5.cell? ⟨gb, 3, none⟩ = some (.int .i64 d) := (blk_cell BK.out 3).trans rfl; have hcz_4 : w5.cell? ⟨gb, 4, none⟩ = some (.int .i64 e) := (blk_cell BK.out 4).trans rfl; have hcz_5 : w5.cell? ⟨gb, 5, none⟩ = some (.int .i64 f) := (blk_cell BK.out 5).trans rfl) | (go_at_call 66; refine (impl_Flat_hasDst.calls 2 _ b c d e f _ _ HH0.out).mono ?_; rintro e' w6 ⟨rfl, hb⟩; have n0_ := Aside0.mk (blk_below HC.out hb); have n1_ := Aside0.mk (Kd.R_below HO.out hb); have n2_ := Aside0.mk (blk_below BK.out hb); have n3_ := Aside0.mk (below_step HB.out hb); clear HC HO BK HB hb; have HC := n0_; have HO := n1_; have BK := n2_; have HB := n3_; clear n0_ n1_ n2_ n3_; have hcB : w6.cell? ⟨B, 0, none⟩ = some (.slice A4 n4 c4) := (blk_cell HC.out 0).trans rfl; have hfB := blk_frozen HC.out 0; have hcz_2 : w6.cell? ⟨gb, 2, none⟩ = some (.int .i64 c) := (blk_cell BK.out 2).trans rfl) | ((with_reducible refine gate_builtin (b := .append) (xs := #[.tmp 66, .tmp 70]) rfl ?_); at_builtin; refine Kd.R_append kZ95 (w0 := w) w.heap.size rfl (.tmp 66) (.tmp 70) 38 95 (.agg #[(.int .i64 0), (.int .i64 0), (.slice none 0 0)]) 40 rfl Try.underlying38 info95 rfl (by decide) (by omega) (.slice A4 n4 c4) (ys ++ [(⟨10, 0, []⟩ : S95)]) (⟨3, c, []⟩ : S95) [.int .i64 3, .int .i64 c, .slice none 0 0] (fun _ => True) (fun _ => False) rfl rfl ?aP (fun _ hk => hk.elim) ?aF ?aO ?aB ?aS ?aL ?_; (case aP => exact ⟨rfl, rfl⟩); (case aB => exact HB.out); (case aF => exact (fun _ _ => trivial)); (case aO => exact HO.out); (case aS => exact (below_size HB.out)); (case aL => have := HYL.out; (try simp only [List.length_append, List.length_cons, List.length_nil]); omega); intro va7 w7 ho hb hg hat; obtain ⟨A7, n7, c7, ev7⟩ := any_slice ho; subst ev7; have hbl : w7.heap[B]? = some (.cells #[(.slice A4 n4 c4)] 38 (0, 0)) := blk_grown HC.out hg (Kd.R_ne HO.out HC.out (by decide)); have hcB7 : w7.cell? ⟨B, 0, none⟩ = some ((.slice A4 n4 c4)) := (blk_cell hbl 0).trans rfl; have hfB7 := blk_frozen hbl 0; have HP7 := Aside0.mk ho; have HQ7 := Aside0.mk hb; have HL7 := Aside0.mk hbl; have BK7 := Aside0.mk (blk_grown BK.out hg (Kd.R_ne HO.out BK.out (by decide))); clear ho hb hg hat hbl HO HB HC BK) | ((with_reducible refine gate_store (t := 38) (p := 2) rfl ?_); refine store_event (t := 38) (p := 2) (v := ?vo4_7) (w1 := (w7.setCell ⟨B, 0, none⟩ (.slice A7 n7 c7))) ?hg ?ho ?hn ?hr ?_; (case ho => rfl); (case hg => rfl); (case hn => rfl); (case hr => first | (go_simp; done) | (go_simp; rfl)); intro w8 hw; have n0_ := Aside0.mk (show w8.heap[B]? = some (.cells #[(.slice A7 n7 c7)] 38 (0, 0)) from by rw [hw, blk_set HL7.out]; simp); have n1_ := Aside0.mk (show Kd.R kZ95 95 w8 w.heap.size (fun _ => True) (.slice A7 n7 c7) (ys ++ [(⟨10, 0, []⟩ : S95)] ++ [(⟨3, c, []⟩ : S95)]) from by rw [hw]; exact Kd.R_mono (Kd.R_far (p := ⟨B, 0, none⟩) (Kd.R_types HP7.out HL7.out (by decide)) (fun _ hk => hk.2) (.slice A7 n7 c7)) (fun _ _ => trivial)); have n2_ := Aside0.mk (show w8.heap[gb]? = some (.cells #[.int .i64 4, .int .i64 b, .int .i64 c, .int .i64 d, .int .i64 e, .int .i64 f] 77 (0, 0)) from by rw [hw]; exact blk_far (p := ⟨B, 0, none⟩) BK7.out HNE.out (.slice A7 n7 c7)); have n3_ := Aside0.mk (show Below w.heap.size w w8 from by rw [hw]; exact HQ7.out.setCell (p := ⟨B, 0, none⟩) HBB.out _); clear hw HP7 HQ7 HL7 BK7 hcB7 hfB7; have HC := n0_; have HO := n1_; have BK := n2_; have HB := n3_; clear n0_ n1_ n2_ n3_; have hcz_0 : w8.cell? ⟨gb, 0, none⟩ = some (.int .i64 4) := (blk_cell BK.out 0).trans rfl; have hcz_1 : w8.cell? ⟨gb, 1, none⟩ = some (.int .i64 b) := (blk_cell BK.out 1).trans rfl; have hcz_2 : w8.cell? ⟨gb, 2, none⟩ = some (.int .i64 c) := (blk_cell BK.out 2).trans rfl; have hcz_3 : w8.cell? ⟨gb, 3, none⟩ = some (.int .i64 d) := (blk_cell BK.out 3).trans rfl; have hcz_4 : w8.cell? ⟨gb, 4, none⟩ = some (.int .i64 e) := (blk_cell BK.out 4).trans rfl; have hcz_5 : w8.cell? ⟨gb, 5, none⟩ = some (.int .i64 f) := (blk_cell BK.out 5).trans rfl))
            go_roundg (l0.length - (n + 1))
            case measure => omega
            case rel => exact ⟨n + 1, (.slice A7 n7 c7), HN1.out, Nat.le_refl _, (by first | rfl | (rw [HWN.out]; done) | (simp only [HWN.out]; done) | (simp; done) | go_num), HC, ⟨by rw [HE.out, show ys ++ opZ (⟨4, b, c, d, e, f⟩ : S77) ++ (if 1 ≤ (4 : Int) ∧ (4 : Int) ≤ 4 then [(⟨3, c, []⟩ : S95)] else []) = ys ++ [(⟨10, 0, []⟩ : S95)] ++ [(⟨3, c, []⟩ : S95)] from by simp [opZ]]; exact HO.out⟩, HB⟩
          · go_wp2_with (first | ((with_reducible refine gate_builtin (b := .append) (xs := #[.tmp 54, .tmp 56]) rfl ?_); at_builtin; refine Kd.R_append kZ95 (w0 := w) w.heap.size rfl (.tmp 54) (.tmp 56) 38 95 (.agg #[(.int .i64 0), (.int .i64 0), (.slice none 0 0)]) 40 rfl Try.underlying38 info95 rfl (by decide) (by omega) (.slice A3 n3 c3_) (ys) (⟨11, 0, []⟩ : S95) [.int .i64 11, .int .i64 0, .slice none 0 0] (fun _ => True) (fun _ => False) rfl rfl ?aP (fun _ hk => hk.elim) ?aF ?aO ?aB ?aS ?aL ?_; (case aP => exact ⟨rfl, rfl⟩); (case aB => exact HB.out); (case aF => exact (fun _ _ => trivial)); (case aO => exact HO.out); (case aS => exact (below_size HB.out)); (case aL => have := HYL.out; (try simp only [List.length_append, List.length_cons, List.length_nil]); omega); intro va4 w4 ho hb hg hat; obtain ⟨A4, n4, c4, ev4⟩ := any_slice ho; subst ev4; have hbl : w4.heap[B]? = some (.cells #[(.slice A3 n3 c3_)] 38 (0, 0)) := blk_grown HC.out hg (Kd.R_ne HO.out HC.out (by decide)); have hcB4 : w4.cell? ⟨B, 0, none⟩ = some ((.slice A3 n3 c3_)) := (blk_cell hbl 0).trans rfl; have hfB4 := blk_frozen hbl 0; have HP4 := Aside0.mk ho; have HQ4 := Aside0.mk hb; have HL4 := Aside0.mk hbl; have BK4 := Aside0.mk (blk_grown BK.out hg (Kd.R_ne HO.out BK.out (by decide))); clear ho hb hg hat hbl HO HB HC BK) | ((with_reducible refine gate_store (t := 38) (p := 2) rfl ?_); refine store_event (t := 38) (p := 2) (v := ?vo5_4) (w1 := (w4.setCell ⟨B, 0, none⟩ (.slice A4 n4 c4))) ?hg ?ho ?hn ?hr ?_; (case ho => rfl); (case hg => rfl); (case hn => rfl); (case hr => first | (go_simp; done) | (go_simp; rfl)); intro w5 hw; have n0_ := Aside0.mk (show w5.heap[B]? = some (.cells #[(.slice A4 n4 c4)] 38 (0, 0)) from by rw [hw, blk_set HL4.out]; simp); have n1_ := Aside0.mk (show Kd.R kZ95 95 w5 w.heap.size (fun _ => True) (.slice A4 n4 c4) (ys ++ [(⟨11, 0, []⟩ : S95)]) from by rw [hw]; exact Kd.R_mono (Kd.R_far (p := ⟨B, 0, none⟩) (Kd.R_types HP4.out HL4.out (by decide)) (fun _ hk => hk.2) (.slice A4 n4 c4)) (fun _ _ => trivial)); have n2_ := Aside0.mk (show w5.heap[gb]? = some (.cells #[.int .i64 5, .int .i64 b, .int .i64 c, .int .i64 d, .int .i64 e, .int .i64 f] 77 (0, 0)) from by rw [hw]; exact blk_far (p := ⟨B, 0, none⟩) BK4.out HNE.out (.slice A4 n4 c4)); have n3_ := Aside0.mk (show Below w.heap.size w w5 from by rw [hw]; exact HQ4.out.setCell (p := ⟨B, 0, none⟩) HBB.out _); clear hw HP4 HQ4 HL4 BK4 hcB4 hfB4; have HC := n0_; have HO := n1_; have BK := n2_; have HB := n3_; clear n0_ n1_ n2_ n3_; have hcz_0 : w5.cell? ⟨gb, 0, none⟩ = some (.int .i64 5) := (blk_cell BK.out 0).trans rfl; have hcz_1 : w5.cell? ⟨gb, 1, none⟩ = some (.int .i64 b) := (blk_cell BK.out 1).trans rfl; have hcz_2 : w5.cell? ⟨gb, 2, none⟩ = some (.int .i64 c) := (blk_cell BK.out 2).trans rfl; have hcz_3 : w5.cell? ⟨gb, 3, none⟩ = some (.int .i64 d) := (blk_cell BK.out 3).trans rfl; have hcz_4 : w5.cell? ⟨gb, 4, none⟩ = some (.int .i64 e) := (blk_cell BK.out 4).trans rfl; have hcz_5 : w5.cell? ⟨gb, 5, none⟩ = some (.int .i64 f) := (blk_cell BK.out 5).trans rfl) | (go_at_call 66; refine (impl_Flat_hasDst.calls 2 _ b c d e f _ _ HH0.out).mono ?_; rintro e' w6 ⟨rfl, hb⟩; have n0_ := Aside0.mk (blk_below HC.out hb); have n1_ := Aside0.mk (Kd.R_below HO.out hb); have n2_ := Aside0.mk (blk_below BK.out hb); have n3_ := Aside0.mk (below_step HB.out hb); clear HC HO BK HB hb; have HC := n0_; have HO := n1_; have BK := n2_; have HB := n3_; clear n0_ n1_ n2_ n3_; have hcB : w6.cell? ⟨B, 0, none⟩ = some (.slice A4 n4 c4) := (blk_cell HC.out 0).trans rfl; have hfB := blk_frozen HC.out 0; have hcz_2 : w6.cell? ⟨gb, 2, none⟩ = some (.int .i64 c) := (blk_cell BK.out 2).trans rfl))
            go_roundg (l0.length - (n + 1))
            case measure => omega
            case rel => exact ⟨n + 1, (.slice A4 n4 c4), HN1.out, Nat.le_refl _, (by first | rfl | (rw [HWN.out]; done) | (simp only [HWN.out]; done) | (simp; done) | go_num), HC, ⟨by rw [HE.out, show ys ++ opZ (⟨5, b, c, d, e, f⟩ : S77) ++ (if 1 ≤ (5 : Int) ∧ (5 : Int) ≤ 4 then [(⟨3, c, []⟩ : S95)] else []) = ys ++ [(⟨11, 0, []⟩ : S95)] from by simp [opZ]]; exact HO.out⟩, HB⟩
          · go_wp2_with (first | ((with_reducible refine gate_builtin (b := .append) (xs := #[.tmp 60, .tmp 62]) rfl ?_); at_builtin; refine Kd.R_append kZ95 (w0 := w) w.heap.size rfl (.tmp 60) (.tmp 62) 38 95 (.agg #[(.int .i64 0), (.int .i64 0), (.slice none 0 0)]) 40 rfl Try.underlying38 info95 rfl (by decide) (by omega) (.slice A3 n3 c3_) (ys) (⟨12, 0, []⟩ : S95) [.int .i64 12, .int .i64 0, .slice none 0 0] (fun _ => True) (fun _ => False) rfl rfl ?aP (fun _ hk => hk.elim) ?aF ?aO ?aB ?aS ?aL ?_; (case aP => exact ⟨rfl, rfl⟩); (case aB => exact HB.out); (case aF => exact (fun _ _ => trivial)); (case aO => exact HO.out); (case aS => exact (below_size HB.out)); (case aL => have := HYL.out; (try simp only [List.length_append, List.length_cons, List.length_nil]); omega); intro va4 w4 ho hb hg hat; obtain ⟨A4, n4, c4, ev4⟩ := any_slice ho; subst ev4; have hbl : w4.heap[B]? = some (.cells #[(.slice A3 n3 c3_)] 38 (0, 0)) := blk_grown HC.out hg (Kd.R_ne HO.out HC.out (by decide)); have hcB4 : w4.cell? ⟨B, 0, none⟩ = some ((.slice A3 n3 c3_)) := (blk_cell hbl 0).trans rfl; have hfB4 := blk_frozen hbl 0; have HP4 := Aside0.mk ho; have HQ4 := Aside0.mk hb; have HL4 := Aside0.mk hbl; have BK4 := Aside0.mk (blk_grown BK.out hg (Kd.R_ne HO.out BK.out (by decide))); clear ho hb hg hat hbl HO HB HC BK) | ((with_reducible refine gate_store (t := 38) (p := 2) rfl ?_); refine store_event (t := 38) (p := 2) (v := ?vo6_4) (w1 := (w4.setCell ⟨B, 0, none⟩ (.slice A4 n4 c4))) ?hg ?ho ?hn ?hr ?_; (case ho => rfl); (case hg => rfl); (case hn => rfl); (case hr => first | (go_simp; done) | (go_simp; rfl)); intro w5 hw; have n0_ := Aside0.mk (show w5.heap[B]? = some (.cells #[(.slice A4 n4 c4)] 38 (0, 0)) from by rw [hw, blk_set HL4.out]; simp); have n1_ := Aside0.mk (show Kd.R kZ95 95 w5 w.heap.size (fun _ => True) (.slice A4 n4 c4) (ys ++ [(⟨12, 0, []⟩ : S95)]) from by rw [hw]; exact Kd.R_mono (Kd.R_far (p := ⟨B, 0, none⟩) (Kd.R_types HP4.out HL4.out (by decide)) (fun _ hk => hk.2) (.slice A4 n4 c4)) (fun _ _ => trivial)); have n2_ := Aside0.mk (show w5.heap[gb]? = some (.cells #[.int .i64 6, .int .i64 b, .int .i64 c, .int .i64 d, .int .i64 e, .int .i64 f] 77 (0, 0)) from by rw [hw]; exact blk_far (p := ⟨B, 0, none⟩) BK4.out HNE.out (.slice A4 n4 c4)); have n3_ := Aside0.mk (show Below w.heap.size w w5 from by rw [hw]; exact HQ4.out.setCell (p := ⟨B, 0, none⟩) HBB.out _); clear hw HP4 HQ4 HL4 BK4 hcB4 hfB4; have HC := n0_; have HO := n1_; have BK := n2_; have HB := n3_; clear n0_ n1_ n2_ n3_; have hcz_0 : w5.cell? ⟨gb, 0, none⟩ = some (.int .i64 6) := (blk_cell BK.out 0).trans rfl; have hcz_1 : w5.cell? ⟨gb, 1, none⟩ = some (.int .i64 b) := (blk_cell BK.out 1).trans rfl; have hcz_2 : w5.cell? ⟨gb, 2, none⟩ = some (.int .i64 c) := (blk_cell BK.out 2).trans rfl; have hcz_3 : w5.cell? ⟨gb, 3, none⟩ = some (.int .i64 d) := (blk_cell BK.out 3).trans rfl; have hcz_4 : w5.cell? ⟨gb, 4, none⟩ = some (.int .i64 e) := (blk_cell BK.out 4).trans rfl; have hcz_5 : w5.cell? ⟨gb, 5, none⟩ = some (.int .i64 f) := (blk_cell BK.out 5).trans rfl) | (go_at_call 66; refine (impl_Flat_hasDst.calls 2 _ b c d e f _ _ HH0.out).mono ?_; rintro e' w6 ⟨rfl, hb⟩; have n0_ := Aside0.mk (blk_below HC.out hb); have n1_ := Aside0.mk (Kd.R_below HO.out hb); have n2_ := Aside0.mk (blk_below BK.out hb); have n3_ := Aside0.mk (below_step HB.out hb); clear HC HO BK HB hb; have HC := n0_; have HO := n1_; have BK := n2_; have HB := n3_; clear n0_ n1_ n2_ n3_; have hcB : w6.cell? ⟨B, 0, none⟩ = some (.slice A4 n4 c4) := (blk_cell HC.out 0).trans rfl; have hfB := blk_frozen HC.out 0; have hcz_2 : w6.cell? ⟨gb, 2, none⟩ = some (.int .i64 c) := (blk_cell BK.out 2).trans rfl))
            go_roundg (l0.length - (n + 1))
            case measure => omega
            case rel => exact ⟨n + 1, (.slice A4 n4 c4), HN1.out, Nat.le_refl _, (by first | rfl | (rw [HWN.out]; done) | (simp only [HWN.out]; done) | (simp; done) | go_num), HC, ⟨by rw [HE.out, show ys ++ opZ (⟨6, b, c, d, e, f⟩ : S77) ++ (if 1 ≤ (6 : Int) ∧ (6 : Int) ≤ 4 then [(⟨3, c, []⟩ : S95)] else []) = ys ++ [(⟨12, 0, []⟩ : S95)] from by simp [opZ]]; exact HO.out⟩, HB⟩
    · have hd : decide ((n : Int) < (l0.length : Int)) = false := decide_eq_false (by omega)
      have en : l0.take n = l0 := List.take_of_length_le (by omega)
      rw [en] at HO
      have hc : wr.cell? ⟨B, 0, none⟩ = some v1 := (blk_cell HC.out 0).trans rfl
      obtain ⟨Ao, co, eo⟩ := Kd.R_slice HO.out
      subst eo
      go_wp2
      go_ret
      exact ⟨_, rfl, HO.out, HB.out⟩
set_option maxHeartbeats 4000000 in
set_option maxRecDepth 100000 in
theorem impl_FlatSteps.calls0 (k : Nat) (A0 : Option Addr) (c0 : Nat) (l0 : List S77) (t : Bool) (w : World) (hr0 : Kd.C k77 w A0 l0.length l0) (hc0 : l0.length ≤ c0) (h : impl_localFlat.f k l0 = some t) (hg : t = true → l0.length ≤ 60 ∧ ∀ x ∈ l0, 1 ≤ x.f0 ∧ x.f0 ≤ 6) :
    Calls Try.prog 27 #[.slice A0 l0.length c0] w fun e w' => ∃ v0_ : Value, e = .returned (.tuple #[v0_, .bool t]) ∧ Kd.R kZ95 95 w' w.heap.size (fun _ => True) v0_ (if t = true then stepsZ l0 else []) ∧ Below w.heap.size w w' := by
  have HR0 := Aside0.mk hr0
  have HC0 := Aside0.mk hc0
  have HH := Aside0.mk h
  have HG := Aside0.mk hg
  clear hr0 hc0 h hg
  cases t with
  | false =>
    go_enter Try.func27, Try.ntmps27
    go_wp2_with (go_at_call 75; (with_reducible refine (impl_localFlat.calls k _ _ l0 false _ HR0.out HC0.out HH.out).mono ?_); rintro e w1 ⟨rfl, hb⟩; have HB := Aside0.mk hb; clear hb)
    go_ret2
    exact ⟨_, rfl, Kd.R_nil _ _ _ _ _, HB.out⟩
  | true =>
    have HG1 := Aside0.mk (HG.out rfl)
    clear HG
    go_enter Try.func27, Try.ntmps27
    go_wp2_with (first | (go_at_call 75; (with_reducible refine (impl_localFlat.calls k _ _ l0 true _ HR0.out HC0.out HH.out).mono ?_); rintro e w1 ⟨rfl, hb⟩; have HB := Aside0.mk hb; clear hb) | (go_at_call 76; (with_reducible refine (impl_flatSteps.calls0 _ _ l0 _ (Kd.C_below HR0.out HB.out) HC0.out HG1.out.1 HG1.out.2).mono ?_); rintro e w2 ⟨v, rfl, ho, hb⟩; have HO := Aside0.mk (Kd.R_lower ho (below_size HB.out)); have hb2 := below_step HB.out hb; clear HB ho hb; have HB := Aside0.mk hb2; clear hb2))
    go_ret2
    exact ⟨_, rfl, HO.out, HB.out⟩
def markZ.l0 : Nat → List S95 → Int → Int → Option (Int × List S95)
  | 0, _, _, _ => none
  | k + 1, x0, x1, x5 => if x5 < (x0.length : Int) then (if 0 ≤ x5 then markZ.l0 k (x0.set x5.toNat ⟨x1, wrap64 (x1 + 1), []⟩) (wrap64 (wrap64 (x1 + 1) + 1)) (wrap64 (x5 + 1)) else none) else some (x1, x0)
theorem markInt_nil (n : Int) : laws_markIntS.f 1 [] n = some (n, []) := rfl
set_option maxHeartbeats 4000000 in
set_option maxRecDepth 100000 in
theorem laws_markStepS.calls0 (k : Nat) (P0_ : Nat → Prop) (u : Value) (l0 : List S95) (a1 : Int) (r1 : Int) (r2 : List S95) (w0 w : World) (hB : Below w0.heap.size w0 w) (ho0 : Kd.R kZ95 95 w w0.heap.size P0_ u l0) (h : markZ.l0 k l0 a1 0 = some (r1, r2)) :
    Calls Try.prog 29 #[u, .int .i64 a1] w fun e w' => e = .returned (.int .i64 r1) ∧ Kd.R kZ95 95 w' w0.heap.size (fun k_ => (P0_ k_ ∨ w.heap.size ≤ k_)) u r2 ∧ Below w0.heap.size w0 w' ∧ Kept w w' (fun k_ => P0_ k_) := by
  have HO0 := Aside0.mk (show Kd.R kZ95 95 w w0.heap.size (fun k_ => (P0_ k_ ∨ w.heap.size ≤ k_)) u l0 from Kd.R_mono ho0 (fun k_ hk => (.inl hk)))
  have HK := Aside0.mk (Kept.refl w (fun k_ => P0_ k_))
  have HW0 := Aside0.mk hB.size
  have HB := Aside0.mk hB
  have H' := Aside0.mk h
  clear hB h ho0
  go_enter Try.func29, Try.ntmps29
  go_wp2
  go_loopg [1, 5] k (fun kq v1 v5 w' => ∃ (x0 : List S95) (x1 : Int) (n : Nat), v1 = .int .i64 x1 ∧ v5 = .int .i64 n ∧ Aside0 (markZ.l0 kq x0 x1 n = some (r1, r2)) ∧ Aside0 (kq ≤ k) ∧ Aside0 (Kd.R kZ95 95 w' w0.heap.size (fun k_ => (P0_ k_ ∨ w.heap.size ≤ k_)) u x0) ∧ Aside0 (Kept w w' (fun k_ => P0_ k_)) ∧ Aside0 (Below w0.heap.size w0 w'))
  case atStart => exact ⟨l0, a1, 0, rfl, rfl, H', ⟨Nat.le_refl _⟩, HO0, HK, HB⟩
  case round =>
    clear H' HO0
    obtain ⟨x0, x1, n, rfl, rfl, HA, HK1, HO, HK, HB⟩ := hrel
    cases gk with
    | zero => exact absurd HA.out (by simp [markZ.l0])
    | succ k1 =>
      have H := HA.out
      clear HA
      simp only [markZ.l0] at H
      have HM := Aside0.mk (show x0.length ≤ maxLen from by
        obtain ⟨_, inner, ⟨_, ho⟩, _⟩ := HO.out
        rcases ho with ⟨_, hn⟩ | ⟨g, cap, cur, rfl, hg, hh, hnc, hcm, _⟩ <;> omega)
      by_cases c3 : (n : Int) < (x0.length : Int)
      · rw [if_pos c3, if_pos (by omega), Int.toNat_natCast] at H
        have H' := Aside0.mk H
        clear H
        obtain ⟨go5, co5, eo5, gb5, gl5, cl5, HG5⟩ := Kd.R_form HO.out (by omega)
        subst eo5
        have GB5 := Aside0.mk gb5
        have HGo := Aside0.mk (show (P0_ go5 ∨ w.heap.size ≤ go5) from (HO.out.1 _ rfl))
        clear gb5 gl5 HG5 cl5
        have q5 : (n : Int) < (x0.length : Int) := c3
        have c3b0 : decide ((n : Int) < (x0.length : Int)) = true := decide_eq_true c3
        obtain ⟨ce, hcl, hM, hcc, hfr⟩ := Kd.R_elem HO.out z95 (n : Int) (by omega) c3
        obtain ⟨hz, rfl⟩ := hM
        rw [Int.toNat_natCast] at hcc hfr hz
        have e3 : kZ95.sz = 3 := rfl
        simp only [e3] at hcc hfr
        have hx0 : wr.cell? ⟨go5, n * 3, none⟩ = some (.int .i64 ((x0.getD n z95).f0)) := hcc 0 _ rfl
        have hx1 : wr.cell? ⟨go5, n * 3 + 1, none⟩ = some (.int .i64 ((x0.getD n z95).f1)) := hcc 1 _ rfl
        have hf0 : wr.frozen? ⟨go5, n * 3, none⟩ = false := hfr 0
        have hf1 : wr.frozen? ⟨go5, n * 3 + 1, none⟩ = false := hfr 1
        have QN := Aside0.mk c3
        have hlt : n < x0.length := by omega
        have G1 := Aside0.mk (show (x0.set n (⟨x1, (x0.getD n z95).f1, []⟩ : S95)).getD n z95 = (⟨x1, (x0.getD n z95).f1, []⟩ : S95) from by rw [List.getD_eq_getElem?_getD, List.getElem?_set_self hlt]; rfl)
        have G2 := Aside0.mk (show (x0.set n (⟨x1, wrap64 (x1 + 1), []⟩ : S95)).getD n z95 = (⟨x1, wrap64 (x1 + 1), []⟩ : S95) from by rw [List.getD_eq_getElem?_getD, List.getElem?_set_self hlt]; rfl)
        have HP1 := Kd.R_seg HO.out (n : Int) (by omega) c3 (seg := [.int .i64 x1]) (j := 0) hcl (by rw [Int.toNat_natCast]; exact hcc) (show 1 ≤ 3 from by decide) (x' := (⟨x1, (x0.getD n z95).f1, []⟩ : S95)) (okp := fun _ => False) ⟨rfl, rfl⟩ (fun _ hk => hk.elim)
        rw [Int.toNat_natCast] at HP1
        have HP1 := Aside0.mk HP1
        have hn63 : wrap64 ((n : Int) + 1) = (n : Int) + 1 := by
          have := HM.out
          simp only [maxLen] at this
          unfold wrap64
          omega
        clear hcl hcc hfr hlt
        go_wp2_with (first | ((with_reducible refine gate_store (t := 3) (p := 16) rfl ?_); refine store_event (t := 3) (p := 16) (v := ?vo_w13) (w1 := (wr.setCell ⟨go5, n * 3, none⟩ (.int .i64 x1))) ?hg ?ho ?hn ?hr ?_; (case ho => rfl); (case hg => rfl); (case hn => rfl); (case hr => first | (go_simp; done) | (go_simp; rfl)); intro w13 hw; have hg : wr.grownBy w13 (some go5) := (by rw [hw]; exact HP1.out.2); have hp_ : Kd.R kZ95 95 w13 w0.heap.size (fun k_ => (P0_ k_ ∨ w.heap.size ≤ k_)) (.slice (some ⟨go5, 0, none⟩) x0.length co5) (x0.set n (⟨x1, (x0.getD n z95).f1, []⟩ : S95)) := (by rw [hw]; have h_ := HP1.out.1; exact h_); clear HP1; have n0_ := Aside0.mk (hp_); have n1_ := Aside0.mk ((by rw [hw]; exact below_set (HB.out) GB5.out : Below w0.heap.size w0 w13)); have n2_ := Aside0.mk (Kept.of_grown (S := (fun k_ => P0_ k_)) hg HK.out (fun k_ e_ => (HO.out.1 k_ e_))); clear HO HB HK; have HO := n0_; have HB := n1_; have HK := n2_; clear n0_ n1_ n2_; clear hg hw hp_ hx0 hx1 hf0 hf1; obtain ⟨ce2, hcl2, hM2, hcc2, hfr2⟩ := Kd.R_elem HO.out z95 (n : Int) (by omega) QN.out; rw [Int.toNat_natCast, G1.out] at hM2; obtain ⟨_, rfl⟩ := hM2; have HP2 := Aside0.mk (Kd.R_seg HO.out (n : Int) (by omega) QN.out (seg := [.int .i64 (wrap64 (x1 + 1))]) (j := 1) hcl2 hcc2 (show 2 ≤ 3 from by decide) (x' := (⟨x1, wrap64 (x1 + 1), []⟩ : S95)) (okp := fun _ => False) ⟨rfl, rfl⟩ (fun _ hk => hk.elim)); rw [Int.toNat_natCast] at HP2 hcc2 hfr2; have hx1 : w13.cell? ⟨go5, n * 3 + 1, none⟩ = some (.int .i64 (x0.getD n z95).f1) := hcc2 1 _ rfl; have hf1 : w13.frozen? ⟨go5, n * 3 + 1, none⟩ = false := hfr2 1; clear hcl2 hcc2 hfr2) | ((with_reducible refine gate_store (t := 3) (p := 23) rfl ?_); refine store_event (t := 3) (p := 23) (v := ?vo_w14) (w1 := (w13.setCell ⟨go5, n * 3 + 1, none⟩ (.int .i64 (wrap64 (x1 + 1))))) ?hg ?ho ?hn ?hr ?_; (case ho => rfl); (case hg => rfl); (case hn => rfl); (case hr => first | (go_simp; done) | (go_simp; rfl)); intro w14 hw; have hg : w13.grownBy w14 (some go5) := (by rw [hw]; exact HP2.out.2); have hp_ : Kd.R kZ95 95 w14 w0.heap.size (fun k_ => (P0_ k_ ∨ w.heap.size ≤ k_)) (.slice (some ⟨go5, 0, none⟩) x0.length co5) (x0.set n (⟨x1, wrap64 (x1 + 1), []⟩ : S95)) := (by rw [hw]; have h_ := HP2.out.1; rw [List.set_set] at h_; exact h_); clear HP2; have n0_ := Aside0.mk (hp_); have n1_ := Aside0.mk ((by rw [hw]; exact below_set (HB.out) GB5.out : Below w0.heap.size w0 w14)); have n2_ := Aside0.mk (Kept.of_grown (S := (fun k_ => P0_ k_)) hg HK.out (fun k_ e_ => (HO.out.1 k_ e_))); clear HO HB HK; have HO := n0_; have HB := n1_; have HK := n2_; clear n0_ n1_ n2_; clear hg hw hp_ hx1 hf1; obtain ⟨ce3, hcl3, hM3, hcc3, hfr3⟩ := Kd.R_elem HO.out z95 (n : Int) (by omega) QN.out; rw [Int.toNat_natCast, G2.out] at hM3; obtain ⟨_, rfl⟩ := hM3; rw [Int.toNat_natCast] at hcc3; have hx2 : w14.cell? ⟨go5, n * 3 + 2, none⟩ = some (.slice none 0 0) := hcc3 2 _ rfl; clear hcl3 hcc3 hfr3) | (go_at_call 24; (with_reducible refine (laws_markIntS.calls 1 (fun _ => False) (.slice none 0 0) [] (wrap64 (wrap64 (x1 + 1) + 1)) (wrap64 (wrap64 (x1 + 1) + 1)) [] w0 _ HB.out (Kd.R_nil _ _ _ _ _) (markInt_nil _)).mono ?_); rintro e w15 ⟨rfl, _, hb, hk⟩; have n0_ := Aside0.mk (Kd.R_mono (ok' := (fun k_ => (P0_ k_ ∨ w.heap.size ≤ k_))) (Kd.R_keptB HO.out hk (fun _ _ h_ => h_)) (fun _ h_ => h_.1)); have n1_ := Aside0.mk hb; have n2_ := Aside0.mk (HK.out.then_ hk (fun _ h_ => h_.elim)); clear HO HB HK hb hk hx2; have HO := n0_; have HB := n1_; have HK := n2_; clear n0_ n1_ n2_))
        go_roundg k1
        case measure => have := HK1.out; omega
        case rel => exact ⟨x0.set n (⟨x1, wrap64 (x1 + 1), []⟩ : S95), wrap64 (wrap64 (x1 + 1) + 1), n + 1, (by first | rfl | (simp; done) | (simp [*]; done)), (by first | rfl | (simp; done) | (simp [*]; done)), ⟨by have := H'.out; rw [hn63] at this; exact this⟩, ⟨by have := HK1.out; omega⟩, HO, HK, HB⟩
      · rw [if_neg c3] at H
        simp only [Option.some.injEq, Prod.mk.injEq] at H
        obtain ⟨rfl, rfl⟩ := H
        have c3b0 : decide ((n : Int) < (x0.length : Int)) = false := decide_eq_false c3
        obtain ⟨Ao, co, eo⟩ := Kd.R_slice HO.out
        subst eo
        go_wp2
        go_ret
        exact ⟨rfl, HO.out, HB.out, HK.out⟩
set_option maxHeartbeats 4000000 in
set_option maxRecDepth 100000 in
theorem laws_FnExactFlatSteps.callsn (A0 : Option Addr) (c0 : Nat) (l0 : List S80) (w : World) (hr0 : Kd.C k80 w A0 l0.length l0) (hc0 : l0.length ≤ c0) (r : Int) (a1 : laws_szFlatS.f l0 1048576 = some r) (a1' : r < 0) :
    Calls Try.prog 5 #[.slice A0 l0.length c0] w fun e w' => e = .returned (.bool true) ∧ Below w.heap.size w w' := by
  have HR0 := Aside0.mk hr0
  have HC0 := Aside0.mk hc0
  have H1 := Aside0.mk a1
  have n1 : decide (r < 0) = true := decide_eq_true a1'
  clear hr0 hc0 a1 a1'
  go_enter Try.func5, Try.ntmps5
  go_wp2_with fail
  refine (laws_szFlatS.calls _ _ l0 1048576 r _ HR0.out HC0.out H1.out).mono ?_
  rintro e w1 ⟨rfl, ⟨nd, rfl⟩⟩
  go_wp2
  go_ret
  exact ⟨rfl, pw_below_drewN (Below.refl w.heap.size w) nd⟩
set_option maxHeartbeats 8000000 in
set_option maxRecDepth 100000 in
theorem laws_FnExactFlatSteps.calls0 (k : Nat) (A0 : Option Addr) (c0 : Nat) (l0 : List S80) (w : World) (hr0 : Kd.C k80 w A0 l0.length l0) (hc0 : l0.length ≤ c0)
    (r : Int) (x x' : List S77) (ws gs gs' : List S95) (t : Bool) (km m : Int)
    (a1 : laws_szFlatS.f l0 1048576 = some r) (a1' : ¬ r < 0) (a2 : laws_toFlatS.f k l0 = some x) (a3 : spec_FlatSteps.f k x = some (ws, t))
    (a4 : impl_localFlat.f k x = some t) (a4' : t = true → x.length ≤ 60 ∧ ∀ y ∈ x, 1 ≤ y.f0 ∧ y.f0 ≤ 6) (a4g : gs = if t = true then stepsZ x else [])
    (a5 : laws_eqStepS.f k gs ws = some true) (a6 : laws_eqFlatS.f k x x = some true) (a7 : laws_markFlatS.f k x 1 = some (km, x')) (a7' : ¬ km < 0)
    (a8 : markZ.l0 k gs 1 0 = some (m, gs')) (a9 : laws_heldStepS.f k gs' 1 = some m) (a9' : ¬ m < 0) :
    Calls Try.prog 5 #[.slice A0 l0.length c0] w fun e w' => e = .returned (.bool true) ∧ Below w.heap.size w w' := by
  have HR0 := Aside0.mk hr0
  have HC0 := Aside0.mk hc0
  have H2 := Aside0.mk a2
  have H3 := Aside0.mk a3
  have H4 := Aside0.mk a4
  have H4' := Aside0.mk a4'
  have H4g := Aside0.mk a4g
  have H5 := Aside0.mk a5
  have H6 := Aside0.mk a6
  have H7 := Aside0.mk a7
  have H8 := Aside0.mk a8
  have H9 := Aside0.mk a9
  have H1 := Aside0.mk a1
  have n1 : decide (r < 0) = false := decide_eq_false a1'
  have n7 : decide (km < 0) = false := decide_eq_false a7'
  have n9 : decide (m < 0) = false := decide_eq_false a9'
  have HB := Aside0.mk (Below.refl w.heap.size w)
  clear hr0 hc0 a1 a1' a2 a3 a4 a4' a4g a5 a6 a7 a7' a8 a9 a9'
  go_enter Try.func5, Try.ntmps5
  go_wp2_with fail
  refine (laws_szFlatS.calls _ _ l0 1048576 r _ HR0.out HC0.out H1.out).mono ?_
  rintro e w1 ⟨rfl, ⟨nd, rfl⟩⟩
  have HBn := Aside0.mk (pw_below_drewN (Below.refl w.heap.size w) nd)
  clear HB
  have HB := HBn
  clear HBn
  go_wp2_with fail
  refine (laws_toFlatS.calls k _ _ l0 x _ (Kd.C_below HR0.out HB.out) HC0.out H2.out).mono ?_
  rintro e w1 ⟨v1, rfl, ho, hb⟩
  have HT := Aside0.mk ho
  have n_HB := Aside0.mk (below_step HB.out hb)
  clear HB ho hb
  have HB := n_HB
  clear n_HB
  obtain ⟨A1, c1, e1⟩ := Kd.R_slice HT.out
  subst e1
  go_wp2_with fail
  refine (spec_FlatSteps.calls k _ _ x ws t _ (Kd.R_reads' HT.out).2.2 (Kd.R_reads' HT.out).2.1 H3.out).mono ?_
  rintro e w2 ⟨vw, rfl, ho, hb⟩
  have HW := Aside0.mk (Kd.N_mono (ok' := fun k_ => k_ < w2.heap.size) (Kd.N_bound (Kd.N_lower ho (below_size HB.out))) (fun _ h_ => h_.2))
  have n_HB := Aside0.mk (below_step HB.out hb)
  clear HB ho hb HT
  have HB := n_HB
  clear n_HB
  obtain ⟨Aw, cw, ew⟩ := Kd.N_slice HW.out
  subst ew
  go_wp2_with fail
  refine (laws_toFlatS.calls k _ _ l0 x _ (Kd.C_below HR0.out HB.out) HC0.out H2.out).mono ?_
  rintro e w3 ⟨vx, rfl, ho, hb⟩
  have HX := Aside0.mk (Kd.R_lower (Kd.R_mono (ok' := fun k_ => w2.heap.size ≤ k_ ∧ k_ < w3.heap.size) (Kd.R_bound ho) (fun _ h_ => ⟨h_.2.1, h_.2.2.1⟩)) (below_size HB.out))
  have S23 := Aside0.mk hb.size
  have n_HB := Aside0.mk (below_step HB.out hb)
  have n_HW := Aside0.mk (Kd.N_below HW.out hb)
  clear HB HW ho hb
  have HB := n_HB
  have HW := n_HW
  clear n_HB n_HW
  obtain ⟨Ax, cx, ex⟩ := Kd.R_slice HX.out
  subst ex
  go_wp2_with fail
  refine (impl_FlatSteps.calls0 k _ _ x t _ (Kd.R_reads' HX.out).2.2 (Kd.R_reads' HX.out).2.1 H4.out H4'.out).mono ?_
  rintro e w4 ⟨vg, rfl, ho, hb⟩
  rw [← H4g.out] at ho
  have HG := Aside0.mk (Kd.R_lower (Kd.R_mono (ok' := fun k_ => w3.heap.size ≤ k_) (Kd.R_bound ho) (fun _ h_ => h_.2.1)) (below_size HB.out))
  have n_HB := Aside0.mk (below_step HB.out hb)
  have n_HW := Aside0.mk (Kd.N_below HW.out hb)
  have n_HX := Aside0.mk (Kd.R_below HX.out hb)
  clear HB HW HX ho hb
  have HB := n_HB
  have HW := n_HW
  have HX := n_HX
  clear n_HB n_HW n_HX
  obtain ⟨Ag, cg, eg⟩ := Kd.R_slice HG.out
  subst eg
  go_wp2_with fail
  refine (laws_eqStepS.calls k _ _ gs _ _ ws true _ (kZ95_C (Kd.R_reads' HG.out).2.2) (Kd.R_reads' HG.out).2.1 (Kd.N_reads' HW.out).2.2 (Kd.N_reads' HW.out).2.1 H5.out).mono ?_
  rintro e w5 ⟨rfl, hb⟩
  have n_HB := Aside0.mk (below_step HB.out hb)
  have n_HW := Aside0.mk (Kd.N_below HW.out hb)
  have n_HX := Aside0.mk (Kd.R_below HX.out hb)
  have n_HG := Aside0.mk (Kd.R_below HG.out hb)
  clear HB HW HX HG hb
  have HB := n_HB
  have HW := n_HW
  have HX := n_HX
  have HG := n_HG
  clear n_HB n_HW n_HX n_HG
  go_wp2_with fail
  refine (laws_toFlatS.calls k _ _ l0 x _ (Kd.C_below HR0.out HB.out) HC0.out H2.out).mono ?_
  rintro e w6 ⟨vt, rfl, ho, hb⟩
  have HT := Aside0.mk ho
  have n_HB := Aside0.mk (below_step HB.out hb)
  have n_HW := Aside0.mk (Kd.N_below HW.out hb)
  have n_HX := Aside0.mk (Kd.R_below HX.out hb)
  have n_HG := Aside0.mk (Kd.R_below HG.out hb)
  clear HB HW HX HG ho hb
  have HB := n_HB
  have HW := n_HW
  have HX := n_HX
  have HG := n_HG
  clear n_HB n_HW n_HX n_HG
  obtain ⟨At, ct, et⟩ := Kd.R_slice HT.out
  subst et
  go_wp2_with fail
  refine (laws_eqFlatS.calls k _ _ x _ _ x true _ (Kd.R_reads' HX.out).2.2 (Kd.R_reads' HX.out).2.1 (Kd.R_reads' HT.out).2.2 (Kd.R_reads' HT.out).2.1 H6.out).mono ?_
  rintro e w7 ⟨rfl, hb⟩
  have n_HB := Aside0.mk (below_step HB.out hb)
  have n_HW := Aside0.mk (Kd.N_below HW.out hb)
  have n_HX := Aside0.mk (Kd.R_below HX.out hb)
  have n_HG := Aside0.mk (Kd.R_below HG.out hb)
  clear HB HW HX HG hb HT
  have HB := n_HB
  have HW := n_HW
  have HX := n_HX
  have HG := n_HG
  clear n_HB n_HW n_HX n_HG
  go_wp2_with fail
  refine (laws_markFlatS.calls k (fun k_ => w2.heap.size ≤ k_ ∧ k_ < w3.heap.size) _ x 1 km x' w _ HB.out HX.out H7.out).mono ?_
  rintro e w8 ⟨rfl, hx8, hb, hk⟩
  have n_HW := Aside0.mk (Kd.N_mono (ok' := fun k_ => k_ < w2.heap.size) (Kd.N_keptB HW.out hk (fun k_ h_ h2_ => by omega)) (fun _ h_ => h_.1))
  have n_HG := Aside0.mk (Kd.R_mono (ok' := fun k_ => w3.heap.size ≤ k_) (Kd.R_keptB HG.out hk (fun k_ h_ h2_ => by omega)) (fun _ h_ => h_.1))
  have n_HB := Aside0.mk hb
  clear HB HW HG HX hx8 hb hk
  have HB := n_HB
  have HW := n_HW
  have HG := n_HG
  clear n_HB n_HW n_HG
  go_wp2_with fail
  refine (laws_eqStepS.calls k _ _ gs _ _ ws true _ (kZ95_C (Kd.R_reads' HG.out).2.2) (Kd.R_reads' HG.out).2.1 (Kd.N_reads' HW.out).2.2 (Kd.N_reads' HW.out).2.1 H5.out).mono ?_
  rintro e w9 ⟨rfl, hb⟩
  have n_HB := Aside0.mk (below_step HB.out hb)
  have n_HW := Aside0.mk (Kd.N_below HW.out hb)
  have n_HG := Aside0.mk (Kd.R_below HG.out hb)
  clear HB HW HG hb
  have HB := n_HB
  have HW := n_HW
  have HG := n_HG
  clear n_HB n_HW n_HG
  go_wp2_with fail
  refine (laws_markStepS.calls0 k (fun k_ => w3.heap.size ≤ k_) _ gs 1 m gs' w _ HB.out HG.out H8.out).mono ?_
  rintro e w10 ⟨rfl, hg10, hb, hk⟩
  have n_HW := Aside0.mk (Kd.N_mono (ok' := fun k_ => k_ < w2.heap.size) (Kd.N_keptB HW.out hk (fun k_ h_ h2_ => by have := S23.out; omega)) (fun _ h_ => h_.1))
  have n_HG := Aside0.mk (Kd.R_mono (ok' := fun _ => True) hg10 (fun _ _ => trivial))
  have n_HB := Aside0.mk hb
  clear HB HW HG hg10 hb hk
  have HB := n_HB
  have HW := n_HW
  have HG := n_HG
  clear n_HB n_HW n_HG
  have e10 := Aside0.mk (Kd.R_reads' HG.out).1
  go_wp2_with fail
  have hcall := laws_heldStepS.calls k Ag cg gs' 1 m w10 (kZ95_C (Kd.R_reads' HG.out).2.2) (by rw [← e10.out]; exact (Kd.R_reads' HG.out).2.1) H9.out
  rw [← e10.out] at hcall
  refine hcall.mono ?_
  clear hcall
  rintro e w11 ⟨rfl, ⟨nd11, rfl⟩⟩
  have hb := pw_below_drewN (Below.refl w10.heap.size w10) nd11
  have n_HB := Aside0.mk (below_step HB.out hb)
  have n_HW := Aside0.mk (Kd.N_below HW.out hb)
  have n_HG := Aside0.mk (Kd.R_below HG.out hb)
  clear HB HW HG hb
  have HB := n_HB
  have HW := n_HW
  have HG := n_HG
  clear n_HB n_HW n_HG
  generalize w10.drewN nd11 = w11 at HB HW HG ⊢
  go_wp2_with fail
  refine (laws_toFlatS.calls k _ _ l0 x _ (Kd.C_below HR0.out HB.out) HC0.out H2.out).mono ?_
  rintro e w12 ⟨vh, rfl, ho, hb⟩
  have HT := Aside0.mk ho
  have n_HB := Aside0.mk (below_step HB.out hb)
  have n_HW := Aside0.mk (Kd.N_below HW.out hb)
  have n_HG := Aside0.mk (Kd.R_below HG.out hb)
  clear HB HW HG ho hb
  have HB := n_HB
  have HW := n_HW
  have HG := n_HG
  clear n_HB n_HW n_HG
  obtain ⟨Ah, ch, eh⟩ := Kd.R_slice HT.out
  subst eh
  go_wp2_with fail
  refine (impl_FlatSteps.calls0 k _ _ x t _ (Kd.R_reads' HT.out).2.2 (Kd.R_reads' HT.out).2.1 H4.out H4'.out).mono ?_
  rintro e w13 ⟨vs, rfl, ho, hb⟩
  rw [← H4g.out] at ho
  have HS := Aside0.mk ho
  have n_HB := Aside0.mk (below_step HB.out hb)
  have n_HW := Aside0.mk (Kd.N_below HW.out hb)
  have n_HG := Aside0.mk (Kd.R_below HG.out hb)
  clear HB HW HG ho hb HT
  have HB := n_HB
  have HW := n_HW
  have HG := n_HG
  clear n_HB n_HW n_HG
  obtain ⟨As, cs, es⟩ := Kd.R_slice HS.out
  subst es
  go_wp2_with fail
  refine (laws_eqStepS.calls k _ _ gs _ _ ws true _ (kZ95_C (Kd.R_reads' HS.out).2.2) (Kd.R_reads' HS.out).2.1 (Kd.N_reads' HW.out).2.2 (Kd.N_reads' HW.out).2.1 H5.out).mono ?_
  rintro e w14 ⟨rfl, hb⟩
  have n_HB := Aside0.mk (below_step HB.out hb)
  have n_HW := Aside0.mk (Kd.N_below HW.out hb)
  have n_HG := Aside0.mk (Kd.R_below HG.out hb)
  clear HB HW HG hb HS
  have HB := n_HB
  have HW := n_HW
  have HG := n_HG
  clear n_HB n_HW n_HG
  go_wp2_with fail
  have hcall := laws_heldStepS.calls k Ag cg gs' 1 m w14 (kZ95_C (Kd.R_reads' HG.out).2.2) (by rw [← e10.out]; exact (Kd.R_reads' HG.out).2.1) H9.out
  rw [← e10.out] at hcall
  refine hcall.mono ?_
  clear hcall
  rintro e w15 ⟨rfl, ⟨nd15, rfl⟩⟩
  have hb := pw_below_drewN (Below.refl w14.heap.size w14) nd15
  have n_HB := Aside0.mk (below_step HB.out hb)
  have n_HW := Aside0.mk (Kd.N_below HW.out hb)
  have n_HG := Aside0.mk (Kd.R_below HG.out hb)
  clear HB HW HG hb
  have HB := n_HB
  have HW := n_HW
  have HG := n_HG
  clear n_HB n_HW n_HG
  generalize w14.drewN nd15 = w15 at HB ⊢
  go_wp2
  go_ret
  exact ⟨rfl, HB.out⟩

end Go.Proofs.Ytipikejhchpfnaa.FS
