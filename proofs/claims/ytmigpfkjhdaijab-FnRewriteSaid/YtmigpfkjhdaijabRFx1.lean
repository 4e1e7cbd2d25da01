-- PRINTED by print.py (a twelfth state) out of the translation. Not trusted: Lean checks it.
import Derived.Test.YtmigpfkjhdaijabRFx0
namespace Go.Proofs.Ytmigpfkjhdaijab.RF
open Go.RowKit Go.Proofs.YtmigpfkjhdaijabW.PrintWords Go.Proofs.YtmigpfkjhdaijabW.PrintLast Go.Proofs.YtmigpfkjhdaijabW.PrintMore
attribute [local go_sem] max2_int min2_int max_two min_two max_three min_three max_four min_four   -- for this text's walks alone
set_option linter.unusedVariables false
set_option linter.unusedSimpArgs false

/-- The place of the first element of which p says yes, from place i on; -1 where it says no of all. -/
def idxM {α : Type} (p : α → Option Bool) : List α → Int → Option Int
  | [], _ => some (-1)
  | x :: xs, i => (p x).bind fun b => if b = true then some i else idxM p xs (i + 1)
/-- Does p say yes of some element? -/
def anyM {α : Type} (p : α → Option Bool) (l : List α) : Option Bool := (idxM p l 0).bind fun i => some (decide (0 ≤ i))
theorem LeO.idxM {α : Type} {p q : α → Option Bool} (h : ∀ x, LeO (p x) (q x)) : ∀ (l : List α) (i : Int), LeO (idxM p l i) (idxM q l i)
  | [], _ => LeO.refl _
  | x :: xs, i => LeO.bind (h x) fun b => by
    split
    · exact LeO.refl _
    · exact LeO.idxM h xs (i + 1)
theorem LeO.anyM {α : Type} {p q : α → Option Bool} (h : ∀ x, LeO (p x) (q x)) (l : List α) : LeO (anyM p l) (anyM q l) := LeO.bind (LeO.idxM h l 0) fun _ => LeO.refl _
theorem idxM_drop {α : Type} {p : α → Option Bool} {l : List α} {k : Nat} {i r : Int} (z : α) (hk : k < l.length) (h : idxM p (l.drop k) i = some r) :
    ∃ b, p (l.getD k z) = some b ∧ (b = true → r = i) ∧ (b = false → idxM p (l.drop (k + 1)) (i + 1) = some r) := by
  rw [List.drop_eq_getElem_cons hk] at h
  obtain ⟨b, hb, hr⟩ := Option.bind_eq_some_iff.mp h
  refine ⟨b, by simpa [List.getD_eq_getElem?_getD, List.getElem?_eq_getElem hk] using hb, fun e => ?_, fun e => ?_⟩
  · rw [if_pos e] at hr
    exact (Option.some.inj hr).symm
  · rw [if_neg (by simp [e])] at hr
    exact hr
theorem idxM_end {α : Type} {p : α → Option Bool} {l : List α} {i r : Int} (h : idxM p (l.drop l.length) i = some r) : r = -1 := by
  rw [List.drop_length] at h
  exact (Option.some.inj h).symm

/-! ### impl_Rule_62: function 62 -/
set_option maxHeartbeats 4000000 in
set_option maxRecDepth 100000 in
theorem idxFunc_T59 (p : S59 → Option Bool) (g : Nat) (lb : Array Value) (A0 : Option Addr) (c0 : Nat) (l0 : List (S59)) (r : Int) (w : World)
    (eg : ∀ args w, (callFunc g args).run Try.prog w = .ok (.enter g args) w)
    (hp : ∀ (W : World) (x : S59) (b : Bool), Below w.heap.size w W → p x = some b → Calls Try.prog g (#[.agg #[.string x.f0, .string x.f1]] ++ lb) W fun e w' => e = .returned (.bool b) ∧ Below W.heap.size W w')
    (hr0 : Kd.C k59 w A0 l0.length l0) (hc0 : l0.length ≤ c0) (h : idxM p l0 0 = some r) :
    Calls Try.prog 62 #[.slice A0 l0.length c0, .func (.func g) #[] lb] w fun e w' => e = .returned (.int .i64 r) ∧ Below w.heap.size w w' := by
  have hu := Try.underlying59
  have hm : l0.length ≤ 9223372036854775807 := hr0.2.1
  have HR0 := Aside0.mk hr0
  have HP := Aside0.mk hp
  have H0 := Aside0.mk h
  clear hr0 hp h
  go_enter Try.func62, Try.ntmps62
  go_wp2
  go_loopg [5, 8] l0.length (fun gg _ s8 wr => ∃ kk : Nat, kk ≤ l0.length ∧ l0.length - kk ≤ gg ∧ s8 = .int .i64 kk ∧ Aside0 (idxM p (l0.drop kk) kk = some r) ∧ Aside0 (Below w.heap.size w wr))
  case atStart => exact ⟨0, Nat.zero_le _, by omega, rfl, H0, ⟨Below.refl _ w⟩⟩
  case round =>
    obtain ⟨kk, hkk, hg, rfl, HI, HB⟩ := hrel
    by_cases hlt : kk < l0.length
    · have hltz : (kk : Int) < (l0.length : Int) := by omega
      obtain ⟨b, hb, h1, h0⟩ := idxM_drop z59 hlt HI.out
      have hcall := fun W hW => HP.out W (rd_T59 l0 kk) b hW (by simpa [rd_T59] using hb)
      obtain ⟨ad, e, hx0, hx1⟩ := at_T59 HR0.out kk (by omega) hltz
      cases e
      simp only [Int.toNat_natCast] at hx0 hx1
      replace hx0 := (HB.out.cell (World.block_lt_of_cell? w _ hx0)).trans hx0
      replace hx1 := (HB.out.cell (World.block_lt_of_cell? w _ hx1)).trans hx1
      have HC := Aside0.mk hcall
      clear hcall hb H0 HI HP
      cases b with
      | true =>
        obtain rfl := h1 rfl
        clear h1 h0
        go_wp2_with (go_at_fn g; refine (HC.out _ HB.out).mono ?_; rintro e w' ⟨rfl, hb'⟩)
        go_ret
        exact ⟨rfl, below_step HB.out hb'⟩
      | false =>
        have H2 := Aside0.mk (h0 rfl)
        clear h1 h0
        go_wp2_with (go_at_fn g; refine (HC.out _ HB.out).mono ?_; rintro e w' ⟨rfl, hb'⟩)
        go_roundg (l0.length - (kk + 1))
        case measure => omega
        case rel => exact ⟨kk + 1, by omega, by omega, by go_num, ⟨by have := H2.out; simpa using this⟩, ⟨below_step HB.out hb'⟩⟩
    · have hltz : ¬ (kk : Int) < (l0.length : Int) := by omega
      obtain rfl : r = -1 := by
        have h_ := HI.out
        rw [show kk = l0.length by omega] at h_
        exact idxM_end h_
      clear H0 HI
      go_wp2
      go_ret
      exact ⟨rfl, HB.out⟩

/-! ### impl_Rule_39: function 39 -/
set_option maxHeartbeats 4000000 in
set_option maxRecDepth 100000 in
theorem containsFunc_T59 (p : S59 → Option Bool) (g : Nat) (lb : Array Value) (A0 : Option Addr) (c0 : Nat) (l0 : List (S59)) (r : Bool) (w : World)
    (eg : ∀ args w, (callFunc g args).run Try.prog w = .ok (.enter g args) w)
    (hp : ∀ (W : World) (x : S59) (b : Bool), Below w.heap.size w W → p x = some b → Calls Try.prog g (#[.agg #[.string x.f0, .string x.f1]] ++ lb) W fun e w' => e = .returned (.bool b) ∧ Below W.heap.size W w')
    (hr0 : Kd.C k59 w A0 l0.length l0) (hc0 : l0.length ≤ c0) (h : anyM p l0 = some r) :
    Calls Try.prog 39 #[.slice A0 l0.length c0, .func (.func g) #[] lb] w fun e w' => e = .returned (.bool r) ∧ Below w.heap.size w w' := by
  obtain ⟨i, hi, hr⟩ := Option.bind_eq_some_iff.mp h
  obtain rfl := Option.some.inj hr
  have HC := Aside0.mk (idxFunc_T59 p g lb A0 c0 l0 i w eg hp hr0 hc0 hi)
  clear hp hr0 h hr hi
  go_enter Try.func39, Try.ntmps39
  go_wp2_with (go_at_call 62; refine HC.out.mono ?_; rintro e w' ⟨rfl, hb'⟩)
  go_ret
  exact ⟨rfl, hb'⟩

/-! ### impl_ShortLess: function 14 -/
def impl_ShortLess.f (a0 : ByteArray) (a1 : ByteArray) : Option (Bool) := if (a0.size : Int) = (a1.size : Int) then (some (Op.bytesLess a0.toList a1.toList)) else (some (decide ((a0.size : Int) < (a1.size : Int))))
set_option maxHeartbeats 8000000 in
set_option maxRecDepth 100000 in
theorem impl_ShortLess.calls (a0 : ByteArray) (a1 : ByteArray) (r : Bool) (w : World) (h : impl_ShortLess.f a0 a1 = some r) :
    Calls Try.prog 14 #[.string a0, .string a1] w fun e w' => e = .returned (.bool r) ∧ Drawn0 w w' := by
  have H : (if (a0.size : Int) = (a1.size : Int) then (some (Op.bytesLess a0.toList a1.toList)) else (some (decide ((a0.size : Int) < (a1.size : Int))))) = some r := h
  clear h
  by_cases c3 : (a0.size : Int) = (a1.size : Int)
  · rw [if_pos c3] at H
    have c3b0 : ((a0.size : Int) == (a1.size : Int)) = true := beq_iff_eq.mpr c3
    have c3b1 : ((a0.size : Int) != (a1.size : Int)) = false := bne_eq_false_iff_eq.mpr c3
    have c3b2 : (a0.size == a1.size) = true := by first | simpa using c3 | (simp at c3 ⊢; omega)
    clear c3
    obtain rfl := Option.some.inj H
    go_enter Try.func14, Try.ntmps14
    go_wp2
    go_ret
    exact ⟨by first | rfl | (simp; done) | (simp [*]; done), by repeat (first | exact Drawn0.refl _ | apply Drawn0.step)⟩
  · rw [if_neg c3] at H
    have c3b0 : ((a0.size : Int) == (a1.size : Int)) = false := beq_eq_false_iff_ne.mpr c3
    have c3b1 : ((a0.size : Int) != (a1.size : Int)) = true := bne_iff_ne.mpr c3
    have c3b2 : (a0.size == a1.size) = false := by first | simpa using c3 | (simp at c3 ⊢; omega)
    obtain rfl := Option.some.inj H
    go_enter Try.func14, Try.ntmps14
    go_wp2
    go_ret
    exact ⟨by first | rfl | (simp; done) | (simp [*]; done), by repeat (first | exact Drawn0.refl _ | apply Drawn0.step)⟩

/-! ### impl_lettersOK: function 41 -/
def impl_lettersOK.l0 : Nat → ByteArray → Int → Int → Int → Option (Bool)
  | 0, _, _, _, _ => none
  | k + 1, x0, x1, x7, x8 => if x8 < x7 then (if 0 ≤ x8 then (if x8 < (x0.size : Int) then (if (bt x0 x8) < 97 then (some false) else (if (bt x0 x8) > 100 then (some false) else (impl_lettersOK.l0 k x0 x1 x7 (wrap64 (x8 + 1))))) else (none)) else (none)) else (some (decide ((x0.size : Int) ≤ x1)))
def impl_lettersOK.f (k : Nat) (a0 : ByteArray) (a1 : Int) : Option (Bool) := impl_lettersOK.l0 k a0 a1 (a0.size : Int) 0
theorem impl_lettersOK.mono_l : ∀ k, (∀ y0 y1 y2 y3, LeO (impl_lettersOK.l0 k y0 y1 y2 y3) (impl_lettersOK.l0 (k + 1) y0 y1 y2 y3))
  | 0 => fun _ _ _ _ r h => by simp [impl_lettersOK.l0] at h
  | k + 1 => by
    have ih0 := impl_lettersOK.mono_l k
    · intro y0 y1 y2 y3
      unfold impl_lettersOK.l0
      repeat' first
      | (with_reducible exact ih0 _ _ _ _)
      | (with_reducible exact LeO.refl _)
      | (with_reducible exact LeO.none _)
      | (with_reducible refine LeO.ite ?_ ?_)
      | (with_reducible refine LeO.bind ?_ (fun _ => ?_))
      | exact ih0 _ _ _ _
      | exact LeO.none _
      | refine LeO.ite ?_ ?_
      | refine LeO.bind ?_ (fun _ => ?_)
theorem impl_lettersOK.mono : ∀ a0 a1 k, LeO (impl_lettersOK.f k a0 a1) (impl_lettersOK.f (k + 1) a0 a1) := by
  intro a0 a1 k
  have ih0 := impl_lettersOK.mono_l k
  unfold impl_lettersOK.f
  repeat' first
      | (with_reducible exact ih0 _ _ _ _)
      | (with_reducible exact LeO.refl _)
      | (with_reducible exact LeO.none _)
      | (with_reducible refine LeO.ite ?_ ?_)
      | (with_reducible refine LeO.bind ?_ (fun _ => ?_))
      | exact ih0 _ _ _ _
      | exact LeO.none _
      | refine LeO.ite ?_ ?_
      | refine LeO.bind ?_ (fun _ => ?_)
set_option maxHeartbeats 8000000 in
set_option maxRecDepth 100000 in
theorem impl_lettersOK.calls (k : Nat) (a0 : ByteArray) (a1 : Int) (r : Bool) (w : World) (h : impl_lettersOK.f k a0 a1 = some r) :
    Calls Try.prog 41 #[.string a0, .int .i64 a1] w fun e w' => e = .returned (.bool r) ∧ Drawn0 w w' := by
  have H : (impl_lettersOK.l0 k a0 a1 (a0.size : Int) 0) = some r := h
  clear h
  have H' := Aside0.mk H
  clear H
  go_enter Try.func41, Try.ntmps41
  go_wp2
  go_loopg [8] k (fun kq v8 w' => ∃ (x8_1 : Int), v8 = .int .i64 x8_1 ∧ Aside0 (impl_lettersOK.l0 kq a0 a1 (a0.size : Int) x8_1 = some r) ∧ Aside0 (kq ≤ k) ∧ Drawn0 w w')
  case atStart => exact ⟨(0), (by first | rfl | (simp; done) | (simp [*]; done)), H', ⟨Nat.le_refl _⟩, by repeat (first | exact Drawn0.refl _ | apply Drawn0.step)⟩
  case round =>
    clear H'
    try clear p2
    obtain ⟨x8_1, rfl, HA, HK1, ⟨m1, rfl⟩⟩ := hrel
    cases gk with
    | zero => exact absurd HA.out (by simp [impl_lettersOK.l0])
    | succ k1 =>
      have H := HA.out
      clear HA
      simp only [impl_lettersOK.l0] at H
      by_cases c3 : x8_1 < (a0.size : Int)
      · rw [if_pos c3] at H
        have c3b0 : decide (x8_1 < (a0.size : Int)) = true := decide_eq_true c3
        clear c3
        by_cases c4 : 0 ≤ x8_1
        · rw [if_pos c4] at H
          have c4b0 : decide (0 ≤ x8_1) = true := decide_eq_true c4
          clear c4
          by_cases c5 : x8_1 < (a0.size : Int)
          · rw [if_pos c5] at H
            have c5b0 : decide (x8_1 < (a0.size : Int)) = true := decide_eq_true c5
            clear c5
            by_cases c7 : (bt a0 x8_1) < 97
            · rw [if_pos c7] at H
              have c7b0 : decide ((bt a0 x8_1) < 97) = true := decide_eq_true c7
              clear c7
              obtain rfl := Option.some.inj H
              have p6 : 0 ≤ (x8_1 : Int) := of_decide_eq_true (by first | (with_reducible assumption) | assumption)
              have q6 : x8_1 < (a0.size : Int) := of_decide_eq_true (by first | (with_reducible assumption) | assumption)
              have hx6 := bt_at a0 x8_1
              replace p6 := eq_true p6
              replace q6 := eq_true q6
              go_wp2
              go_ret
              exact ⟨by first | rfl | (simp; done) | (simp [*]; done), by repeat (first | exact Drawn0.refl _ | apply Drawn0.step)⟩
            · rw [if_neg c7] at H
              have c7b0 : decide ((bt a0 x8_1) < 97) = false := decide_eq_false c7
              clear c7
              by_cases c9 : (bt a0 x8_1) > 100
              · rw [if_pos c9] at H
                have c9b0 : decide (100 < (bt a0 x8_1)) = true := decide_eq_true c9
                clear c9
                obtain rfl := Option.some.inj H
                have p6 : 0 ≤ (x8_1 : Int) := of_decide_eq_true (by first | (with_reducible assumption) | assumption)
                have q6 : x8_1 < (a0.size : Int) := of_decide_eq_true (by first | (with_reducible assumption) | assumption)
                have hx6 := bt_at a0 x8_1
                replace p6 := eq_true p6
                replace q6 := eq_true q6
                have p8 : 0 ≤ (x8_1 : Int) := of_decide_eq_true (by first | (with_reducible assumption) | assumption)
                have q8 : x8_1 < (a0.size : Int) := of_decide_eq_true (by first | (with_reducible assumption) | assumption)
                have hx8 := bt_at a0 x8_1
                replace p8 := eq_true p8
                replace q8 := eq_true q8
                go_wp2
                go_ret
                exact ⟨by first | rfl | (simp; done) | (simp [*]; done), by repeat (first | exact Drawn0.refl _ | apply Drawn0.step)⟩
              · rw [if_neg c9] at H
                have c9b0 : decide (100 < (bt a0 x8_1)) = false := decide_eq_false c9
                clear c9
                have H' := Aside0.mk H
                clear H
                have p6 : 0 ≤ (x8_1 : Int) := of_decide_eq_true (by first | (with_reducible assumption) | assumption)
                have q6 : x8_1 < (a0.size : Int) := of_decide_eq_true (by first | (with_reducible assumption) | assumption)
                have hx6 := bt_at a0 x8_1
                replace p6 := eq_true p6
                replace q6 := eq_true q6
                have p8 : 0 ≤ (x8_1 : Int) := of_decide_eq_true (by first | (with_reducible assumption) | assumption)
                have q8 : x8_1 < (a0.size : Int) := of_decide_eq_true (by first | (with_reducible assumption) | assumption)
                have hx8 := bt_at a0 x8_1
                replace p8 := eq_true p8
                replace q8 := eq_true q8
                go_wp2
                go_roundg k1
                case measure => have := HK1.out; omega
                case rel => exact ⟨(wrap64 (x8_1 + 1)), (by first | rfl | (simp; done) | (simp [*]; done)), H', ⟨by have := HK1.out; omega⟩, by repeat (first | exact Drawn0.refl _ | apply Drawn0.step)⟩
          · rw [if_neg c5] at H
            exact absurd H (by simp)
        · rw [if_neg c4] at H
          exact absurd H (by simp)
      · rw [if_neg c3] at H
        have c3b0 : decide (x8_1 < (a0.size : Int)) = false := decide_eq_false c3
        clear c3
        obtain rfl := Option.some.inj H
        go_wp2
        go_ret
        exact ⟨by first | rfl | (simp; done) | (simp [*]; done), by repeat (first | exact Drawn0.refl _ | apply Drawn0.step)⟩

/-! ### impl_GoodRules_1: function 40 -/
def impl_GoodRules_1.f (k : Nat) (a0_0 : ByteArray) (a0_1 : ByteArray) : Option (Bool) := if a0_0.toList = ([] : List UInt8) then (some true) else ((impl_lettersOK.f k a0_0 6).bind fun t102 => (if t102 = true then ((impl_lettersOK.f k a0_1 6).bind fun t103 => (if t103 = true then ((impl_ShortLess.f a0_1 a0_0).bind fun t104 => (some (!t104))) else (some true))) else (some true)))
theorem impl_GoodRules_1.mono : ∀ a0 a1 k, LeO (impl_GoodRules_1.f k a0 a1) (impl_GoodRules_1.f (k + 1) a0 a1) := by
  intro a0 a1 k
  unfold impl_GoodRules_1.f
  repeat' first
      | (with_reducible exact impl_lettersOK.mono _ _ _)
      | (with_reducible exact LeO.refl _)
      | (with_reducible exact LeO.none _)
      | (with_reducible refine LeO.ite ?_ ?_)
      | (with_reducible refine LeO.bind ?_ (fun _ => ?_))
      | exact impl_lettersOK.mono _ _ _
      | exact LeO.none _
      | refine LeO.ite ?_ ?_
      | refine LeO.bind ?_ (fun _ => ?_)
set_option maxHeartbeats 8000000 in
set_option maxRecDepth 100000 in
theorem impl_GoodRules_1.calls (k : Nat) (a0_0 : ByteArray) (a0_1 : ByteArray) (r : Bool) (w : World) (h : impl_GoodRules_1.f k a0_0 a0_1 = some r) :
    Calls Try.prog 40 #[.agg #[.string a0_0, .string a0_1]] w fun e w' => e = .returned (.bool r) ∧ Below w.heap.size w w' := by
  have hu59 := Try.underlying59
  have HB := Aside0.mk (Below.refl w.heap.size w)
  have H : (if a0_0.toList = ([] : List UInt8) then (some true) else ((impl_lettersOK.f k a0_0 6).bind fun t102 => (if t102 = true then ((impl_lettersOK.f k a0_1 6).bind fun t103 => (if t103 = true then ((impl_ShortLess.f a0_1 a0_0).bind fun t104 => (some (!t104))) else (some true))) else (some true)))) = some r := h
  clear h
  by_cases c2 : a0_0.toList = ([] : List UInt8)
  · rw [if_pos c2] at H
    have c2b0 : (a0_0.toList == ([] : List UInt8)) = true := beq_iff_eq.mpr c2
    have c2b1 : (a0_0.toList != ([] : List UInt8)) = false := bne_eq_false_iff_eq.mpr c2
    clear c2
    obtain rfl := Option.some.inj H
    go_enter Try.func40, Try.ntmps40
    go_wp2_with (first | ((with_reducible refine gate_dst (N := 1) rfl ?_); refine box_event ?hg (N := 1) ?hd (cs := #[.string a0_0, .string a0_1]) (t := 59) ?hr ?_; (case hd => rfl); (case hg => rfl); (case hr => first | (go_simp; done) | (go_simp; rfl)); intro gb101 hg w3 hbox hb; have n0_ := Aside0.mk (below_step (by repeat (first | (with_reducible first | exact HB.out | apply below_alloc | apply pw_below_drewN | apply below_drew1) | exact HB.out)) hb); have n1_ := Aside0.mk (hbox); have n2_ := Aside0.mk ((by rw [hg]; exact (below_size (by repeat (first | (with_reducible first | exact HB.out | apply below_alloc | apply pw_below_drewN | apply below_drew1) | exact HB.out))) : w.heap.size ≤ gb101)); have n3_ := Aside0.mk ((by rw [hg]; exact (below_size (by repeat (first | (with_reducible first | exact HB.out | apply below_alloc | apply pw_below_drewN | apply below_drew1) | exact HB.out))) : w.heap.size ≤ gb101)); clear HB; have HB := n0_; have BK101 := n1_; have GW101 := n2_; have GE101 := n3_; clear n0_ n1_ n2_ n3_; clear hb hbox hg; have hcz4_0 : w3.cell? ⟨gb101, 0, none⟩ = some (.string a0_0) := (blk_cell BK101.out 0).trans rfl; have hcz4_1 : w3.cell? ⟨gb101, 1, none⟩ = some (.string a0_1) := (blk_cell BK101.out 1).trans rfl; have hfz4_0 := blk_frozen BK101.out 0; have hfz4_1 := blk_frozen BK101.out 1))
    go_ret
    exact ⟨by first | rfl | (simp [errW_none, errW_some] <;> rfl) | (simp [*, errW_none, errW_some] <;> rfl), by repeat (first | (with_reducible first | exact HB.out | apply below_alloc | apply pw_below_drewN | apply below_drew1 | refine below_set ?_ GE101.out) | exact HB.out)⟩
  · rw [if_neg c2] at H
    have c2b0 : (a0_0.toList == ([] : List UInt8)) = false := beq_eq_false_iff_ne.mpr c2
    have c2b1 : (a0_0.toList != ([] : List UInt8)) = true := bne_iff_ne.mpr c2
    replace H := Option.bind_eq_some_iff.mp H
    obtain ⟨t102, A50, H⟩ := H
    replace H : (if t102 = true then ((impl_lettersOK.f k a0_1 6).bind fun t103 => (if t103 = true then ((impl_ShortLess.f a0_1 a0_0).bind fun t104 => (some (!t104))) else (some true))) else (some true)) = some r := H
    have A5 := Aside0.mk A50
    clear A50
    by_cases c6 : t102 = true
    · subst c6
      have H1 : ((impl_lettersOK.f k a0_1 6).bind fun t103 => (if t103 = true then ((impl_ShortLess.f a0_1 a0_0).bind fun t104 => (some (!t104))) else (some true))) = some r := by rw [if_pos rfl] at H; exact H
      clear H
      have H := H1
      clear H1
      replace H := Option.bind_eq_some_iff.mp H
      obtain ⟨t103, A70, H⟩ := H
      replace H : (if t103 = true then ((impl_ShortLess.f a0_1 a0_0).bind fun t104 => (some (!t104))) else (some true)) = some r := H
      have A7 := Aside0.mk A70
      clear A70
      by_cases c8 : t103 = true
      · subst c8
        have H1 : ((impl_ShortLess.f a0_1 a0_0).bind fun t104 => (some (!t104))) = some r := by rw [if_pos rfl] at H; exact H
        clear H
        have H := H1
        clear H1
        replace H := Option.bind_eq_some_iff.mp H
        obtain ⟨t104, A90, H⟩ := H
        replace H : (some (!t104)) = some r := H
        have A9 := Aside0.mk A90
        clear A90
        obtain rfl := Option.some.inj H
        go_enter Try.func40, Try.ntmps40
        go_wp2_with (first | ((with_reducible refine gate_dst (N := 1) rfl ?_); refine box_event ?hg (N := 1) ?hd (cs := #[.string a0_0, .string a0_1]) (t := 59) ?hr ?_; (case hd => rfl); (case hg => rfl); (case hr => first | (go_simp; done) | (go_simp; rfl)); intro gb101 hg w10 hbox hb; have n0_ := Aside0.mk (below_step (by repeat (first | (with_reducible first | exact HB.out | apply below_alloc | apply pw_below_drewN | apply below_drew1) | exact HB.out)) hb); have n1_ := Aside0.mk (hbox); have n2_ := Aside0.mk ((by rw [hg]; exact (below_size (by repeat (first | (with_reducible first | exact HB.out | apply below_alloc | apply pw_below_drewN | apply below_drew1) | exact HB.out))) : w.heap.size ≤ gb101)); have n3_ := Aside0.mk ((by rw [hg]; exact (below_size (by repeat (first | (with_reducible first | exact HB.out | apply below_alloc | apply pw_below_drewN | apply below_drew1) | exact HB.out))) : w.heap.size ≤ gb101)); clear HB; have HB := n0_; have BK101 := n1_; have GW101 := n2_; have GE101 := n3_; clear n0_ n1_ n2_ n3_; clear hb hbox hg; have hcz11_0 : w10.cell? ⟨gb101, 0, none⟩ = some (.string a0_0) := (blk_cell BK101.out 0).trans rfl; have hcz11_1 : w10.cell? ⟨gb101, 1, none⟩ = some (.string a0_1) := (blk_cell BK101.out 1).trans rfl; have hfz11_0 := blk_frozen BK101.out 0; have hfz11_1 := blk_frozen BK101.out 1) | (go_at_call 41; (with_reducible refine (impl_lettersOK.calls k a0_0 6 true _ A5.out).mono ?_); rintro e w' ⟨rfl, ⟨nd, rfl⟩⟩) | (go_at_call 41; (with_reducible refine (impl_lettersOK.calls k a0_1 6 true _ A7.out).mono ?_); rintro e w' ⟨rfl, ⟨nd, rfl⟩⟩) | (go_at_call 14; (with_reducible refine (impl_ShortLess.calls a0_1 a0_0 t104 _ A9.out).mono ?_); rintro e w' ⟨rfl, ⟨nd, rfl⟩⟩))
        go_ret
        exact ⟨by first | rfl | (simp [errW_none, errW_some] <;> rfl) | (simp [*, errW_none, errW_some] <;> rfl), by repeat (first | (with_reducible first | exact HB.out | apply below_alloc | apply pw_below_drewN | apply below_drew1 | refine below_set ?_ GE101.out) | exact HB.out)⟩
      · replace c8 := Bool.eq_false_iff.mpr c8
        subst c8
        have H1 : (some true) = some r := by rw [if_neg (show ¬ (false = true) by decide)] at H; exact H
        clear H
        have H := H1
        clear H1
        obtain rfl := Option.some.inj H
        go_enter Try.func40, Try.ntmps40
        go_wp2_with (first | ((with_reducible refine gate_dst (N := 1) rfl ?_); refine box_event ?hg (N := 1) ?hd (cs := #[.string a0_0, .string a0_1]) (t := 59) ?hr ?_; (case hd => rfl); (case hg => rfl); (case hr => first | (go_simp; done) | (go_simp; rfl)); intro gb101 hg w12 hbox hb; have n0_ := Aside0.mk (below_step (by repeat (first | (with_reducible first | exact HB.out | apply below_alloc | apply pw_below_drewN | apply below_drew1) | exact HB.out)) hb); have n1_ := Aside0.mk (hbox); have n2_ := Aside0.mk ((by rw [hg]; exact (below_size (by repeat (first | (with_reducible first | exact HB.out | apply below_alloc | apply pw_below_drewN | apply below_drew1) | exact HB.out))) : w.heap.size ≤ gb101)); have n3_ := Aside0.mk ((by rw [hg]; exact (below_size (by repeat (first | (with_reducible first | exact HB.out | apply below_alloc | apply pw_below_drewN | apply below_drew1) | exact HB.out))) : w.heap.size ≤ gb101)); clear HB; have HB := n0_; have BK101 := n1_; have GW101 := n2_; have GE101 := n3_; clear n0_ n1_ n2_ n3_; clear hb hbox hg; have hcz13_0 : w12.cell? ⟨gb101, 0, none⟩ = some (.string a0_0) := (blk_cell BK101.out 0).trans rfl; have hcz13_1 : w12.cell? ⟨gb101, 1, none⟩ = some (.string a0_1) := (blk_cell BK101.out 1).trans rfl; have hfz13_0 := blk_frozen BK101.out 0; have hfz13_1 := blk_frozen BK101.out 1) | (go_at_call 41; (with_reducible refine (impl_lettersOK.calls k a0_0 6 true _ A5.out).mono ?_); rintro e w' ⟨rfl, ⟨nd, rfl⟩⟩) | (go_at_call 41; (with_reducible refine (impl_lettersOK.calls k a0_1 6 false _ A7.out).mono ?_); rintro e w' ⟨rfl, ⟨nd, rfl⟩⟩))
        go_ret
        exact ⟨by first | rfl | (simp [errW_none, errW_some] <;> rfl) | (simp [*, errW_none, errW_some] <;> rfl), by repeat (first | (with_reducible first | exact HB.out | apply below_alloc | apply pw_below_drewN | apply below_drew1 | refine below_set ?_ GE101.out) | exact HB.out)⟩
    · replace c6 := Bool.eq_false_iff.mpr c6
      subst c6
      have H1 : (some true) = some r := by rw [if_neg (show ¬ (false = true) by decide)] at H; exact H
      clear H
      have H := H1
      clear H1
      obtain rfl := Option.some.inj H
      go_enter Try.func40, Try.ntmps40
      go_wp2_with (first | ((with_reducible refine gate_dst (N := 1) rfl ?_); refine box_event ?hg (N := 1) ?hd (cs := #[.string a0_0, .string a0_1]) (t := 59) ?hr ?_; (case hd => rfl); (case hg => rfl); (case hr => first | (go_simp; done) | (go_simp; rfl)); intro gb101 hg w14 hbox hb; have n0_ := Aside0.mk (below_step (by repeat (first | (with_reducible first | exact HB.out | apply below_alloc | apply pw_below_drewN | apply below_drew1) | exact HB.out)) hb); have n1_ := Aside0.mk (hbox); have n2_ := Aside0.mk ((by rw [hg]; exact (below_size (by repeat (first | (with_reducible first | exact HB.out | apply below_alloc | apply pw_below_drewN | apply below_drew1) | exact HB.out))) : w.heap.size ≤ gb101)); have n3_ := Aside0.mk ((by rw [hg]; exact (below_size (by repeat (first | (with_reducible first | exact HB.out | apply below_alloc | apply pw_below_drewN | apply below_drew1) | exact HB.out))) : w.heap.size ≤ gb101)); clear HB; have HB := n0_; have BK101 := n1_; have GW101 := n2_; have GE101 := n3_; clear n0_ n1_ n2_ n3_; clear hb hbox hg; have hcz15_0 : w14.cell? ⟨gb101, 0, none⟩ = some (.string a0_0) := (blk_cell BK101.out 0).trans rfl; have hcz15_1 : w14.cell? ⟨gb101, 1, none⟩ = some (.string a0_1) := (blk_cell BK101.out 1).trans rfl; have hfz15_0 := blk_frozen BK101.out 0; have hfz15_1 := blk_frozen BK101.out 1) | (go_at_call 41; (with_reducible refine (impl_lettersOK.calls k a0_0 6 false _ A5.out).mono ?_); rintro e w' ⟨rfl, ⟨nd, rfl⟩⟩))
      go_ret
      exact ⟨by first | rfl | (simp [errW_none, errW_some] <;> rfl) | (simp [*, errW_none, errW_some] <;> rfl), by repeat (first | (with_reducible first | exact HB.out | apply below_alloc | apply pw_below_drewN | apply below_drew1 | refine below_set ?_ GE101.out) | exact HB.out)⟩

/-! ### impl_GoodRules: function 10 -/
/-- Is a rule no good? -/
def impl_GoodRules.bad (k : Nat) (x : S59) : Option Bool := impl_GoodRules_1.f k x.f0 x.f1
def impl_GoodRules.f (k : Nat) (l0 : List (S59)) : Option Bool := if (l0.length : Int) ≤ 8 then ((anyM (impl_GoodRules.bad k) l0).bind fun b => some (!b)) else some false
theorem impl_GoodRules.mono : ∀ a0 k, LeO (impl_GoodRules.f k a0) (impl_GoodRules.f (k + 1) a0) := fun a0 k =>
  LeO.ite (LeO.bind (LeO.anyM (fun x => impl_GoodRules_1.mono _ _ _) _) fun _ => LeO.refl _) (LeO.refl _)
set_option maxHeartbeats 4000000 in
set_option maxRecDepth 100000 in
theorem impl_GoodRules.calls (k : Nat) (A0 : Option Addr) (c0 : Nat) (l0 : List (S59)) (r : Bool) (w : World) (hr0 : Kd.C k59 w A0 l0.length l0) (hc0 : l0.length ≤ c0) (h : impl_GoodRules.f k l0 = some r) :
    Calls Try.prog 10 #[.slice A0 l0.length c0] w fun e w' => e = .returned (.bool r) ∧ Below w.heap.size w w' := by
  have hm : l0.length ≤ 9223372036854775807 := hr0.2.1
  unfold impl_GoodRules.f at h
  by_cases c : (l0.length : Int) ≤ 8
  · rw [if_pos c] at h
    obtain ⟨b, hb, hr⟩ := Option.bind_eq_some_iff.mp h
    obtain rfl := Option.some.inj hr
    have eg : ∀ args w, (callFunc 40 args).run Try.prog w = .ok (.enter 40 args) w := enters_of Try.func40 (by kernel_rfl) rfl
    have c0b : decide (l0.length ≤ 8) = true := by simp; omega
    have c1b : decide ((l0.length : Int) ≤ 8) = true := by simp; omega
    have HR := Aside0.mk hr0
    have HB := Aside0.mk hb
    clear hr0 h hr hb c
    go_enter Try.func10, Try.ntmps10
    go_wp2_with (go_at_call 39; refine (containsFunc_T59 (impl_GoodRules.bad k) 40 #[] A0 c0 l0 b _ eg (fun W x b' _ hq => impl_GoodRules_1.calls k x.f0 x.f1 b' W hq) HR.out hc0 HB.out).mono ?_; rintro e w' ⟨rfl, hb'⟩)
    go_ret
    exact ⟨by simp, hb'⟩
  · rw [if_neg c] at h
    obtain rfl := Option.some.inj h
    have c0b : decide (l0.length ≤ 8) = false := by simp; omega
    have c1b : decide ((l0.length : Int) ≤ 8) = false := by simp; omega
    clear h c hr0
    go_enter Try.func10, Try.ntmps10
    go_wp2
    go_ret
    exact ⟨by simp, Below.refl _ _⟩

/-! ### impl_askedText: function 44 -/
def impl_askedText.f (k : Nat) (l0 : List (S59)) (a1 : ByteArray) : Option (Bool) := (impl_GoodRules.f k l0).bind fun t105 => (if t105 = true then ((impl_lettersOK.f k a1 40).bind fun t106 => (some t106)) else (some false))
theorem impl_askedText.mono : ∀ a0 a1 k, LeO (impl_askedText.f k a0 a1) (impl_askedText.f (k + 1) a0 a1) := by
  intro a0 a1 k
  unfold impl_askedText.f
  repeat' first
      | (with_reducible exact impl_GoodRules.mono _ _)
      | (with_reducible exact impl_lettersOK.mono _ _ _)
      | (with_reducible exact LeO.refl _)
      | (with_reducible exact LeO.none _)
      | (with_reducible refine LeO.ite ?_ ?_)
      | (with_reducible refine LeO.bind ?_ (fun _ => ?_))
      | exact impl_GoodRules.mono _ _
      | exact impl_lettersOK.mono _ _ _
      | exact LeO.none _
      | refine LeO.ite ?_ ?_
      | refine LeO.bind ?_ (fun _ => ?_)
set_option maxHeartbeats 8000000 in
set_option maxRecDepth 100000 in
theorem impl_askedText.calls (k : Nat) (A0 : Option Addr) (c0 : Nat) (l0 : List (S59)) (a1 : ByteArray) (r : Bool) (w : World) (hr0 : Kd.C k59 w A0 l0.length l0) (hc0 : l0.length ≤ c0) (h : impl_askedText.f k l0 a1 = some r) :
    Calls Try.prog 44 #[.slice A0 l0.length c0, .string a1] w fun e w' => e = .returned (.bool r) ∧ Below w.heap.size w w' := by
  have HR0 := Aside0.mk hr0
  have HC0 := Aside0.mk hc0
  clear hr0 hc0
  have HB := Aside0.mk (Below.refl w.heap.size w)
  have H : ((impl_GoodRules.f k l0).bind fun t105 => (if t105 = true then ((impl_lettersOK.f k a1 40).bind fun t106 => (some t106)) else (some false))) = some r := h
  clear h
  replace H := Option.bind_eq_some_iff.mp H
  obtain ⟨t105, A30, H⟩ := H
  replace H : (if t105 = true then ((impl_lettersOK.f k a1 40).bind fun t106 => (some t106)) else (some false)) = some r := H
  have A3 := Aside0.mk A30
  clear A30
  by_cases c4 : t105 = true
  · subst c4
    have H1 : ((impl_lettersOK.f k a1 40).bind fun t106 => (some t106)) = some r := by rw [if_pos rfl] at H; exact H
    clear H
    have H := H1
    clear H1
    replace H := Option.bind_eq_some_iff.mp H
    obtain ⟨t106, A50, H⟩ := H
    replace H : (some t106) = some r := H
    have A5 := Aside0.mk A50
    clear A50
    obtain rfl := Option.some.inj H
    go_enter Try.func44, Try.ntmps44
    go_wp2_with (first | ((with_reducible refine gate_callee (f := 10) rfl ?_); refine goesL_ (some 6) rfl rfl Try.func10 (by kernel_rfl) rfl #[.slice A0 l0.length c0] rfl (by (try simp only [List.map_toArray, List.map_cons, List.map_nil]); first | done | rfl | (simp only [List.length_drop, List.length_take]; rfl)) ?_; (with_reducible refine (impl_GoodRules.calls k _ _ l0 true _ ?side1 ?side2 A3.out).mono ?_); (case side1 => repeat (first | exact HR0.out | (with_reducible refine Kd.C_alloc ?_ _) | (with_reducible refine Kd.C_drewN ?_ _) | (with_reducible refine Kd.C_drew ?_))); (case side2 => exact HC0.out); rintro e w6 ⟨rfl, hb⟩; refine ⟨_, rfl, ?_⟩; have n0_ := Aside0.mk (below_step (by repeat (first | (with_reducible first | exact HB.out | apply below_alloc | apply pw_below_drewN | apply below_drew1) | exact HB.out)) hb); clear HB; have HB := n0_; clear n0_; (try clear hb); (try clear hb2); (try clear hk); (try clear hi)) | (go_at_call 41; (with_reducible refine (impl_lettersOK.calls k a1 40 t106 _ A5.out).mono ?_); rintro e w' ⟨rfl, ⟨nd, rfl⟩⟩))
    go_ret
    exact ⟨by first | rfl | (simp [errW_none, errW_some] <;> rfl) | (simp [*, errW_none, errW_some] <;> rfl), by repeat (first | (with_reducible first | exact HB.out | apply below_alloc | apply pw_below_drewN | apply below_drew1) | exact HB.out)⟩
  · replace c4 := Bool.eq_false_iff.mpr c4
    subst c4
    have H1 : (some false) = some r := by rw [if_neg (show ¬ (false = true) by decide)] at H; exact H
    clear H
    have H := H1
    clear H1
    obtain rfl := Option.some.inj H
    go_enter Try.func44, Try.ntmps44
    go_wp2_with (first | ((with_reducible refine gate_callee (f := 10) rfl ?_); refine goesL_ (some 6) rfl rfl Try.func10 (by kernel_rfl) rfl #[.slice A0 l0.length c0] rfl (by (try simp only [List.map_toArray, List.map_cons, List.map_nil]); first | done | rfl | (simp only [List.length_drop, List.length_take]; rfl)) ?_; (with_reducible refine (impl_GoodRules.calls k _ _ l0 false _ ?side1 ?side2 A3.out).mono ?_); (case side1 => repeat (first | exact HR0.out | (with_reducible refine Kd.C_alloc ?_ _) | (with_reducible refine Kd.C_drewN ?_ _) | (with_reducible refine Kd.C_drew ?_))); (case side2 => exact HC0.out); rintro e w7 ⟨rfl, hb⟩; refine ⟨_, rfl, ?_⟩; have n0_ := Aside0.mk (below_step (by repeat (first | (with_reducible first | exact HB.out | apply below_alloc | apply pw_below_drewN | apply below_drew1) | exact HB.out)) hb); clear HB; have HB := n0_; clear n0_; (try clear hb); (try clear hb2); (try clear hk); (try clear hi)))
    go_ret
    exact ⟨by first | rfl | (simp [errW_none, errW_some] <;> rfl) | (simp [*, errW_none, errW_some] <;> rfl), by repeat (first | (with_reducible first | exact HB.out | apply below_alloc | apply pw_below_drewN | apply below_drew1) | exact HB.out)⟩

/-! ### stringslite_HasPrefix: function 71 -/
def stringslite_HasPrefix.f (a0 : ByteArray) (a1 : ByteArray) : Option (Bool) := if (a0.size : Int) ≥ (a1.size : Int) then (if 0 ≤ (a1.size : Int) then (if (a1.size : Int) ≤ (a0.size : Int) then (some ((a0.extract 0 ((a1.size : Int) : Int).toNat).toList == a1.toList)) else (none)) else (none)) else (some false)
set_option maxHeartbeats 8000000 in
set_option maxRecDepth 100000 in
theorem stringslite_HasPrefix.calls (a0 : ByteArray) (a1 : ByteArray) (r : Bool) (w : World) (h : stringslite_HasPrefix.f a0 a1 = some r) :
    Calls Try.prog 71 #[.string a0, .string a1] w fun e w' => e = .returned (.bool r) ∧ Drawn0 w w' := by
  have H : (if (a0.size : Int) ≥ (a1.size : Int) then (if 0 ≤ (a1.size : Int) then (if (a1.size : Int) ≤ (a0.size : Int) then (some ((a0.extract 0 ((a1.size : Int) : Int).toNat).toList == a1.toList)) else (none)) else (none)) else (some false)) = some r := h
  clear h
  by_cases c3 : (a0.size : Int) ≥ (a1.size : Int)
  · rw [if_pos c3] at H
    have c3b0 : decide ((a1.size : Int) ≤ (a0.size : Int)) = true := decide_eq_true c3
    have c3b1 : decide (a1.size ≤ a0.size) = true := decide_eq_true (Int.ofNat_le.mp c3)
    clear c3
    by_cases c4 : 0 ≤ (a1.size : Int)
    · rw [if_pos c4] at H
      have c4b0 := eq_true c4
      have c4b1 : decide (0 ≤ (a1.size : Int)) = true := decide_eq_true c4
      clear c4
      by_cases c5 : (a1.size : Int) ≤ (a0.size : Int)
      · rw [if_pos c5] at H
        have c5b0 := eq_true c5
        have c5b1 : decide ((a1.size : Int) ≤ (a0.size : Int)) = true := decide_eq_true c5
        clear c5
        obtain rfl := Option.some.inj H
        go_enter Try.func71, Try.ntmps71
        go_wp2
        go_ret
        exact ⟨by first | rfl | (simp; done) | (simp [*]; done), by repeat (first | exact Drawn0.refl _ | apply Drawn0.step)⟩
      · rw [if_neg c5] at H
        exact absurd H (by simp)
    · rw [if_neg c4] at H
      exact absurd H (by simp)
  · rw [if_neg c3] at H
    have c3b0 : decide ((a1.size : Int) ≤ (a0.size : Int)) = false := decide_eq_false c3
    have c3b1 : decide (a1.size ≤ a0.size) = false := decide_eq_false (fun h => c3 (Int.ofNat_le.mpr h))
    clear c3
    obtain rfl := Option.some.inj H
    go_enter Try.func71, Try.ntmps71
    go_wp2
    go_ret
    exact ⟨by first | rfl | (simp; done) | (simp [*]; done), by repeat (first | exact Drawn0.refl _ | apply Drawn0.step)⟩

/-! ### strings_HasPrefix: function 69 -/
def strings_HasPrefix.f (a0 : ByteArray) (a1 : ByteArray) : Option (Bool) := (stringslite_HasPrefix.f a0 a1).bind fun t107 => (some t107)
set_option maxHeartbeats 8000000 in
set_option maxRecDepth 100000 in
theorem strings_HasPrefix.calls (a0 : ByteArray) (a1 : ByteArray) (r : Bool) (w : World) (h : strings_HasPrefix.f a0 a1 = some r) :
    Calls Try.prog 69 #[.string a0, .string a1] w fun e w' => e = .returned (.bool r) ∧ Drawn0 w w' := by
  have H : ((stringslite_HasPrefix.f a0 a1).bind fun t107 => (some t107)) = some r := h
  clear h
  replace H := Option.bind_eq_some_iff.mp H
  obtain ⟨t107, A30, H⟩ := H
  replace H : (some t107) = some r := H
  have A3 := Aside0.mk A30
  clear A30
  obtain rfl := Option.some.inj H
  go_enter Try.func69, Try.ntmps69
  go_wp2_with (first | ((with_reducible refine gate_callee (f := 71) rfl ?_); refine goesL_ (some 7) rfl rfl Try.func71 (by kernel_rfl) rfl #[.string a0, .string a1] rfl (by (try simp only [List.map_toArray, List.map_cons, List.map_nil]); first | done | rfl | (simp only [List.length_drop, List.length_take]; rfl)) ?_; (with_reducible refine (stringslite_HasPrefix.calls a0 a1 t107 _ A3.out).mono ?_); rintro e w' ⟨rfl, ⟨nd, rfl⟩⟩; refine ⟨_, rfl, ?_⟩))
  go_ret
  exact ⟨by first | rfl | (simp; done) | (simp [*]; done), by repeat (first | exact Drawn0.refl _ | apply Drawn0.step)⟩

/-! ### impl_once: function 64 -/
set_option maxHeartbeats 4000000 in
set_option maxRecDepth 100000 in
theorem impl_all_1.calls (base B : Nat) (hbB : base ≤ B) (v : Value) (xs : List ByteArray) (t : ByteArray) (w : World)
    (hcell : w.heap[B]? = some (.cells #[v] 29 (0, 0))) (HO : Kd.R Kd.string 9 w base (fun _ => True) v xs) (hl : xs.length < 8796093022208) :
    Calls Try.prog 65 #[.string t, .pointer (some ⟨B, 0, none⟩)] w fun e w' => ∃ v1, e = .returned (.bool true) ∧ w'.heap[B]? = some (.cells #[v1] 29 (0, 0)) ∧ Kd.R Kd.string 9 w' base (fun _ => True) v1 (xs ++ [t]) ∧ Below base w w' ∧ KeepBut w w' B v.ownBlock := by
  obtain ⟨Ao, co, rfl⟩ := Kd.R_slice HO
  have hc : w.cell? ⟨B, 0, none⟩ = some (.slice Ao xs.length co) := (blk_cell hcell 0).trans rfl
  have hf := blk_frozen hcell 0
  have hB := blk_lt hcell
  have HC := Aside0.mk hcell
  have HO := Aside0.mk HO
  clear hcell
  go_enter Try.func65, Try.ntmps65
  go_wp2_with ((with_reducible refine gate_builtin (b := .append) (xs := #[.tmp 4, .tmp 6]) rfl ?_); at_builtin; refine Kd.R_append Kd.string (w0 := w) base rfl (.tmp 4) (.tmp 6) 29 9 (.string ⟨#[]⟩) 16 rfl Try.underlying29 info9 rfl (by decide) (by omega) (.slice Ao xs.length co) xs t [.string t] (fun _ => True) (fun _ => False) rfl rfl ?aP (fun _ hk => hk.elim) ?aF ?aO ?aB ?aS ?aL ?_; (case aP => exact rfl); (case aB => exact Below.refl _ _); (case aF => exact (fun _ _ => trivial)); (case aO => exact HO.out); (case aS => omega); (case aL => omega); intro v1 w1 ho hb hg hat; obtain ⟨A1, c1, rfl⟩ := Kd.R_slice ho; have hbl : w1.heap[B]? = some (.cells #[.slice Ao xs.length co] 29 (0, 0)) := blk_grown HC.out hg (Kd.R_ne HO.out HC.out (by decide)); have hc1 : w1.cell? ⟨B, 0, none⟩ = some (.slice Ao xs.length co) := (blk_cell hbl 0).trans rfl; have hf1 := blk_frozen hbl 0; have HO1 := Aside0.mk ho; have HB1 := Aside0.mk hb; have HL1 := Aside0.mk hbl; have HK1 := Aside0.mk (KeepBut.of_grown hg B); clear ho hb hg hat hbl)
  go_ret
  refine ⟨.slice A1 (xs ++ [t]).length c1, rfl, by rw [blk_set HL1.out]; simp, by have h_ := Kd.R_mono (Kd.R_far (p := ⟨B, 0, none⟩) (Kd.R_types HO1.out HL1.out (by decide)) (fun _ hk => hk.2) (.slice A1 (xs ++ [t]).length c1)) (fun _ _ => trivial); simpa using h_, HB1.out.setCell (p := ⟨B, 0, none⟩) hbB _, HK1.out.set_ 0 _⟩
/-- What comes of s by rule r at place i, if the rule can be used there. -/
def onceAt (r : S59) (s : ByteArray) (i : Nat) : Option ByteArray :=
  if (((s.extract i s.size).extract 0 r.f0.size).toList == r.f0.toList) = true then some ((s.extract 0 i ++ r.f1) ++ s.extract (i + r.f0.size) s.size) else none
def onceRule (r : S59) (s : ByteArray) : List ByteArray := (List.range (s.size + 1 - r.f0.size)).filterMap (onceAt r s)
/-- All texts that come of s by one rule at one place. -/
def onceL (l : List (S59)) (s : ByteArray) : List ByteArray := l.flatMap fun r => onceRule r s
theorem onceRule_length (r : S59) (s : ByteArray) : (onceRule r s).length ≤ s.size + 1 := by
  have h_ := List.length_filterMap_le (onceAt r s) (List.range (s.size + 1 - r.f0.size))
  simp only [List.length_range] at h_
  unfold onceRule
  omega
theorem onceL_length (l : List (S59)) (s : ByteArray) : (onceL l s).length ≤ l.length * (s.size + 1) := by
  induction l with
  | nil => simp [onceL]
  | cons r l ih =>
    have h_ := onceRule_length r s
    have e_ : onceL (r :: l) s = onceRule r s ++ onceL l s := rfl
    rw [e_, List.length_append, List.length_cons, Nat.succ_mul]
    omega
set_option maxHeartbeats 4000000 in
set_option maxRecDepth 100000 in
theorem impl_once.calls (B : Nat) (v : Value) (xs : List ByteArray) (A0 : Option Addr) (c0 : Nat) (l0 : List (S59)) (s : ByteArray) (w0 w : World)
    (hr0 : Kd.C k59 w0 A0 l0.length l0) (hc0 : l0.length ≤ c0) (hB : w0.heap.size ≤ B) (hb0 : Below w0.heap.size w0 w)
    (hcell : w.heap[B]? = some (.cells #[v] 29 (0, 0))) (HO : Kd.R Kd.string 9 w w0.heap.size (fun _ => True) v xs)
    (hl8 : l0.length ≤ 8) (hs : s.size ≤ 1000) (hx : xs.length ≤ 1000) (hsz : ∀ r ∈ l0, r.f0.size ≤ 1000 ∧ r.f1.size ≤ 1000) :
    Calls Try.prog 64 #[.slice A0 l0.length c0, .string s, .func (.func 65) #[] #[.pointer (some ⟨B, 0, none⟩)]] w fun e w' => e = .returned (.tuple #[]) ∧ ∃ v1, w'.heap[B]? = some (.cells #[v1] 29 (0, 0)) ∧ Kd.R Kd.string 9 w' w0.heap.size (fun _ => True) v1 (xs ++ onceL l0 s) ∧ Below w0.heap.size w0 w' := by
  have hu := Try.underlying59
  have HR := Aside0.mk hr0
  have HC := Aside0.mk hcell
  have HO := Aside0.mk HO
  have HB := Aside0.mk hb0
  have HS := Aside0.mk hsz
  clear hcell hr0 hb0 hsz
  go_enter Try.func64, Try.ntmps64
  go_wp2
  go_loopg [7, 8, 11] l0.length (fun gg _ _ s11 wr => ∃ (kk : Nat) (v1 : Value), kk ≤ l0.length ∧ l0.length - kk ≤ gg ∧ s11 = .int .i64 kk ∧ Aside0 (wr.heap[B]? = some (.cells #[v1] 29 (0, 0))) ∧ Aside0 (Kd.R Kd.string 9 wr w0.heap.size (fun _ => True) v1 (xs ++ onceL (l0.take kk) s)) ∧ Aside0 (Below w0.heap.size w0 wr))
  case atStart => exact ⟨0, v, Nat.zero_le _, by omega, rfl, HC, ⟨by simpa [onceL] using HO.out⟩, HB⟩
  case round =>
    obtain ⟨kk, v1, hkk, hg, rfl, HC1, HO1, HB1⟩ := hrel
    by_cases hlt : kk < l0.length
    · have hltz : (kk : Int) < (l0.length : Int) := by omega
      obtain ⟨ad, e, hx0, hx1⟩ := at_T59 HR.out kk (by omega) hltz
      cases e
      simp only [Int.toNat_natCast] at hx0 hx1
      replace hx0 := (HB1.out.cell (World.block_lt_of_cell? w0 _ hx0)).trans hx0
      replace hx1 := (HB1.out.cell (World.block_lt_of_cell? w0 _ hx1)).trans hx1
      clear HO HC HB
      have hrs := HS.out (rd_T59 l0 kk) (by simp only [rd_T59, Int.toNat_natCast, List.getD_eq_getElem?_getD, List.getElem?_eq_getElem hlt, Option.getD_some]; exact List.getElem_mem hlt)
      have hL : Aside0 (xs ++ onceL (l0.take (kk + 1)) s = (xs ++ onceL (l0.take kk) s) ++ onceRule (rd_T59 l0 kk) s) := ⟨by
        have e1 : l0.take (kk + 1) = l0.take kk ++ [l0[kk]] := List.take_succ_eq_append_getElem hlt
        have e2 : rd_T59 l0 kk = l0[kk] := by simp [rd_T59, List.getD_eq_getElem?_getD, List.getElem?_eq_getElem hlt]
        unfold onceL
        rw [e2, e1, List.flatMap_append, List.append_assoc, List.flatMap_cons, List.flatMap_nil, List.append_nil]⟩
      have hlen : (xs ++ onceL (l0.take kk) s).length ≤ 10000 := by have h_ := onceL_length (l0.take kk) s; rw [List.length_append]; rw [List.length_take, Nat.min_eq_left hkk] at h_; have h2_ : kk * (s.size + 1) ≤ 8 * 1001 := Nat.mul_le_mul (by omega) (by omega); omega
      generalize rd_T59 l0 kk = q at hx0 hx1 hrs hL
      obtain ⟨q1, q2⟩ := hrs
      generalize xs ++ onceL (l0.take kk) s = ys at HO1 hL hlen
      go_wp2_with fail
      have BK := Aside0.mk (heap_alloc_new wr (.cells #[.string q.f0, .string q.f1] 59))
      have HC2 := Aside0.mk (blk_alloc HC1.out (.cells #[.string q.f0, .string q.f1] 59))
      have HO2 := Aside0.mk (Kd.R_alloc HO1.out (.cells #[.string q.f0, .string q.f1] 59))
      have HB2 := Aside0.mk (below_alloc HB1.out (.cells #[.string q.f0, .string q.f1] 59))
      have hgB : Aside0 (B ≠ wr.heap.size) := ⟨by have := blk_lt HC1.out; omega⟩
      clear hx0 hx1 HC1 HO1 HB1
      generalize wr.alloc (.cells #[.string q.f0, .string q.f1] 59) = W1 at BK HC2 HO2 HB2 ⊢
      generalize wr.heap.size = gb at BK hgB ⊢
      go_loopg [8] (s.size + 1) (fun gg s8 wr => ∃ (j : Nat) (v2 : Value), j ≤ s.size + 1 ∧ s.size + 1 - j ≤ gg ∧ s8 = .int .i64 j ∧ Aside0 (wr.heap[B]? = some (.cells #[v2] 29 (0, 0))) ∧ Aside0 (Kd.R Kd.string 9 wr w0.heap.size (fun _ => True) v2 (ys ++ (List.range j).filterMap (onceAt q s))) ∧ Aside0 (wr.heap[gb]? = some (.cells #[.string q.f0, .string q.f1] 59 (0, 0))) ∧ Aside0 (Below w0.heap.size w0 wr) ∧ Aside0 (j = 0 ∨ j + q.f0.size ≤ s.size + 1))
      case atStart => exact ⟨0, v1, Nat.zero_le _, by omega, rfl, HC2, ⟨by simpa using HO2.out⟩, BK, HB2, ⟨.inl rfl⟩⟩
      case round =>
        clear HC2 HO2 BK HB2
        obtain ⟨j, v2, hj, hg2, rfl, HC3, HO3, BK3, HB3, HJ⟩ := hrel
        have hcz0 : wr.cell? ⟨gb, 0, none⟩ = some (.string q.f0) := (blk_cell BK3.out 0).trans rfl
        have hcz1 : wr.cell? ⟨gb, 1, none⟩ = some (.string q.f1) := (blk_cell BK3.out 1).trans rfl
        by_cases hlt2 : j + q.f0.size ≤ s.size
        · have t1 : decide (j + q.f0.size ≤ s.size) = true := by simpa using hlt2
          have t2 : decide ((j : Int) + (q.f0.size : Int) ≤ (s.size : Int)) = true := by simp; omega
          obtain ⟨b, hb⟩ : ∃ b : Bool, b = (((s.extract j s.size).extract 0 q.f0.size).toList == q.f0.toList) := ⟨_, rfl⟩
          have hp : strings_HasPrefix.f (s.extract j s.size) q.f0 = some b := by
            have h1 : (s.extract j s.size).size = s.size - j := by simp
            unfold strings_HasPrefix.f stringslite_HasPrefix.f
            rw [if_pos (by omega), if_pos (by omega), if_pos (by omega), hb]
            simp
          have HP := Aside0.mk hp
          have HA : Aside0 (onceAt q s j = if b = true then some ((s.extract 0 j ++ q.f1) ++ s.extract (j + q.f0.size) s.size) else none) := ⟨by rw [hb]; rfl⟩
          clear hp hb
          have i0 : (0 : Int) ≤ (j : Int) := by omega
          have i1 : (j : Int) ≤ (s.size : Int) := by omega
          have i2 : (0 : Int) ≤ (j : Int) + (q.f0.size : Int) := by omega
          have i3 : (j : Int) + (q.f0.size : Int) ≤ (s.size : Int) := by omega
          cases b with
          | true =>
            have HA1 : Aside0 (onceAt q s j = some ((s.extract 0 j ++ q.f1) ++ s.extract (j + q.f0.size) s.size)) := ⟨by rw [HA.out]; rfl⟩
            go_wp2_with fail
            have e1 : IntKind.i64.wrap ((j : Int) + (q.f0.size : Int)) = (j : Int) + (q.f0.size : Int) := IntWalk.i64_in _ (by omega)
            have e2 : ((j : Int) + (q.f0.size : Int)).toNat = j + q.f0.size := by omega
            have e3 : (9223372036854775807 < j + q.f1.size) = False := eq_false (by omega)
            have e4 : (9223372036854775807 < j + q.f1.size + (s.size - (j + q.f0.size))) = False := eq_false (by omega)
            have e5 : (9223372036854775807 < min j s.size + q.f1.size) = False := eq_false (by omega)
            have e6 : (9223372036854775807 < min j s.size + q.f1.size + (s.size - (j + q.f0.size))) = False := eq_false (by omega)
            have e7 : j ≤ s.size := by omega
            have hlen2 : (ys ++ (List.range j).filterMap (onceAt q s)).length < 8796093022208 := by
              have := List.length_filterMap_le (onceAt q s) (List.range j)
              rw [List.length_append]; simp only [List.length_range] at this; omega
            go_region_held3 (fun w' => w'.cell? ⟨gb, 0, none⟩ = some (.string q.f0) ∧ w'.cell? ⟨gb, 1, none⟩ = some (.string q.f1)) (go_keep) ((first | (go_at_call 69; refine (strings_HasPrefix.calls (s.extract j s.size) q.f0 true _ HP.out).mono ?_; rintro e w' ⟨rfl, ⟨nd, rfl⟩⟩) | (go_at_call 65; refine (impl_all_1.calls w0.heap.size B hB v2 (ys ++ (List.range j).filterMap (onceAt q s)) ((s.extract 0 j ++ q.f1) ++ s.extract (j + q.f0.size) s.size) _ (by (with_reducible repeat (first | refine blk_drewN ?_ _ | refine blk_drew ?_ | refine blk_alloc ?_ _)); exact HC3.out) (by (with_reducible repeat (first | apply Kd.R_alloc | apply Kd.R_drewN | apply Kd.R_drew)); exact HO3.out) hlen2).mono ?_; rintro e w4 ⟨v3, rfl, hc4, ho4, hb4, hk4⟩; have hbk4 := hk4.blk (by (with_reducible repeat (first | refine blk_drewN ?_ _ | refine blk_drew ?_ | refine blk_alloc ?_ _)); exact BK3.out) (Ne.symm hgB.out) (Kd.R_ne HO3.out BK3.out (by decide)); have hcy0 : w4.cell? ⟨gb, 0, none⟩ = some (.string q.f0) := (blk_cell hbk4 0).trans rfl; have hcy1 : w4.cell? ⟨gb, 1, none⟩ = some (.string q.f1) := (blk_cell hbk4 1).trans rfl; have HC4 := Aside0.mk hc4; have HO4 := Aside0.mk ho4; have HB4 := Aside0.mk hb4; have HK4 := Aside0.mk hk4; have BK4 := Aside0.mk hbk4; clear hc4 ho4 hb4 hk4 hbk4)))
            go_wp2
            go_roundg (s.size - j)
            case measure => omega
            case rel => exact ⟨j + 1, v3, by omega, by omega, by go_num, HC4, ⟨by
              have h_ := HO4.out
              rw [List.append_assoc] at h_
              rw [List.range_succ, List.filterMap_append, List.filterMap_cons, HA1.out, List.filterMap_nil]
              exact h_⟩, BK4, ⟨below_weaken (by repeat (first | exact HB3.out | apply pw_below_drewN | apply below_drew1)) (Nat.le_refl _) HB4.out⟩, ⟨.inr (by omega)⟩⟩
          | false =>
            have HA1 : Aside0 (onceAt q s j = none) := ⟨by rw [HA.out]; rfl⟩
            go_wp2_with fail
            go_quiet ((go_at_call 69; exact Calls.quiet_of ((strings_HasPrefix.calls (s.extract j s.size) q.f0 false _ HP.out).mono fun _ _ ⟨he, ⟨⟨m, hm⟩⟩⟩ => ⟨he, m, hm⟩)))
            go_wp2
            go_roundg (s.size - j)
            case measure => omega
            case rel => exact ⟨j + 1, v2, by omega, by omega, by go_num, ⟨by repeat (first | exact HC3.out | refine blk_drewN ?_ _ | refine blk_drew ?_)⟩, ⟨by
              rw [List.range_succ, List.filterMap_append, List.filterMap_cons, HA1.out, List.filterMap_nil, List.append_nil]
              (with_reducible repeat (first | apply Kd.R_alloc | apply Kd.R_drewN | apply Kd.R_drew)); exact HO3.out⟩, ⟨by repeat (first | exact BK3.out | refine blk_drewN ?_ _ | refine blk_drew ?_)⟩, ⟨by repeat (first | exact HB3.out | apply pw_below_drewN | apply below_drew1)⟩, ⟨.inr (by omega)⟩⟩
        · have t1 : decide (j + q.f0.size ≤ s.size) = false := by simpa using hlt2
          have t2 : decide ((j : Int) + (q.f0.size : Int) ≤ (s.size : Int)) = false := by simp; omega
          have hjn : Aside0 (j = s.size + 1 - q.f0.size) := ⟨by rcases HJ.out with h | h <;> omega⟩
          go_wp2
          go_roundg (l0.length - (kk + 1))
          case measure => omega
          case rel => exact ⟨kk + 1, v2, by omega, by omega, by go_num, HC3, ⟨by rw [hL.out]; have h_ := HO3.out; rw [hjn.out] at h_; exact h_⟩, HB3⟩
    · have hltz : ¬ (kk : Int) < (l0.length : Int) := by omega
      have hk : Aside0 (kk = l0.length) := ⟨by omega⟩
      clear HO HC HB
      go_wp2
      go_end0
      exact ⟨rfl, v1, HC1.out, by have h_ := HO1.out; rw [hk.out, List.take_length] at h_; exact h_, HB1.out⟩

-- NOT PRINTED: function 65 (impl_all_1)

/-! ### impl_all: function 45 -/
/-- What is asked of rules and a text: no row or text grows beyond a bound. -/
def impl_all.Fit (l : List (S59)) (s : ByteArray) : Prop := l.length ≤ 8 ∧ s.size ≤ 1000 ∧ ∀ r ∈ l, r.f0.size ≤ 1000 ∧ r.f1.size ≤ 1000
instance impl_all.fit_dec (l : List (S59)) (s : ByteArray) : Decidable (impl_all.Fit l s) := inferInstanceAs (Decidable (_ ∧ _ ∧ _))
def impl_all.f (l0 : List (S59)) (a1 : ByteArray) : Option (List ByteArray) := if impl_all.Fit l0 a1 then some (onceL l0 a1) else none
set_option maxHeartbeats 4000000 in
set_option maxRecDepth 100000 in
theorem impl_all.calls (A0 : Option Addr) (c0 : Nat) (l0 : List (S59)) (a1 : ByteArray) (r : List ByteArray) (w : World) (hr0 : Kd.C k59 w A0 l0.length l0) (hc0 : l0.length ≤ c0) (h : impl_all.f l0 a1 = some r) :
    Calls Try.prog 45 #[.slice A0 l0.length c0, .string a1] w fun e w' => ∃ v0_ : Value, e = .returned (v0_) ∧ Kd.R Kd.string 9 w' w.heap.size (fun _ => True) v0_ r ∧ Below w.heap.size w w' := by
  unfold impl_all.f at h
  by_cases hf : impl_all.Fit l0 a1
  · rw [if_pos hf] at h
    obtain rfl := Option.some.inj h
    obtain ⟨h8, hs, hsz⟩ := hf
    have hmf : ∀ (fn : Fn) (first cap : Array Value) (w : World), (Instr.makeFunc fn first cap).run Try.prog w = .ok (.func fn first cap) w := fun _ _ _ _ => rfl
    have HR := Aside0.mk hr0
    have HS := Aside0.mk hsz
    clear hr0 hsz h
    go_enter Try.func45, Try.ntmps45
    go_wp2_with fail
    have hcell := Aside0.mk (heap_alloc_new (w.alloc (.cells #[] 9)) (.cells #[.slice (some ⟨w.heap.size, 0, none⟩) 0 0] 29))
    have hrow : Aside0 (Kd.R Kd.string 9 ((w.alloc (.cells #[] 9)).alloc (.cells #[.slice (some ⟨w.heap.size, 0, none⟩) 0 0] 29)) w.heap.size (fun _ => True) (.slice (some ⟨w.heap.size, 0, none⟩) 0 0) ([] : List ByteArray)) := ⟨Kd.R_alloc (Kd.R_of_own (h1 := fun _ => rfl) (xs := ([] : List ByteArray)) (own_lit w w.heap.size 9 .i64 [] (Nat.le_refl _) (by simp)) (fun _ _ => trivial)) _⟩
    have hsz1 : ((w.alloc (.cells #[] 9)).heap.size) = w.heap.size + 1 := by simp
    rw [hsz1] at hcell
    refine (impl_once.calls (w.heap.size + 1) _ [] A0 c0 l0 a1 w _ HR.out hc0 (by omega) (by exact below_alloc (below_alloc (Below.refl _ _) _) _) hcell.out hrow.out h8 hs (by simp) HS.out).mono ?_
    rintro e w1 ⟨rfl, v1, hc1, ho1, hb1⟩
    have hcv : w1.cell? ⟨w.heap.size + 1, 0, none⟩ = some v1 := (blk_cell hc1 0).trans rfl
    obtain ⟨A1, c1, rfl⟩ := Kd.R_slice ho1
    have HO1 := Aside0.mk ho1
    have HB1 := Aside0.mk hb1
    clear hcell hrow hc1 ho1 hb1
    go_wp2
    go_ret
    exact ⟨_, rfl, by simpa using HO1.out, HB1.out⟩
  · rw [if_neg hf] at h
    cases h

/-! ### impl_OnceBy: function 12 -/
def impl_OnceBy.f (k : Nat) (l0 : List (S59)) (a1 : ByteArray) : Option (List ByteArray × Bool) := (impl_askedText.f k l0 a1).bind fun t108 => (if t108 = true then ((impl_all.f l0 a1).bind fun t109 => (some (t109, true))) else (some (([] : List ByteArray), false)))
theorem impl_OnceBy.mono : ∀ a0 a1 k, LeO (impl_OnceBy.f k a0 a1) (impl_OnceBy.f (k + 1) a0 a1) := by
  intro a0 a1 k
  unfold impl_OnceBy.f
  repeat' first
      | (with_reducible exact impl_askedText.mono _ _ _)
      | (with_reducible exact LeO.refl _)
      | (with_reducible exact LeO.none _)
      | (with_reducible refine LeO.ite ?_ ?_)
      | (with_reducible refine LeO.bind ?_ (fun _ => ?_))
      | exact impl_askedText.mono _ _ _
      | exact LeO.none _
      | refine LeO.ite ?_ ?_
      | refine LeO.bind ?_ (fun _ => ?_)
set_option maxHeartbeats 8000000 in
set_option maxRecDepth 100000 in
theorem impl_OnceBy.calls (k : Nat) (A0 : Option Addr) (c0 : Nat) (l0 : List (S59)) (a1 : ByteArray) (r1 : List ByteArray) (r2 : Bool) (w : World) (hr0 : Kd.C k59 w A0 l0.length l0) (hc0 : l0.length ≤ c0) (h : impl_OnceBy.f k l0 a1 = some (r1, r2)) :
    Calls Try.prog 12 #[.slice A0 l0.length c0, .string a1] w fun e w' => ∃ v0_ : Value, e = .returned (.tuple #[v0_, .bool r2]) ∧ Kd.R Kd.string 9 w' w.heap.size (fun _ => True) v0_ r1 ∧ Below w.heap.size w w' := by
  have HR0 := Aside0.mk hr0
  have HC0 := Aside0.mk hc0
  clear hr0 hc0
  have HB := Aside0.mk (Below.refl w.heap.size w)
  have H : ((impl_askedText.f k l0 a1).bind fun t108 => (if t108 = true then ((impl_all.f l0 a1).bind fun t109 => (some (t109, true))) else (some (([] : List ByteArray), false)))) = some (r1, r2) := h
  clear h
  replace H := Option.bind_eq_some_iff.mp H
  obtain ⟨t108, A30, H⟩ := H
  replace H : (if t108 = true then ((impl_all.f l0 a1).bind fun t109 => (some (t109, true))) else (some (([] : List ByteArray), false))) = some (r1, r2) := H
  have A3 := Aside0.mk A30
  clear A30
  by_cases c4 : t108 = true
  · subst c4
    have H1 : ((impl_all.f l0 a1).bind fun t109 => (some (t109, true))) = some (r1, r2) := by rw [if_pos rfl] at H; exact H
    clear H
    have H := H1
    clear H1
    replace H := Option.bind_eq_some_iff.mp H
    obtain ⟨t109, A50, H⟩ := H
    replace H : (some (t109, true)) = some (r1, r2) := H
    have A5 := Aside0.mk A50
    clear A50
    simp only [Option.some.injEq, Prod.mk.injEq] at H
    obtain ⟨rfl, rfl⟩ := H
    go_enter Try.func12, Try.ntmps12
    go_wp2_with (first | ((with_reducible refine gate_callee (f := 44) rfl ?_); refine goesL_ (some 8) rfl rfl Try.func44 (by kernel_rfl) rfl #[.slice A0 l0.length c0, .string a1] rfl (by (try simp only [List.map_toArray, List.map_cons, List.map_nil]); first | done | rfl | (simp only [List.length_drop, List.length_take]; rfl)) ?_; (with_reducible refine (impl_askedText.calls k _ _ l0 a1 true _ ?side1 ?side2 A3.out).mono ?_); (case side1 => repeat (first | exact HR0.out | (with_reducible refine Kd.C_alloc ?_ _) | (with_reducible refine Kd.C_drewN ?_ _) | (with_reducible refine Kd.C_drew ?_))); (case side2 => exact HC0.out); rintro e w6 ⟨rfl, hb⟩; refine ⟨_, rfl, ?_⟩; have n0_ := Aside0.mk (below_step (by repeat (first | (with_reducible first | exact HB.out | apply below_alloc | apply pw_below_drewN | apply below_drew1) | exact HB.out)) hb); clear HB; have HB := n0_; clear n0_; (try clear hb); (try clear hb2); (try clear hk); (try clear hi)) | ((with_reducible refine gate_callee (f := 45) rfl ?_); refine goesL_ (some 12) rfl rfl Try.func45 (by kernel_rfl) rfl #[.slice A0 l0.length c0, .string a1] rfl (by (try simp only [List.map_toArray, List.map_cons, List.map_nil]); first | done | rfl | (simp only [List.length_drop, List.length_take]; rfl)) ?_; (with_reducible refine (impl_all.calls _ _ l0 a1 t109 _ ?side1 ?side2 A5.out).mono ?_); (case side1 => repeat (first | exact (Kd.C_below HR0.out HB.out) | (with_reducible refine Kd.C_alloc ?_ _) | (with_reducible refine Kd.C_drewN ?_ _) | (with_reducible refine Kd.C_drew ?_))); (case side2 => exact HC0.out); rintro e w7 ⟨v110, rfl, ho0, hb⟩; refine ⟨_, rfl, ?_⟩; have n0_ := Aside0.mk (Kd.R_lower ho0 (below_size (by repeat (first | (with_reducible first | exact HB.out | apply below_alloc | apply pw_below_drewN | apply below_drew1) | exact HB.out)))); have n1_ := Aside0.mk (below_step (by repeat (first | (with_reducible first | exact HB.out | apply below_alloc | apply pw_below_drewN | apply below_drew1) | exact HB.out)) hb); clear HB; have HO111 := n0_; have HB := n1_; clear n0_ n1_; (try clear hb); (try clear hb2); (try clear hk); (try clear hi); (try clear ho0)))
    go_ret2
    exact ⟨_, by first | rfl | (simp [errW_none, errW_some] <;> rfl) | (simp [*, errW_none, errW_some] <;> rfl), by (with_reducible repeat (first | apply Kd.R_alloc | apply Kd.R_drewN | apply Kd.R_drew)); exact HO111.out, by repeat (first | (with_reducible first | exact HB.out | apply below_alloc | apply pw_below_drewN | apply below_drew1) | exact HB.out)⟩
  · replace c4 := Bool.eq_false_iff.mpr c4
    subst c4
    have H1 : (some (([] : List ByteArray), false)) = some (r1, r2) := by rw [if_neg (show ¬ (false = true) by decide)] at H; exact H
    clear H
    have H := H1
    clear H1
    simp only [Option.some.injEq, Prod.mk.injEq] at H
    obtain ⟨rfl, rfl⟩ := H
    go_enter Try.func12, Try.ntmps12
    go_wp2_with (first | ((with_reducible refine gate_callee (f := 44) rfl ?_); refine goesL_ (some 8) rfl rfl Try.func44 (by kernel_rfl) rfl #[.slice A0 l0.length c0, .string a1] rfl (by (try simp only [List.map_toArray, List.map_cons, List.map_nil]); first | done | rfl | (simp only [List.length_drop, List.length_take]; rfl)) ?_; (with_reducible refine (impl_askedText.calls k _ _ l0 a1 false _ ?side1 ?side2 A3.out).mono ?_); (case side1 => repeat (first | exact HR0.out | (with_reducible refine Kd.C_alloc ?_ _) | (with_reducible refine Kd.C_drewN ?_ _) | (with_reducible refine Kd.C_drew ?_))); (case side2 => exact HC0.out); rintro e w8 ⟨rfl, hb⟩; refine ⟨_, rfl, ?_⟩; have n0_ := Aside0.mk (below_step (by repeat (first | (with_reducible first | exact HB.out | apply below_alloc | apply pw_below_drewN | apply below_drew1) | exact HB.out)) hb); clear HB; have HB := n0_; clear n0_; (try clear hb); (try clear hb2); (try clear hk); (try clear hi)))
    go_ret2
    exact ⟨_, by first | rfl | (simp [errW_none, errW_some] <;> rfl) | (simp [*, errW_none, errW_some] <;> rfl), by first | exact Kd.R_nil _ _ _ _ _ | exact Kd.N_nil _ _ _ _ _ | exact Kd.V_nil _ _ _ _ _ | exact Kd.Q_nil _ _ _ _ _ | exact Kd.S_nil _ _ _ _ _, by repeat (first | (with_reducible first | exact HB.out | apply below_alloc | apply pw_below_drewN | apply below_drew1) | exact HB.out)⟩

/-! ### spec_ShortLess: function 16 -/
def spec_ShortLess.f (a0 : ByteArray) (a1 : ByteArray) : Option (Bool) := if (a0.size : Int) < (a1.size : Int) then (some true) else (if (a0.size : Int) = (a1.size : Int) then (some (Op.bytesLess a0.toList a1.toList)) else (some false))
set_option maxHeartbeats 8000000 in
set_option maxRecDepth 100000 in
theorem spec_ShortLess.calls (a0 : ByteArray) (a1 : ByteArray) (r : Bool) (w : World) (h : spec_ShortLess.f a0 a1 = some r) :
    Calls Try.prog 16 #[.string a0, .string a1] w fun e w' => e = .returned (.bool r) ∧ Drawn0 w w' := by
  have H : (if (a0.size : Int) < (a1.size : Int) then (some true) else (if (a0.size : Int) = (a1.size : Int) then (some (Op.bytesLess a0.toList a1.toList)) else (some false))) = some r := h
  clear h
  by_cases c3 : (a0.size : Int) < (a1.size : Int)
  · rw [if_pos c3] at H
    have c3b0 : decide ((a0.size : Int) < (a1.size : Int)) = true := decide_eq_true c3
    have c3b1 : decide (a0.size < a1.size) = true := decide_eq_true (Int.ofNat_lt.mp c3)
    clear c3
    obtain rfl := Option.some.inj H
    go_enter Try.func16, Try.ntmps16
    go_wp2
    go_ret
    exact ⟨by first | rfl | (simp; done) | (simp [*]; done), by repeat (first | exact Drawn0.refl _ | apply Drawn0.step)⟩
  · rw [if_neg c3] at H
    have c3b0 : decide ((a0.size : Int) < (a1.size : Int)) = false := decide_eq_false c3
    have c3b1 : decide (a0.size < a1.size) = false := decide_eq_false (fun h => c3 (Int.ofNat_lt.mpr h))
    clear c3
    by_cases c4 : (a0.size : Int) = (a1.size : Int)
    · rw [if_pos c4] at H
      have c4b0 : ((a0.size : Int) == (a1.size : Int)) = true := beq_iff_eq.mpr c4
      have c4b1 : ((a0.size : Int) != (a1.size : Int)) = false := bne_eq_false_iff_eq.mpr c4
      have c4b2 : (a0.size == a1.size) = true := by first | simpa using c4 | (simp at c4 ⊢; omega)
      clear c4
      obtain rfl := Option.some.inj H
      go_enter Try.func16, Try.ntmps16
      go_wp2
      go_ret
      exact ⟨by first | rfl | (simp; done) | (simp [*]; done), by repeat (first | exact Drawn0.refl _ | apply Drawn0.step)⟩
    · rw [if_neg c4] at H
      have c4b0 : ((a0.size : Int) == (a1.size : Int)) = false := beq_eq_false_iff_ne.mpr c4
      have c4b1 : ((a0.size : Int) != (a1.size : Int)) = true := bne_iff_ne.mpr c4
      have c4b2 : (a0.size == a1.size) = false := by first | simpa using c4 | (simp at c4 ⊢; omega)
      obtain rfl := Option.some.inj H
      go_enter Try.func16, Try.ntmps16
      go_wp2
      go_ret
      exact ⟨by first | rfl | (simp; done) | (simp [*]; done), by repeat (first | exact Drawn0.refl _ | apply Drawn0.step)⟩

end Go.Proofs.Ytmigpfkjhdaijab.RF
