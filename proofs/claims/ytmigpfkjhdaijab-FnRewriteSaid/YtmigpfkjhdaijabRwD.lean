/- What the drawing of texts and rules answers: something, and nothing great. Plain Lean. -/
import Derived.Test.YtmigpfkjhdaijabRw1
import Derived.Laws.BitsLemmas
import Derived.Lib.EndianBits
namespace Go.Proofs.Ytmigpfkjhdaijab.Rw
set_option linter.unusedVariables false
set_option linter.unusedSimpArgs false
open Go.RowKit Go.Proofs.Ytmigpfkjhdaijab.RF Go.Proofs.YtmigpfkjhdaijabW.PrintWords Go.Proofs.YtmigpfkjhdaijabW.PrintLast

/-- The bytes that are drawn from. -/
def Bytes (l : List Int) : Prop := l.length ≤ 1048576 ∧ ∀ y ∈ l, 0 ≤ y ∧ y ≤ 255
theorem rd_byte {l : List Int} (hl : Bytes l) (i : Int) : 0 ≤ rd l i ∧ rd l i ≤ 255 := by
  unfold rd
  by_cases h : i.toNat < l.length
  · rw [List.getD_eq_getElem?_getD, List.getElem?_eq_getElem h]
    exact hl.2 _ (List.getElem_mem h)
  · rw [List.getD_eq_getElem?_getD, List.getElem?_eq_none (by omega)]
    exact ⟨by simp, by simp⟩
theorem wrap_small {x : Int} (h0 : 0 ≤ x) (h1 : x ≤ 1000000) : wrap64 x = x := by
  unfold wrap64
  omega
theorem u64_lt (x : Int) : 0 ≤ IntKind.u64.wrap x ∧ IntKind.u64.wrap x < 18446744073709551616 := by
  rw [IntKind.wrap_u64]
  omega
theorem and255 (x : Int) : 0 ≤ wrap64 (Go.bits .and .u64 (IntKind.u64.wrap x / 1099511627776) 255) ∧ wrap64 (Go.bits .and .u64 (IntKind.u64.wrap x / 1099511627776) 255) ≤ 255 := by
  have hx := u64_lt x
  have h := bits_mask .u64 64 (by decide) wraps_u64 8 (by decide) (IntKind.u64.wrap x / 1099511627776) (by omega) (by omega)
  have e : Go.bits .and .u64 (IntKind.u64.wrap x / 1099511627776) 255 = IntKind.u64.wrap x / 1099511627776 % 256 := by simpa using h
  rw [e, wrap_small (by omega) (by omega)]
  omega
theorem next_ (l : List Int) (hl : Bytes l) (p q : Int) (h0 : 0 ≤ p) (h1 : p ≤ 1000000000) : ∃ v q', spec_l1Cur_next.f l p q = some (v, p + 1, q') ∧ 0 ≤ v ∧ v ≤ 255 := by
  unfold spec_l1Cur_next.f
  rw [inc h0 (by omega)]
  have hb := rd_byte hl p
  by_cases c : p < (l.length : Int)
  · rw [if_pos c, if_pos h0]
    by_cases c2 : p + 1 ≤ (l.length : Int)
    · rw [if_pos c2]
      exact ⟨_, _, rfl, by rw [wrap_small hb.1 (by omega)]; exact hb⟩
    · rw [if_neg c2]
      exact ⟨_, _, rfl, and255 _⟩
  · rw [if_neg c]
    by_cases c2 : p + 1 ≤ (l.length : Int)
    · rw [if_pos c2]
      exact ⟨_, _, rfl, by omega, by omega⟩
    · rw [if_neg c2]
      exact ⟨_, _, rfl, and255 _⟩
theorem pick_ (l : List Int) (hl : Bytes l) (p q n : Int) (h0 : 0 ≤ p) (h1 : p ≤ 1000000000) (hn : n ≤ 200) : ∃ v p' q', spec_l1Cur_pick.f l p q n = some (v, p', q') ∧ 0 ≤ v ∧ (1 ≤ n → v < n) ∧ p ≤ p' ∧ p' ≤ p + 1 := by
  unfold spec_l1Cur_pick.f
  by_cases c : n ≤ 1
  · rw [if_pos c]
    exact ⟨_, _, _, rfl, by omega, by omega, by omega, by omega⟩
  · rw [if_neg c]
    obtain ⟨v, q', e, hv, hv2⟩ := next_ l hl p q h0 h1
    rw [e]
    simp only [Option.bind_some]
    rw [if_neg (by omega), if_neg (by omega)]
    exact ⟨_, _, _, rfl, Int.tmod_nonneg _ hv, fun _ => Int.tmod_lt_of_pos _ (by omega), by omega, by omega⟩
theorem one_ (l : List Int) (hl : Bytes l) (p q n : Int) (h0 : 0 ≤ p) (h1 : p ≤ 1000000000) (hn : n ≤ 200) : ∃ v p' q', spec_l1Cur_one.f l p q n = some (v, p', q') ∧ p ≤ p' ∧ p' ≤ p + 1 := by
  obtain ⟨v, p', q', e, _, _, h2, h3⟩ := pick_ l hl p q n h0 h1 hn
  unfold spec_l1Cur_one.f
  rw [e]
  exact ⟨_, _, _, rfl, h2, h3⟩
theorem of_ (l : List Int) (hl : Bytes l) (p q : Int) (ts : List ByteArray) (h0 : 0 ≤ p) (h1 : p ≤ 1000000000) (ht : 1 ≤ ts.length) (ht2 : ts.length ≤ 200) : ∃ v p' q', spec_l1Cur_of.f l p q ts = some (v, p', q') ∧ v ∈ ts ∧ p ≤ p' ∧ p' ≤ p + 1 := by
  obtain ⟨v, p', q', e, hv, hv2, h2, h3⟩ := pick_ l hl p q (ts.length : Int) h0 h1 (by omega)
  unfold spec_l1Cur_of.f
  rw [e]
  simp only [Option.bind_some]
  have := hv2 (by omega)
  rw [if_pos hv, if_pos this]
  refine ⟨_, _, _, rfl, ?_, h2, h3⟩
  unfold rdOf
  rw [List.getD_eq_getElem?_getD, List.getElem?_eq_getElem (show v.toNat < ts.length by omega)]
  exact List.getElem_mem _
theorem ab_l0 (l : List Int) (hl : Bytes l) (d : Nat) : ∀ (s : ByteArray) (p q : Int), 0 ≤ p → p + (d : Int) ≤ 1000000000 → s.size + d ≤ 1000000 →
    ∃ t p' q', Ev (fun k => spec_l1Cur_abText.l0 k s (d : Int) l p q) (t, p', q') ∧ t.size = s.size + d ∧ p ≤ p' ∧ p' ≤ p + (d : Int) := by
  induction d with
  | zero =>
    intro s p q h0 h1 hs
    exact ⟨s, p, q, ev_succ (ev_neg (by omega) (Ev.now _)), rfl, by omega, by omega⟩
  | succ d ih =>
    intro s p q h0 h1 hs
    obtain ⟨v, p1, q1, e, hv, h2, h3⟩ := of_ l hl p q [(⟨#[97]⟩ : ByteArray), (⟨#[98]⟩ : ByteArray), (⟨#[97]⟩ : ByteArray), (⟨#[98]⟩ : ByteArray), (⟨#[99]⟩ : ByteArray)] h0 (by omega) (by simp) (by simp)
    have hv1 : v.size = 1 := by
      simp only [List.mem_cons, List.not_mem_nil, or_false] at hv
      rcases hv with rfl | rfl | rfl | rfl | rfl <;> rfl
    obtain ⟨t, p', q', ht, hz, h4, h5⟩ := ih (s ++ v) p1 q1 (by omega) (by omega) (by rw [ByteArray.size_append]; omega)
    rw [ByteArray.size_append] at hz
    refine ⟨t, p', q', ev_succ (ev_pos (by omega) (ev_bindc e (ev_pos (show s.size + v.size ≤ 9223372036854775807 by omega) ?_))), by omega, by omega, by omega⟩
    have hw : wrap64 (((d + 1 : Nat) : Int) - 1) = (d : Int) := by
      rw [show ((d + 1 : Nat) : Int) - 1 = (d : Int) by omega]
      exact wrap_small (by omega) (by omega)
    rw [hw]
    exact ht
theorem ab_ (l : List Int) (hl : Bytes l) (p q : Int) (m : Nat) (h0 : 0 ≤ p) (h1 : p ≤ 100000000) (hm : m ≤ 100) : ∃ t p' q', Ev (fun k => spec_l1Cur_abText.f k l p q m) (t, p', q') ∧ t.size ≤ m ∧ p ≤ p' ∧ p' ≤ p + 200 := by
  obtain ⟨v, p1, q1, e, hv, hv2, h2, h3⟩ := pick_ l hl p q (m + 1 : Nat) h0 (by omega) (by omega)
  have := hv2 (by omega)
  obtain ⟨n, rfl⟩ : ∃ n : Nat, v = n := ⟨v.toNat, by omega⟩
  obtain ⟨t, p', q', ht, hz, h4, h5⟩ := ab_l0 l hl n ByteArray.empty p1 q1 (by omega) (by omega) (by simp; omega)
  refine ⟨t, p', q', ?_, by simp at hz; omega, by omega, by omega⟩
  simp only [spec_l1Cur_abText.f]
  rw [wrap_small (x := (m : Int) + 1) (by omega) (by omega)]
  exact ev_bindc e ht
def OKL (L : List S59) : Prop := ∀ r ∈ L, r.f0.size ≤ 10 ∧ r.f1.size ≤ 10
theorem OKL.app {L : List S59} (h : OKL L) {a b : ByteArray} (ha : a.size ≤ 10) (hb : b.size ≤ 10) : OKL (L ++ [⟨a, b⟩]) := fun r hr => by
  rcases List.mem_append.mp hr with hr | hr
  · exact h r hr
  · rw [List.mem_singleton.mp hr]
    exact ⟨ha, hb⟩
def Drawn (n : Nat) (p : Int) (L : List S59) (p' : Int) : Prop := OKL L ∧ L.length ≤ n ∧ p ≤ p' ∧ p' ≤ p + 1000 * (n + 1)
theorem rules_end (l : List Int) (hl : Bytes l) (k : Nat) (L : List S59) (h : OKL L) (p q : Int) (h0 : 0 ≤ p) (h1 : p ≤ 1000000) :
    ∃ r p' q', spec_l1Cur_rules.l0 (k + 1) L 0 l p q = some (r, p', q') ∧ OKL r ∧ r.length = L.length ∧ p ≤ p' ∧ p' ≤ p + 2 := by
  simp only [spec_l1Cur_rules.l0]
  rw [if_neg (by omega)]
  by_cases c : (L.length : Int) > 0
  · rw [if_pos c]
    obtain ⟨v, p1, q1, e, h2, h3⟩ := one_ l hl p q 30 h0 (by omega) (by omega)
    rw [e]
    simp only [Option.bind_some]
    by_cases c2 : v = true
    · rw [if_pos c2]
      obtain ⟨t, p2, q2, e2, ht, h4, h5⟩ := of_ l hl p1 q1 [(⟨#[101]⟩ : ByteArray), (⟨#[97, 97, 97, 97, 97, 97, 97]⟩ : ByteArray)] (by omega) (by omega) (by simp) (by simp)
      rw [e2]
      simp only [Option.bind_some]
      rw [if_pos c]
      have hz : t.size ≤ 10 := by
        simp only [List.mem_cons, List.not_mem_nil, or_false] at ht
        rcases ht with rfl | rfl <;> decide
      refine ⟨_, _, _, rfl, fun r hr => ?_, by simp, by omega, by omega⟩
      rcases List.mem_or_eq_of_mem_set hr with hr | rfl
      · exact h r hr
      · refine ⟨?_, ?_⟩
        · have := h (rd_T59 L 0) (by
            unfold rd_T59
            exact rd_mem L _ 0 (by omega))
          exact this.1
        · exact hz
    · rw [if_neg c2]
      exact ⟨_, _, _, rfl, h, rfl, by omega, by omega⟩
  · rw [if_neg c]
    exact ⟨_, _, _, rfl, h, rfl, by omega, by omega⟩
theorem rules_l0 (l : List Int) (hl : Bytes l) (d : Nat) : ∀ (L : List S59) (p q : Int), OKL L → 0 ≤ p → p + 1000 * (d : Int) ≤ 100000 → L.length + d ≤ 100 →
    ∃ r p' q', Ev (fun k => spec_l1Cur_rules.l0 k L (d : Int) l p q) (r, p', q') ∧ OKL r ∧ r.length ≤ L.length + d ∧ p ≤ p' ∧ p' ≤ p + 1000 * (d : Int) + 2 := by
  induction d with
  | zero =>
    intro L p q h h0 h1 hn
    obtain ⟨r, p', q', e, h2, h3, h4, h5⟩ := rules_end l hl 0 L h p q h0 (by omega)
    refine ⟨r, p', q', ev_succ ⟨0, fun k _ => ?_⟩, h2, by omega, h4, by omega⟩
    obtain ⟨r2, p2, q2, e2, _⟩ := rules_end l hl k L h p q h0 (by omega)
    have e' : spec_l1Cur_rules.l0 (k + 1) L 0 l p q = spec_l1Cur_rules.l0 (0 + 1) L 0 l p q := by simp only [spec_l1Cur_rules.l0]; rfl
    exact e'.trans e
  | succ d ih =>
    intro L p q h h0 h1 hn
    obtain ⟨a, p1, q1, ea, ha, h2, h3⟩ := ab_ l hl p q 3 h0 (by omega) (by omega)
    obtain ⟨b, p2, q2, eb, hb, h4, h5⟩ := ab_ l hl p1 q1 3 (by omega) (by omega) (by omega)
    have hw : wrap64 (((d + 1 : Nat) : Int) - 1) = (d : Int) := by
      rw [show ((d + 1 : Nat) : Int) - 1 = (d : Int) by omega]
      exact wrap_small (by omega) (by omega)
    -- either list, then the rest
    have go1 : ∀ (x y : ByteArray), x.size ≤ 10 → y.size ≤ 10 → ∀ (p3 q3 : Int), 0 ≤ p3 → p ≤ p3 → p3 ≤ p + 500 →
        ∃ r p' q', Ev (fun k => if x.toList = y.toList then ((spec_l1Cur_one.f l p3 q3 12).bind fun bt => if bt.1 = true then (if L.length < 4398046511104 then spec_l1Cur_rules.l0 k (L ++ [⟨x, y⟩]) (wrap64 (((d + 1 : Nat) : Int) - 1)) l bt.2.1 bt.2.2 else none) else spec_l1Cur_rules.l0 k L (wrap64 (((d + 1 : Nat) : Int) - 1)) l bt.2.1 bt.2.2) else (if L.length < 4398046511104 then spec_l1Cur_rules.l0 k (L ++ [⟨x, y⟩]) (wrap64 (((d + 1 : Nat) : Int) - 1)) l p3 q3 else none)) (r, p', q') ∧ OKL r ∧ r.length ≤ L.length + (d + 1) ∧ p ≤ p' ∧ p' ≤ p + 1000 * ((d + 1 : Nat) : Int) + 2 := by
      intro x y hx hy p3 q3 g0 g1 g2
      rw [hw]
      by_cases c : x.toList = y.toList
      · obtain ⟨v, p4, q4, e4, g3, g4⟩ := one_ l hl p3 q3 12 g0 (by omega) (by omega)
        by_cases c2 : v = true
        · obtain ⟨r, p', q', er, k1, k2, k3, k4⟩ := ih (L ++ [⟨x, y⟩]) p4 q4 (h.app hx hy) (by omega) (by omega) (by simp; omega)
          refine ⟨r, p', q', ev_pos c (ev_bindc e4 (ev_pos c2 (ev_pos (by omega) er))), k1, by simp at k2; omega, by omega, by omega⟩
        · obtain ⟨r, p', q', er, k1, k2, k3, k4⟩ := ih L p4 q4 h (by omega) (by omega) (by omega)
          exact ⟨r, p', q', ev_pos c (ev_bindc e4 (ev_neg c2 er)), k1, by omega, by omega, by omega⟩
      · obtain ⟨r, p', q', er, k1, k2, k3, k4⟩ := ih (L ++ [⟨x, y⟩]) p3 q3 (h.app hx hy) (by omega) (by omega) (by simp; omega)
        exact ⟨r, p', q', ev_neg c (ev_pos (by omega) er), k1, by simp at k2; omega, by omega, by omega⟩
    have goj : ∀ (z : Bool) (p3 q3 : Int), 0 ≤ p3 → p ≤ p3 → p3 ≤ p + 500 → ∃ r p' q', Ev (fun k => spec_l1Cur_rules.j1 k L ((d + 1 : Nat) : Int) z l p3 q3 a b) (r, p', q') ∧ OKL r ∧ r.length ≤ L.length + (d + 1) ∧ p ≤ p' ∧ p' ≤ p + 1000 * ((d + 1 : Nat) : Int) + 2 := by
      intro z p3 q3 g0 g1 g2
      by_cases c : z = true
      · obtain ⟨r, p', q', er, k⟩ := go1 b a (by omega) (by omega) p3 q3 g0 g1 g2
        refine ⟨r, p', q', ev_succ ?_, k⟩
        simp only [spec_l1Cur_rules.j1]
        exact ev_pos c er
      · obtain ⟨r, p', q', er, k⟩ := go1 a b (by omega) (by omega) p3 q3 g0 g1 g2
        refine ⟨r, p', q', ev_succ ?_, k⟩
        simp only [spec_l1Cur_rules.j1]
        exact ev_neg c er
    by_cases c : less b a = true
    · obtain ⟨r, p', q', er, k⟩ := goj false p2 q2 (by omega) (by omega) (by omega)
      refine ⟨r, p', q', ev_succ ?_, k⟩
      simp only [spec_l1Cur_rules.l0]
      exact ev_pos (by omega) (Ev.bind ea (Ev.bind eb (ev_bindc (spec_less _ _) (ev_pos c er))))
    · obtain ⟨v, p4, q4, e4, g3, g4⟩ := one_ l hl p2 q2 12 (by omega) (by omega) (by omega)
      obtain ⟨r, p', q', er, k⟩ := goj (!v) p4 q4 (by omega) (by omega) (by omega)
      refine ⟨r, p', q', ev_succ ?_, k⟩
      simp only [spec_l1Cur_rules.l0]
      exact ev_pos (by omega) (Ev.bind ea (Ev.bind eb (ev_bindc (spec_less _ _) (ev_neg c (ev_bindc e4 er)))))
theorem rules_ (l : List Int) (hl : Bytes l) : ∃ r p' q', Ev (fun k => spec_l1Cur_rules.f k l 0 0) (r, p', q') ∧ OKL r ∧ r.length ≤ 10 ∧ 0 ≤ p' ∧ p' ≤ 10000 := by
  obtain ⟨v, p1, q1, e, hv, hv2, h2, h3⟩ := pick_ l hl 0 0 6 (by omega) (by omega) (by omega)
  simp only [spec_l1Cur_rules.f]
  by_cases c : v = 0
  · refine ⟨_, p1, q1, ev_bindc e (ev_pos c (Ev.now _)), ?_, by simp, by omega, by omega⟩
    intro r hr
    simp only [List.mem_cons, List.not_mem_nil, or_false] at hr
    rcases hr with rfl | rfl | rfl <;> decide
  · by_cases c1 : v = 1
    · refine ⟨_, p1, q1, ev_bindc e (ev_neg c (ev_pos c1 (Ev.now _))), ?_, by simp, by omega, by omega⟩
      intro r hr
      simp only [List.mem_cons, List.not_mem_nil, or_false] at hr
      rcases hr with rfl | rfl | rfl <;> decide
    · obtain ⟨m, p2, q2, e2, hm, hm2, h4, h5⟩ := pick_ l hl p1 q1 4 (by omega) (by omega) (by omega)
      have := hm2 (by omega)
      obtain ⟨n, rfl⟩ : ∃ n : Nat, m = n := ⟨m.toNat, by omega⟩
      obtain ⟨r, p', q', er, k1, k2, k3, k4⟩ := rules_l0 l hl n [] p2 q2 (fun r hr => by simp at hr) (by omega) (by omega) (by simp; omega)
      exact ⟨r, p', q', ev_bindc e (ev_neg c (ev_neg c1 (ev_bindc e2 er))), k1, by simp at k2; omega, by omega, by omega⟩
theorem word_ (l : List Int) (hl : Bytes l) (p q : Int) (h0 : 0 ≤ p) (h1 : p ≤ 1000000) : ∃ t p' q', Ev (fun k => spec_l1Cur_word15.f k l p q) (t, p', q') ∧ t.size ≤ 100 ∧ p ≤ p' ∧ p' ≤ p + 1000 := by
  obtain ⟨a, p1, q1, ea, ha, h2, h3⟩ := ab_ l hl p q 12 h0 (by omega) (by omega)
  obtain ⟨v, p2, q2, e, h4, h5⟩ := one_ l hl p1 q1 20 (by omega) (by omega) (by omega)
  by_cases c : v = true
  · obtain ⟨t, p3, q3, e3, ht, h6, h7⟩ := of_ l hl p2 q2 [(⟨#[101]⟩ : ByteArray), (⟨#[100, 100, 100, 100, 100, 100, 100, 100, 100, 100, 100, 100, 100, 100, 100, 100, 100, 100, 100, 100, 100, 100, 100, 100, 100, 100, 100, 100, 100, 100, 100, 100, 100, 100, 100, 100, 100, 100, 100, 100]⟩ : ByteArray)] (by omega) (by omega) (by simp) (by simp)
    have hz : t.size ≤ 40 := by
      simp only [List.mem_cons, List.not_mem_nil, or_false] at ht
      rcases ht with rfl | rfl <;> decide
    refine ⟨_, _, _, Ev.bind ea (ev_bindc e (ev_pos c (ev_bindc e3 (ev_pos (show a.size + t.size ≤ 9223372036854775807 by omega) (Ev.now _))))), (show (a ++ t).size ≤ 100 by rw [ByteArray.size_append]; omega), (show p ≤ p3 by omega), (show p3 ≤ p + 1000 by omega)⟩
  · exact ⟨_, _, _, Ev.bind ea (ev_bindc e (ev_neg c (Ev.now _))), (show a.size ≤ 100 by omega), (show p ≤ p2 by omega), (show p2 ≤ p + 1000 by omega)⟩
theorem small_of {L : List S59} (h : OKL L) (hn : L.length ≤ 10) : Small L := ⟨by omega, fun x hx => by have := h x hx; omega⟩
end Go.Proofs.Ytmigpfkjhdaijab.Rw
