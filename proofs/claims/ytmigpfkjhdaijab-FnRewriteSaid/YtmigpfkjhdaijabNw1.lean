/- Newman's lemma and the lemma of critical pairs, for rules over texts of bytes: where the critical pairs come to one end, all that comes of one text does. Plain Lean: lists alone. -/
import Derived.Test.YtmigpfkjhdaijabRwL
namespace Go.Proofs.Ytmigpfkjhdaijab.Nw
set_option linter.unusedVariables false
set_option linter.unusedSimpArgs false
abbrev T := List UInt8
variable {R : T → T → Prop}
/-- One rule at one place. -/
def St (R : T → T → Prop) (s t : T) : Prop := ∃ p a b q, R a b ∧ s = p ++ (a ++ q) ∧ t = p ++ (b ++ q)
inductive Rs (R : T → T → Prop) : T → T → Prop
  | refl (s : T) : Rs R s s
  | head {s t u : T} (h : St R s t) (k : Rs R t u) : Rs R s u
theorem Rs.one {s t : T} (h : St R s t) : Rs R s t := .head h (.refl t)
theorem Rs.trans {s t u : T} (h : Rs R s t) (k : Rs R t u) : Rs R s u := by
  induction h with
  | refl s => exact k
  | head h _ ih => exact .head h (ih k)
def Jn (R : T → T → Prop) (s t : T) : Prop := ∃ u, Rs R s u ∧ Rs R t u
theorem Jn.symm {s t : T} : Jn R s t → Jn R t s := fun ⟨u, h, k⟩ => ⟨u, k, h⟩
theorem Jn.refl (s : T) : Jn R s s := ⟨s, .refl s, .refl s⟩
theorem St.ctx {s t : T} (p q : T) (h : St R s t) : St R (p ++ (s ++ q)) (p ++ (t ++ q)) := by
  obtain ⟨x, a, b, y, hr, rfl, rfl⟩ := h
  exact ⟨p ++ x, a, b, y ++ q, hr, by simp [List.append_assoc], by simp [List.append_assoc]⟩
theorem Rs.ctx {s t : T} (p q : T) (h : Rs R s t) : Rs R (p ++ (s ++ q)) (p ++ (t ++ q)) := by
  induction h with
  | refl s => exact .refl _
  | head h _ ih => exact .head (h.ctx p q) ih
theorem Jn.ctx {s t : T} (p q : T) : Jn R s t → Jn R (p ++ (s ++ q)) (p ++ (t ++ q)) := fun ⟨u, h, k⟩ => ⟨p ++ (u ++ q), h.ctx p q, k.ctx p q⟩
/-- The critical pairs come together. -/
structure Crit (R : T → T → Prop) : Prop where
  over : ∀ a b c d x y z, R a b → R c d → a = x ++ y → c = y ++ z → x ≠ [] → y ≠ [] → z ≠ [] → Jn R (b ++ z) (x ++ d)
  within : ∀ a b c d x z, R a b → R c d → a = x ++ (c ++ z) → Jn R b (x ++ (d ++ z))
theorem local_first (H : Crit R) {p a b q m c d w : T} (hr : R a b) (hs : R c d) (h : a ++ q = m ++ (c ++ w)) : Jn R (p ++ (b ++ q)) ((p ++ m) ++ (d ++ w)) := by
  have apart : ∀ k, m = a ++ k → q = k ++ (c ++ w) → Jn R (p ++ (b ++ q)) ((p ++ m) ++ (d ++ w)) := by
    rintro k rfl rfl
    refine ⟨p ++ (b ++ (k ++ (d ++ w))), .one ⟨p ++ (b ++ k), c, d, w, hs, by simp [List.append_assoc], by simp [List.append_assoc]⟩, .one ⟨p, a, b, k ++ (d ++ w), hr, by simp [List.append_assoc], rfl⟩⟩
  rcases List.append_eq_append_iff.1 h with ⟨k, hm, hq⟩ | ⟨k, ha, hk⟩
  · exact apart k hm hq
  · rcases List.append_eq_append_iff.1 hk with ⟨j, hj, hw⟩ | ⟨j, hc, hq⟩
    · -- k = c ++ j : c lies in a
      subst hj hw
      have := (H.within a b c d m j hr hs ha).ctx p q
      simpa [List.append_assoc] using this
    · -- c = k ++ j
      by_cases k0 : k = []
      · subst k0
        simp only [List.append_nil] at ha
        simp only [List.nil_append] at hc
        refine apart [] (by simp [ha]) ?_
        simp [hc, hq]
      · by_cases m0 : m = []
        · subst m0
          simp only [List.nil_append] at ha
          subst ha
          have := ((H.within c d a b [] j hs hr (by simpa using hc)).symm).ctx p w
          subst hq
          simpa [List.append_assoc] using this
        · by_cases j0 : j = []
          · subst j0
            simp only [List.append_nil] at hc
            subst hc
            have := (H.within a b c d m [] hr hs (by simpa using ha)).ctx p w
            simp only [List.nil_append] at hq
            subst hq
            simpa [List.append_assoc] using this
          · have := (H.over a b c d m k j hr hs ha hc m0 k0 j0).ctx p w
            subst hq
            simpa [List.append_assoc] using this
theorem locally (H : Crit R) {s t u : T} (h : St R s t) (k : St R s u) : Jn R t u := by
  obtain ⟨p, a, b, q, hr, rfl, rfl⟩ := h
  obtain ⟨p', c, d, w, hs, e, rfl⟩ := k
  rcases List.append_eq_append_iff.1 e with ⟨m, hp, h⟩ | ⟨m, hp, h⟩
  · subst hp
    exact local_first H hr hs h
  · subst hp
    exact (local_first H hs hr h).symm
/-- Newman. -/
theorem newman (wf : WellFounded fun t s => St R s t) (H : Crit R) (s : T) : ∀ t u, Rs R s t → Rs R s u → Jn R t u := by
  induction s using wf.induction with
  | _ s ih =>
    intro t u h k
    cases h with
    | refl => exact ⟨u, k, .refl u⟩
    | @head _ t1 _ h1 h2 =>
      cases k with
      | refl => exact ⟨t, .refl t, .head h1 h2⟩
      | @head _ u1 _ k1 k2 =>
        obtain ⟨v, hv1, hv2⟩ := locally H h1 k1
        obtain ⟨x, hx1, hx2⟩ := ih t1 h1 t v h2 hv1
        obtain ⟨y, hy1, hy2⟩ := ih u1 k1 x u (hv2.trans hx2) k2
        exact ⟨y, hx1.trans hy1, hy2⟩
def Nf (R : T → T → Prop) (s : T) : Prop := ∀ t, ¬ St R s t
theorem Rs.nf {s t : T} (h : Rs R s t) (hn : Nf R s) : s = t := by
  cases h with
  | refl => rfl
  | head h _ => exact absurd h (hn _)
theorem unique (wf : WellFounded fun t s => St R s t) (H : Crit R) {s t u : T} (h : Rs R s t) (k : Rs R s u) (ht : Nf R t) (hu : Nf R u) : t = u := by
  obtain ⟨v, h1, h2⟩ := newman wf H s t u h k
  rw [h1.nf ht, h2.nf hu]
/-! ### what is less, ends -/
def val : T → Nat
  | [] => 0
  | x :: l => x.toNat * 256 ^ l.length + val l
theorem val_lt : ∀ l : T, val l < 256 ^ l.length
  | [] => by simp [val]
  | x :: l => by
    have h := val_lt l
    have hx := x.toNat_lt
    simp only [val, List.length_cons, Nat.pow_succ]
    have h2 : x.toNat * 256 ^ l.length ≤ 255 * 256 ^ l.length := Nat.mul_le_mul_right _ (by omega)
    omega
theorem val_less : ∀ a b : T, a.length = b.length → Go.Op.bytesLess a b = true → val a < val b
  | [], [], _, h => by simp [Go.Op.bytesLess] at h
  | x :: a, y :: b, hl, h => by
    have hl : a.length = b.length := by simpa using hl
    simp only [Go.Op.bytesLess, Bool.or_eq_true, Bool.and_eq_true, decide_eq_true_eq, beq_iff_eq] at h
    simp only [val]
    rw [hl]
    rcases h with h | h
    · have h1 := val_lt a
      rw [hl] at h1
      have h2 : x.toNat + 1 ≤ y.toNat := UInt8.lt_iff_toNat_lt.1 h
      have h3 := Nat.mul_le_mul_right (256 ^ b.length) h2
      rw [Nat.add_mul] at h3
      omega
    · rw [h.1]
      have := val_less a b hl h.2
      omega
  | [], _ :: _, hl, _ => by simp at hl
  | _ :: _, [], hl, _ => by simp at hl
theorem ends (h : ∀ s t, St R s t → t.length < s.length ∨ t.length = s.length ∧ Go.Op.bytesLess t s = true) : WellFounded fun t s => St R s t := by
  refine Subrelation.wf (r := InvImage (Prod.Lex (fun a b : Nat => a < b) (fun a b : Nat => a < b)) fun s : T => (s.length, val s)) ?_ (InvImage.wf _ (Prod.lex Nat.lt_wfRel Nat.lt_wfRel).wf)
  · intro t s hs
    rcases h s t hs with h | ⟨h, k⟩
    · exact Prod.Lex.left _ _ h
    · have := val_less t s h k
      show Prod.Lex _ _ (t.length, val t) (s.length, val s)
      rw [h]
      exact Prod.Lex.right _ this
end Go.Proofs.Ytmigpfkjhdaijab.Nw
