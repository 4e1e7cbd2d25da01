/- The program's CriticalPairs answers as the reference's, for every rules; its answer owns its memory. Conditions: none beyond the statement's own. -/
import Derived.Test.YtmigpfkjhdaijabRwC
import Derived.Test.YtmigpfkjhdaijabRw4
import Derived.Test.YtmigpfkjhdaijabCritHand
namespace Go.Proofs.Ytmigpfkjhdaijab.Pure
set_option linter.unusedVariables false
set_option linter.unusedSimpArgs false
open Go.RowKit Go.Proofs.Ytmigpfkjhdaijab.Rw Go.Proofs.Ytmigpfkjhdaijab.CP Go.Proofs.YtmigpfkjhdaijabW.PrintWords Go.Proofs.YtmigpfkjhdaijabW.PrintLast

def critOfV (l : List (S59)) : List (List ByteArray) × Bool := if goodL l = true then (critV l, true) else ([], false)
theorem spec_critOf (l : List (S59)) (hl : Small l) : Ev (fun k => spec_CriticalPairs.f k l) (critOfV l) := by
  unfold spec_CriticalPairs.f critOfV
  refine Ev.bind (spec_good l hl) ?_
  cases h1 : goodL l with
  | false => exact ev_neg Bool.false_ne_true (Ev.now _)
  | true => exact ev_pos rfl (Ev.bind (spec_crit l (goodL_fine h1)) (Ev.now _))
theorem impl_critOf (l : List (S59)) (hl : Small l) : Ev (fun k => impl_CriticalPairs.f k l) (critOfV l) := by
  unfold impl_CriticalPairs.f critOfV
  refine Ev.bind (impl_good l hl) ?_
  cases h1 : goodL l with
  | false => exact ev_neg Bool.false_ne_true (Ev.now _)
  | true => exact ev_pos rfl (Ev.bind (impl_crit l (goodL_fine h1)) (Ev.now _))
theorem critOf_two (l : List (S59)) : (critOfV l).1.length ≤ 200000 ∧ ∀ p ∈ (critOfV l).1, p.length = 2 := by
  unfold critOfV
  split
  · rename_i h
    refine ⟨critV_length (goodL_fine h), fun p hp => ?_⟩
    obtain ⟨x, y, e, _⟩ := critV_two (goodL_little h) hp
    rw [e]
    rfl
  · exact ⟨by simp, fun p hp => by simp at hp⟩
noncomputable def marksSS : Nat → List (List ByteArray) → List (List ByteArray)
  | _, [] => []
  | n, _ :: l => marked n 2 :: marksSS (n + 2) l
theorem marksSS_len : ∀ (l : List (List ByteArray)) (n : Nat), (marksSS n l).length = l.length
  | [], _ => rfl
  | _ :: l, n => by simp [marksSS, marksSS_len l (n + 2)]
theorem markOne (x : List ByteArray) (hx : x.length = 2) (n : Nat) (hn : n ≤ 9000000) : Ev (fun k => laws_markStringS.f k x n) (((n + 2 : Nat) : Int), marked n 2) := by
  have h := markS_l0 x (by omega) 2 [] 0 n rfl (by omega) (by omega) (by omega)
  exact h
theorem heldOne (n : Nat) (hn : n ≤ 9000000) : Ev (fun k => laws_heldStringS.f k (marked n 2) n) ((n + 2 : Nat) : Int) :=
  heldS_l0 (marked n 2) (by rw [marked_length]; omega) 2 0 n (by rw [marked_length]) (by omega) (by omega) rfl
theorem markSS_ev : ∀ (l : List (List ByteArray)) (n : Nat), (∀ x ∈ l, x.length = 2) → n + 2 * l.length ≤ 9000000 → Ev (fun k => markSS k l n) (((n + 2 * l.length : Nat) : Int), marksSS n l)
  | [], n, _, _ => Ev.now _
  | x :: l, n, hx, hn => by
    rw [List.length_cons] at hn
    have h := markSS_ev l (n + 2) (fun y hy => hx y (by simp [hy])) (by omega)
    have e : n + 2 + 2 * l.length = n + 2 * (x :: l).length := by rw [List.length_cons]; omega
    rw [e] at h
    exact Ev.bind (markOne x (hx x (by simp)) n (by omega)) (Ev.bind h (Ev.now _))
theorem heldSS_l0 (l : List (List ByteArray)) (hl : l.length ≤ 1000000) (d : Nat) : ∀ (rest : List (List ByteArray)) (i n : Nat), rest.length = d → i + d = l.length → n + 2 * d ≤ 9000000 → l.drop i = marksSS n rest →
    Ev (fun k => laws_heldStringSS.l0 k l n i) ((n + 2 * d : Nat) : Int) := by
  induction d with
  | zero => exact fun rest i n hr hd hn _ => ev_succ (ev_neg (by omega) (Ev.now _))
  | succ d ih =>
    intro rest i n hr hd hn he
    cases rest with
    | nil => simp at hr
    | cons x rest =>
      have hi2 : i < l.length := by omega
      rw [rd_drop l [] i hi2] at he
      simp only [marksSS] at he
      obtain ⟨h1, h2⟩ := List.cons.inj he
      have e : rd_L4 l (i : Int) = marked n 2 := h1
      refine ev_succ (ev_pos (by omega) (ev_pos (by omega) (Ev.bind (by rw [e]; exact heldOne n (by omega)) (ev_neg (by omega) ?_))))
      rw [inc (by omega) (by omega)]
      have h := ih rest (i + 1) (n + 2) (by simp at hr; omega) (by omega) (by omega) h2
      have e2 : n + 2 + 2 * d = n + 2 * (d + 1) := by omega
      rw [e2] at h
      exact h
theorem eqSS_l0 (l : List (List ByteArray)) (hn : l.length ≤ 1000000) (hx : ∀ x ∈ l, x.length = 2) (d : Nat) : ∀ (i : Nat), l.length - i = d → i ≤ l.length → Ev (fun k => laws_eqStringSS.l0 k l l i) true := by
  induction d with
  | zero => exact fun i hd hi => ev_succ (ev_neg (by omega) (Ev.now _))
  | succ d ih =>
    intro i hd hi
    have hm : rd_L4 l (i : Int) ∈ l := by
      unfold rd_L4
      exact rd_mem l _ _ (by omega)
    refine ev_succ (ev_pos (by omega) (ev_pos (by omega) (ev_pos (by omega) (Ev.bind (eqS_ev _ (by rw [hx _ hm]; omega)) (ev_pos rfl ?_)))))
    rw [inc (by omega) (by omega)]
    exact ih (i + 1) (by omega) (by omega)
theorem FnExactCriticalPairs (A0 : Option Addr) (c0 : Nat) (l0 : List S72) (w : World) (hr0 : Kd.C k72 w A0 l0.length l0) (hc0 : l0.length ≤ c0) (hl : l0.length ≤ 9223372036854775807 ∧ ∀ y ∈ l0, G72 y) :
    Calls Try.prog 4 #[.slice A0 l0.length c0] w fun e w' => e = .returned (.bool true) ∧ Below w.heap.size w w' := by
  obtain ⟨r, ⟨K1, h1⟩, hs⟩ := sz_ev l0 hl
  by_cases c : r < 0
  · exact laws_FnExactCriticalPairs.callsn A0 c0 l0 w K1 hr0 hc0 r (h1 K1 (Nat.le_refl _)) c
  · obtain ⟨hn, hx⟩ := hs (by omega)
    have hsm := small_cv hn hx
    have ht := critOf_two (l0.map cv)
    obtain ⟨K2, h2⟩ := to_ev l0 hn
    obtain ⟨K3, h3⟩ := spec_critOf _ hsm
    obtain ⟨K4, h4⟩ := impl_critOf _ hsm
    obtain ⟨K6, h6⟩ := eq_ev _ (map_len l0 hn)
    obtain ⟨x', K7, h7⟩ := markR_ev (l0.map cv) (by simp; omega)
    generalize critOfV (l0.map cv) = v at ht h3 h4
    obtain ⟨gs, t⟩ := v
    obtain ⟨hg, h2'⟩ := ht
    simp only at hg h2'
    obtain ⟨K5, h5⟩ := (show Ev (fun k => laws_eqStringSS.f k gs gs) true from ev_pos rfl (eqSS_l0 gs (by omega) h2' gs.length 0 (by omega) (by omega)))
    obtain ⟨K8, h8⟩ := markSS_ev gs 1 h2' (by omega)
    obtain ⟨K9, h9⟩ := heldSS_l0 (marksSS 1 gs) (by rw [marksSS_len]; omega) gs.length gs 0 1 rfl (by rw [marksSS_len]; omega) (by omega) rfl
    have hk : ∃ K, K1 ≤ K ∧ K2 ≤ K ∧ K3 ≤ K ∧ K4 ≤ K ∧ K5 ≤ K ∧ K6 ≤ K ∧ K7 ≤ K ∧ K8 ≤ K ∧ K9 ≤ K := ⟨K1 + K2 + K3 + K4 + K5 + K6 + K7 + K8 + K9, by omega⟩
    obtain ⟨K, k1, k2, k3, k4, k5, k6, k7, k8, k9⟩ := hk
    exact laws_FnExactCriticalPairs.calls0 K A0 c0 l0 w hr0 hc0 r _ x' gs gs (marksSS 1 gs) t _ _ (h1 K k1) c (h2 K k2) (h3 K k3) (h4 K k4) (h5 K k5) (h6 K k6) (h7 K k7) (by omega) (h8 K k8) (h9 K k9) (by omega)
end Go.Proofs.Ytmigpfkjhdaijab.Pure
