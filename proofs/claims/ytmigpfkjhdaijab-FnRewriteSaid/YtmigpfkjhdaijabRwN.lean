/- The rewriting to the end: what the reference's and the program's printed forms answer. Plain Lean. -/
import Derived.Test.YtmigpfkjhdaijabRw3
namespace Go.Proofs.Ytmigpfkjhdaijab.Rw
set_option linter.unusedVariables false
set_option linter.unusedSimpArgs false
open Go.RowKit Go.Proofs.Ytmigpfkjhdaijab.RF Go.Proofs.YtmigpfkjhdaijabW.PrintWords Go.Proofs.YtmigpfkjhdaijabW.PrintLast

/-! ### to the end -/
def pick (last : Bool) (nx : List ByteArray) : ByteArray := if last = true then rdOf ByteArray.empty nx (wrap64 ((nx.length : Int) - 1)) else rdOf ByteArray.empty nx 0
theorem pick_mem {last : Bool} {nx : List ByteArray} (h0 : nx ≠ []) (hn : nx.length ≤ 1000000) : pick last nx ∈ nx := by
  have hp : 0 < nx.length := List.length_pos_iff.2 h0
  unfold pick rdOf
  split
  · rw [wrap_id (by omega) (by omega)]
    exact rd_mem nx _ _ (by omega)
  · exact rd_mem nx _ _ (by simpa using hp)
/-- As long as some rule can be used: the text, how often, and whether that is at most d - 1 times. -/
def normV (l : List (S59)) (last : Bool) : Nat → ByteArray → Int → ByteArray × Int × Bool
  | 0, _, _ => ((⟨#[]⟩ : ByteArray), 0, false)
  | d + 1, s, n => if onceL l s = [] then (s, n, true) else normV l last d (pick last (onceL l s)) (n + 1)
theorem spec_norm_l0 (l : List (S59)) (hl : Fine l) (last : Bool) (d : Nat) : ∀ (n : Nat) (s : ByteArray), s.size ≤ 1000 → 401 - n = d → n ≤ 401 → Ev (fun k => spec_l15Normal.l0 k l s last n) (normV l last d s n) := by
  induction d with
  | zero => exact fun n s hs hd hn => ev_succ (ev_neg (by omega) (Ev.now _))
  | succ d ih =>
    intro n s hs hd hn
    refine ev_succ (ev_pos (by omega) (Ev.bind (spec_once l s hs hl) ?_))
    have hlen := once_len hl hs
    unfold normV
    by_cases c : onceL l s = []
    · rw [if_pos c]
      exact ev_pos (by rw [c]; rfl) (Ev.now _)
    · rw [if_neg c]
      have hp : 0 < (onceL l s).length := List.length_pos_iff.2 c
      have hm := onceL_size hl (pick_mem (last := last) c hlen)
      have h := ih (n + 1) (pick last (onceL l s)) (by omega) (by omega) (by omega)
      refine ev_neg (by omega) (ev_pos (by omega) ?_)
      unfold pick at h ⊢
      by_cases cl : last = true
      · rw [if_pos cl] at h ⊢
        refine ev_pos cl (ev_pos ?_ (ev_pos ?_ ?_))
        · rw [wrap_id (by omega) (by omega)]; omega
        · rw [wrap_id (by omega) (by omega)]; omega
        · rw [inc (by omega) (by omega)]
          exact h
      · rw [if_neg cl] at h ⊢
        refine ev_neg cl ?_
        rw [inc (by omega) (by omega)]
        exact h
theorem impl_norm_l0 (l : List (S59)) (hl : Fine l) (last : Bool) (d : Nat) : ∀ (n : Nat) (s : ByteArray), s.size ≤ 1000 → 400 - n = d → n ≤ 400 → Ev (fun k => impl_normal.l0 k l s last n) (normV l last (d + 1) s n) := by
  induction d with
  | zero =>
    intro n s hs hd hn
    obtain rfl : n = 400 := by omega
    refine ev_succ (ev_bindc (impl_once_ l s hs hl) ?_)
    unfold normV
    by_cases c : onceL l s = []
    · rw [if_pos c]
      exact ev_pos (by rw [c]; rfl) (Ev.now _)
    · rw [if_neg c]
      have hp : 0 < (onceL l s).length := List.length_pos_iff.2 c
      exact ev_neg (by omega) (ev_pos rfl (Ev.now _))
  | succ d ih =>
    intro n s hs hd hn
    refine ev_succ (ev_bindc (impl_once_ l s hs hl) ?_)
    have hlen := once_len hl hs
    unfold normV
    by_cases c : onceL l s = []
    · rw [if_pos c]
      exact ev_pos (by rw [c]; rfl) (Ev.now _)
    · rw [if_neg c]
      have hp : 0 < (onceL l s).length := List.length_pos_iff.2 c
      have hm := onceL_size hl (pick_mem (last := last) c hlen)
      have h := ih (n + 1) (pick last (onceL l s)) (by omega) (by omega) (by omega)
      refine ev_neg (by omega) (ev_neg (by omega) ?_)
      unfold pick at h ⊢
      by_cases cl : last = true
      · rw [if_pos cl] at h ⊢
        refine ev_pos cl (ev_pos ?_ (ev_pos ?_ ?_))
        · rw [wrap_id (by omega) (by omega)]; omega
        · rw [wrap_id (by omega) (by omega)]; omega
        · rw [inc (by omega) (by omega)]
          exact h
      · rw [if_neg cl] at h ⊢
        refine ev_neg cl (ev_pos (by omega) ?_)
        rw [inc (by omega) (by omega)]
        exact h
theorem spec_norm (l : List (S59)) (hl : Fine l) (last : Bool) (s : ByteArray) (hs : s.size ≤ 1000) : Ev (fun k => spec_l15Normal.f k l s last) (normV l last 401 s 0) := spec_norm_l0 l hl last 401 0 s hs (by omega) (by omega)
theorem impl_norm (l : List (S59)) (hl : Fine l) (last : Bool) (s : ByteArray) (hs : s.size ≤ 1000) : Ev (fun k => impl_normal.f k l s last) (normV l last 401 s 0) := impl_norm_l0 l hl last 400 0 s hs (by omega) (by omega)
end Go.Proofs.Ytmigpfkjhdaijab.Rw
