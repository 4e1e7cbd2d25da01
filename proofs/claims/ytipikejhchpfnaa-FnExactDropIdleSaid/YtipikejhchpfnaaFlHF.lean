/- What holding of marked flat lines answers. Plain Lean. -/
import Derived.Test.YtipikejhchpfnaaFlM
namespace Go.Proofs.Ytipikejhchpfnaa.Fl
set_option linter.unusedVariables false
set_option linter.unusedSimpArgs false
open Go.RowKit Go.Proofs.Ytipikejhchpfnaa.DI Go.Proofs.YtipikejhchpfnaaW.PrintWords Go.Proofs.YtipikejhchpfnaaW.PrintLast

theorem heldFlat_l0 (d : Nat) : ∀ (l : List S77) (i : Nat) (n : Int), l.length - i = d → i ≤ l.length → l.length ≤ 4194304 → 0 ≤ n → n ≤ 1073741824 + 6 * (i : Int) → l.drop i = marksF n d →
    Ev (fun k => laws_heldFlatS.l0 k l n i) (n + 6 * (d : Int)) := by
  induction d with
  | zero =>
    intro l i n hd hi hl h0 h1 hm
    exact ev_succ (ev_neg (by omega) (ev_const' fun _ => by simp))
  | succ d ih =>
    intro l i n hd hi hl h0 h1 hm
    obtain ⟨x, hx, hdrop, _⟩ := drop_step (show i < l.length by omega)
    have W := Aside0.mk (marks_wraps h0 (show n ≤ 9000000000000000000 by omega))
    have hi1 : wrap64 ((i : Int) + 1) = (i : Int) + 1 := inc (by omega) (by omega)
    rw [hdrop, marksF] at hm
    injection hm with hm1 hm2
    subst hm1
    refine ev_succ (ev_pos (by omega) (ev_pos (by omega) ?_))
    have hr : rd_T77 l (i : Int) = ⟨n, n + 1, n + 1 + 1, n + 1 + 1 + 1, n + 1 + 1 + 1 + 1, n + 1 + 1 + 1 + 1 + 1⟩ := by simp [rd_T77, hx]
    simp only [hr, W.out.1, W.out.2.1, W.out.2.2.1, W.out.2.2.2.1, W.out.2.2.2.2.1, W.out.2.2.2.2.2, hi1]
    refine ev_pos trivial (ev_pos trivial (ev_pos trivial (ev_pos trivial (ev_pos trivial (ev_pos trivial ?_)))))
    rw [show n + 6 * ((d + 1 : Nat) : Int) = n + 1 + 1 + 1 + 1 + 1 + 1 + 6 * (d : Int) by omega]
    exact ih l (i + 1) (n + 1 + 1 + 1 + 1 + 1 + 1) (by omega) (by omega) hl (by omega) (by omega) hm2
theorem heldFlat_ev (m : Nat) (n : Int) (hm : m ≤ 4194304) (h0 : 0 ≤ n) (h1 : n ≤ 1073741824) : Ev (fun k => laws_heldFlatS.f k (marksF n m) n) (n + 6 * (m : Int)) :=
  heldFlat_l0 m (marksF n m) 0 n (by rw [marksF_len]; rfl) (by omega) (by rw [marksF_len]; exact hm) h0 (by omega) (by simp)
end Go.Proofs.Ytipikejhchpfnaa.Fl
