/- What the law's own copies and comparisons of lines and of ints answer. -/
import Derived.Test.YtipikejhchpfnaaFl0
namespace Go.Proofs.Ytipikejhchpfnaa.Fl
set_option linter.unusedVariables false
set_option linter.unusedSimpArgs false
open Go.RowKit Go.Proofs.Ytipikejhchpfnaa.FS Go.Proofs.YtipikejhchpfnaaW.PrintWords Go.Proofs.YtipikejhchpfnaaW.PrintLast

theorem toFlat_l0 (l : List S80) (hl : l.length ≤ 9223372036854775807) (d : Nat) : ∀ (i : Nat) (o : List S77), l.length - i = d → i ≤ l.length → o.length = l.length →
    ∃ r, r.length = l.length ∧ Ev (fun k => laws_toFlatS.l0 k l o i) r := by
  induction d with
  | zero =>
    intro i o hd hi ho
    exact ⟨o, ho, ev_succ (ev_neg (by omega) (Ev.now _))⟩
  | succ d ih =>
    intro i o hd hi ho
    obtain ⟨r, hr, h⟩ := ih (i + 1) (o.set i (⟨(rd_T80 l (i : Int)).f0, (rd_T80 l (i : Int)).f1, (rd_T80 l (i : Int)).f2, (rd_T80 l (i : Int)).f3, (rd_T80 l (i : Int)).f4, (rd_T80 l (i : Int)).f5⟩ : S77)) (by omega) (by omega) (by rw [List.length_set]; exact ho)
    refine ⟨r, hr, ev_succ (ev_pos (by omega) (ev_pos (by omega) (ev_bindc rfl (ev_pos (by omega) ?_))))⟩
    rw [inc (by omega) (by omega)]
    exact h
theorem toFlat_ev (l : List S80) (hl : l.length ≤ 1048576) : ∃ r, r.length = l.length ∧ Ev (fun k => laws_toFlatS.f k l) r := by
  obtain ⟨r, hr, h⟩ := toFlat_l0 l (by omega) l.length 0 (List.replicate l.length z77) (by omega) (by omega) (by simp)
  refine ⟨r, hr, ev_pos (by omega) (ev_pos (by omega) ?_)⟩
  rw [show ((l.length : Int)).toNat = l.length by omega]
  exact h
theorem eqFlat_l0 (l : List S77) (hl : l.length ≤ 9223372036854775807) (d : Nat) : ∀ (i : Nat), l.length - i = d → i ≤ l.length → Ev (fun k => laws_eqFlatS.l0 k l l i) true := by
  induction d with
  | zero =>
    intro i hd hi
    exact ev_succ (ev_neg (by omega) (Ev.now _))
  | succ d ih =>
    intro i hd hi
    refine ev_succ (ev_pos (by omega) (ev_pos (by omega) (ev_pos (by omega) (ev_bindc (a := true) (by simp [laws_eqFlat.f]) (ev_pos rfl ?_)))))
    rw [inc (by omega) (by omega)]
    exact ih (i + 1) (by omega) (by omega)
theorem eqFlat_ev (l : List S77) (hl : l.length ≤ 9223372036854775807) : Ev (fun k => laws_eqFlatS.f k l l) true :=
  ev_pos rfl (eqFlat_l0 l hl l.length 0 (by omega) (by omega))
theorem szFlat_ (l : List S80) (hl : l.length ≤ 9223372036854775807) : ∃ r : Int, laws_szFlatS.f l 1048576 = some r ∧ (0 ≤ r → l.length ≤ 1048576) := by
  simp only [laws_szFlatS.f]
  rw [wrap_id (by omega) (by omega)]
  split
  · exact ⟨_, rfl, by omega⟩
  · exact ⟨_, rfl, by omega⟩

end Go.Proofs.Ytipikejhchpfnaa.Fl
