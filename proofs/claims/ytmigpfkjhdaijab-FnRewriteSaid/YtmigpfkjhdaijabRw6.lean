/- Whether all pairs come to one end. Plain Lean. -/
import Derived.Test.YtmigpfkjhdaijabRwC
import Derived.Test.YtmigpfkjhdaijabRwN
namespace Go.Proofs.Ytmigpfkjhdaijab.Rw
set_option linter.unusedVariables false
set_option linter.unusedSimpArgs false
open Go.RowKit Go.Proofs.Ytmigpfkjhdaijab.RF Go.Proofs.YtmigpfkjhdaijabW.PrintWords Go.Proofs.YtmigpfkjhdaijabW.PrintLast

def n0 (l : List (S59)) (p : List ByteArray) (i : Int) : ByteArray × Int × Bool := normV l false 401 (rdOf ByteArray.empty p i) 0
/-- Whether each pair comes to one end, and whether all end in time. -/
def confV (l : List (S59)) : List (List ByteArray) → Bool → Bool × Bool
  | [], c => (c, true)
  | p :: ps, c => if (n0 l p 0).2.2 = true then (if (n0 l p 1).2.2 = true then (if c = true then confV l ps ((n0 l p 0).1.toList == (n0 l p 1).1.toList) else confV l ps false) else (false, false)) else (false, false)
theorem spec_conf_l0 (l : List (S59)) (hl : Fine l) (ps : List (List ByteArray)) (hp : ∀ p ∈ ps, Two p) (hn : ps.length ≤ 1000000) (d : Nat) : ∀ (i : Nat) (c : Bool), ps.length - i = d → i ≤ ps.length →
    Ev (fun k => spec_IsConfluent.l0 k l c ps (ps.length : Int) i) (confV l (ps.drop i) c) := by
  induction d with
  | zero =>
    intro i c hd hi
    rw [List.drop_eq_nil_of_le (by omega)]
    exact ev_succ (ev_neg (by omega) (Ev.now _))
  | succ d ih =>
    intro i c hd hi
    have hi2 : i < ps.length := by omega
    rw [rd_drop ps [] i hi2]
    obtain ⟨x, y, he, hx, hy⟩ := hp _ (rd_mem ps [] i hi2)
    have er : rd_L4 ps (i : Int) = ps.getD i [] := rfl
    have hlen : (rd_L4 ps (i : Int)).length = 2 := by rw [er, he]; rfl
    refine ev_succ (ev_pos (by omega) (ev_pos (by omega) (ev_pos (by omega) (ev_pos (by omega) ?_))))
    have s0 : (rdOf ByteArray.empty (rd_L4 ps (i : Int)) 0).size ≤ 1000 := by rw [er, he]; exact hx
    have s1 : (rdOf ByteArray.empty (rd_L4 ps (i : Int)) 1).size ≤ 1000 := by rw [er, he]; exact hy
    refine Ev.bind (spec_norm l hl false _ s0) (ev_pos (by omega) (Ev.bind (spec_norm l hl false _ s1) ?_))
    rw [er]
    unfold confV
    show Ev _ (if (n0 l (ps.getD i []) 0).2.2 = true then _ else _)
    have e0 : normV l false 401 (rdOf ByteArray.empty (ps.getD i []) 0) 0 = n0 l (ps.getD i []) 0 := rfl
    have e1 : normV l false 401 (rdOf ByteArray.empty (ps.getD i []) 1) 0 = n0 l (ps.getD i []) 1 := rfl
    rw [e0, e1, inc (by omega) (by omega)]
    have h := fun c => ih (i + 1) c (by omega) (by omega)
    generalize n0 l (ps.getD i []) 0 = u at h ⊢
    generalize n0 l (ps.getD i []) 1 = v at h ⊢
    by_cases c1 : u.2.2 = true
    · rw [if_pos c1]
      refine ev_pos c1 ?_
      by_cases c2 : v.2.2 = true
      · rw [if_pos c2]
        refine ev_pos c2 ?_
        by_cases c3 : c = true
        · rw [if_pos c3]
          exact ev_pos c3 (h _)
        · rw [if_neg c3]
          exact ev_neg c3 (h _)
      · rw [if_neg c2]
        exact ev_neg c2 (Ev.now _)
    · rw [if_neg c1]
      exact ev_neg c1 (Ev.now _)
theorem impl_conf_l0 (l : List (S59)) (hl : Fine l) (ps : List (List ByteArray)) (hp : ∀ p ∈ ps, Two p) (hn : ps.length ≤ 1000000) (d : Nat) : ∀ (i : Nat) (c : Bool), ps.length - i = d → i ≤ ps.length →
    Ev (fun k => impl_IsConfluent.l0 k l c ps (ps.length : Int) i) (confV l (ps.drop i) c) := by
  induction d with
  | zero =>
    intro i c hd hi
    rw [List.drop_eq_nil_of_le (by omega)]
    exact ev_succ (ev_neg (by omega) (Ev.now _))
  | succ d ih =>
    intro i c hd hi
    have hi2 : i < ps.length := by omega
    rw [rd_drop ps [] i hi2]
    obtain ⟨x, y, he, hx, hy⟩ := hp _ (rd_mem ps [] i hi2)
    have er : rd_L4 ps (i : Int) = ps.getD i [] := rfl
    have hlen : (rd_L4 ps (i : Int)).length = 2 := by rw [er, he]; rfl
    refine ev_succ (ev_pos (by omega) (ev_pos (by omega) (ev_pos (by omega) (ev_pos (by omega) ?_))))
    have s0 : (rdOf ByteArray.empty (rd_L4 ps (i : Int)) 0).size ≤ 1000 := by rw [er, he]; exact hx
    have s1 : (rdOf ByteArray.empty (rd_L4 ps (i : Int)) 1).size ≤ 1000 := by rw [er, he]; exact hy
    refine Ev.bind (impl_norm l hl false _ s0) (ev_pos (by omega) (Ev.bind (impl_norm l hl false _ s1) ?_))
    rw [er]
    unfold confV
    show Ev _ (if (n0 l (ps.getD i []) 0).2.2 = true then _ else _)
    have e0 : normV l false 401 (rdOf ByteArray.empty (ps.getD i []) 0) 0 = n0 l (ps.getD i []) 0 := rfl
    have e1 : normV l false 401 (rdOf ByteArray.empty (ps.getD i []) 1) 0 = n0 l (ps.getD i []) 1 := rfl
    rw [e0, e1, inc (by omega) (by omega)]
    have h := fun c => ih (i + 1) c (by omega) (by omega)
    generalize n0 l (ps.getD i []) 0 = u at h ⊢
    generalize n0 l (ps.getD i []) 1 = v at h ⊢
    by_cases c1 : u.2.2 = true
    · rw [if_pos c1]
      refine ev_pos c1 ?_
      by_cases c2 : v.2.2 = true
      · rw [if_pos c2]
        refine ev_pos c2 ?_
        by_cases c3 : c = true
        · rw [if_pos c3]
          exact ev_pos c3 (h _)
        · rw [if_neg c3]
          exact ev_neg c3 (h _)
      · rw [if_neg c2]
        exact ev_neg c2 (Ev.now _)
    · rw [if_neg c1]
      exact ev_neg c1 (Ev.now _)
def isConfV (l : List (S59)) : Bool × Bool := if goodL l = true then confV l (critV l) true else (false, false)
theorem spec_isConf (l : List (S59)) (hl : Small l) : Ev (fun k => spec_IsConfluent.f k l) (isConfV l) := by
  unfold spec_IsConfluent.f isConfV
  refine Ev.bind (spec_good l hl) ?_
  cases h1 : goodL l with
  | false => exact ev_neg Bool.false_ne_true (Ev.now _)
  | true =>
    have hf := goodL_fine h1
    have hn := critV_length hf
    exact ev_pos rfl (Ev.bind (spec_crit l hf) (spec_conf_l0 l hf _ (fun p hp => critV_two (goodL_little h1) hp) (by omega) (critV l).length 0 true (by omega) (by omega)))
theorem impl_isConf (l : List (S59)) (hl : Small l) : Ev (fun k => impl_IsConfluent.f k l) (isConfV l) := by
  unfold impl_IsConfluent.f isConfV
  refine Ev.bind (impl_good l hl) ?_
  cases h1 : goodL l with
  | false => exact ev_neg Bool.false_ne_true (Ev.now _)
  | true =>
    have hf := goodL_fine h1
    have hn := critV_length hf
    exact ev_pos rfl (Ev.bind (impl_crit l hf) (impl_conf_l0 l hf _ (fun p hp => critV_two (goodL_little h1) hp) (by omega) (critV l).length 0 true (by omega) (by omega)))
end Go.Proofs.Ytmigpfkjhdaijab.Rw
