import Derived.Test.YtipikejhchpfnaaFl2
namespace Go.Proofs.Ytipikejhchpfnaa.Pure
set_option linter.unusedVariables false
set_option linter.unusedSimpArgs false
open Go.RowKit Go.Proofs.Ytipikejhchpfnaa.UO Go.Proofs.YtipikejhchpfnaaW.PrintWords Go.Proofs.YtipikejhchpfnaaW.PrintLast Go.Proofs.Ytipikejhchpfnaa.Fl

def uoV (l : List S77) (a : Int) (keep : List Int) : Bool × Bool :=
  if stackV l keep = true then
    if 0 ≤ a then match l[a.toNat]? with
      | some y => if setsV y = true then (onceV l a.toNat y.f2 keep, true) else (false, false)
      | none => (false, false)
    else (false, false)
  else (false, false)
theorem code_facts {l : List S77} (h : codeV l = true) : l.length ≤ 60 ∧ ∀ x ∈ l, goodOp x := by
  simp only [codeV, Bool.and_eq_true, List.all_eq_true, decide_eq_true_eq] at h
  exact ⟨by omega, fun x hx => goodOp_of_low (h.1 x hx)⟩
theorem suo_ev (l : List S77) (a : Int) (keep : List Int) (hl : l.length ≤ 9223372036854775807) (hk : keep.length ≤ 9223372036854775807) : Ev (fun k => spec_UsedOnce.f k l a keep) (uoV l a keep) := by
  refine Ev.bind (low_ev l hl) ?_
  simp only [uoV]
  by_cases c : codeV l = true
  · refine ev_pos c (Ev.bind (keep_ev keep hk) ?_)
    by_cases c2 : keepV keep = true
    · refine ev_pos c2 ?_
      rw [if_pos (show stackV l keep = true by simp [stackV, c, c2])]
      by_cases c3 : a < 0
      · refine ev_pos c3 ?_
        rw [if_neg (by omega)]
        exact Ev.now _
      · refine ev_neg c3 ?_
        rw [if_pos (by omega)]
        obtain ⟨n, rfl⟩ : ∃ n : Nat, a = n := ⟨a.toNat, by omega⟩
        rw [Int.toNat_natCast]
        by_cases c4 : (n : Int) ≥ (l.length : Int)
        · refine ev_pos c4 ?_
          rw [List.getElem?_eq_none (by omega)]
          exact Ev.now _
        · refine ev_neg c4 (ev_pos (by omega) (ev_pos (by omega) ?_))
          obtain ⟨y, hy, _, _⟩ := drop_step (show n < l.length by omega)
          simp only [rdT hy, hy]
          refine ev_bindc (ssets_ y) ?_
          by_cases c5 : setsV y = true
          · refine ev_pos c5 ?_
            rw [if_pos c5]
            exact Ev.bind (sonce_ev l n y hy (by have := (code_facts c).1; omega) keep hk) (Ev.now _)
          · refine ev_neg c5 ?_
            rw [if_neg c5]
            exact Ev.now _
    · refine ev_neg c2 ?_
      rw [if_neg (show ¬ stackV l keep = true by simp [stackV, c2])]
      exact Ev.now _
  · refine ev_neg c ?_
    rw [if_neg (show ¬ stackV l keep = true by simp [stackV, c])]
    exact Ev.now _
theorem iuo_ev (l : List S77) (a : Int) (keep : List Int) (hl : l.length ≤ 9223372036854775807) (hk : keep.length ≤ 9223372036854775807) : Ev (fun k => impl_UsedOnce.f k l a keep) (uoV l a keep) := by
  refine Ev.bind (stackOK_ev l keep hk) ?_
  simp only [uoV]
  by_cases c : stackV l keep = true
  · refine ev_pos c ?_
    have cc : codeV l = true := by simp only [stackV, Bool.and_eq_true] at c; exact c.1
    have h60 := (code_facts cc).1
    rw [if_pos c, wrap_id (by omega) (by omega)]
    refine ev_bindc (within_ _ _ _) ?_
    by_cases c3 : a < 0
    · refine ev_neg (by simp; omega) ?_
      rw [if_neg (by omega)]
      exact Ev.now _
    · rw [if_pos (by omega)]
      obtain ⟨n, rfl⟩ : ∃ n : Nat, a = n := ⟨a.toNat, by omega⟩
      rw [Int.toNat_natCast]
      by_cases c4 : (n : Int) ≥ (l.length : Int)
      · refine ev_neg (by simp; omega) ?_
        rw [List.getElem?_eq_none (by omega)]
        exact Ev.now _
      · refine ev_pos (by simp; omega) (ev_pos (by omega) (ev_pos (by omega) ?_))
        obtain ⟨y, hy, _, _⟩ := drop_step (show n < l.length by omega)
        simp only [rdT hy, hy]
        refine Ev.bind (hasDst_ev y) ?_
        by_cases c5 : setsV y = true
        · refine ev_pos c5 ?_
          rw [if_pos c5]
          exact Ev.bind (ionce_ev l n y hy (by omega) (code_facts cc).2 keep hk) (Ev.now _)
        · refine ev_neg c5 ?_
          rw [if_neg c5]
          exact Ev.now _
  · refine ev_neg c ?_
    rw [if_neg c]
    exact Ev.now _
theorem toFlat_l0 (l : List S80) (hl : l.length ≤ 9223372036854775807) (d : Nat) : ∀ (i : Nat) (o : List S77), l.length - i = d → i ≤ l.length → o.length = l.length →
    ∃ r, r.length = l.length ∧ Ev (fun k => laws_toFlatS.l0 k l o i) r := by
  induction d with
  | zero =>
    intro i o hd hi ho
    exact ⟨o, ho, ev_succ (ev_neg (by omega) (Ev.now _))⟩
  | succ d ih =>
    intro i o hd hi ho
    obtain ⟨r, hr, h⟩ := ih (i + 1) (o.set i (⟨(rd_T80 l (i : Int)).f0, (rd_T80 l (i : Int)).f1, (rd_T80 l (i : Int)).f2, (rd_T80 l (i : Int)).f3, (rd_T80 l (i : Int)).f4, (rd_T80 l (i : Int)).f5⟩ : S77)) (by omega) (by omega) (by rw [List.length_set]; exact ho)
    refine ⟨r, hr, ev_succ (ev_pos (by omega) (ev_pos (by omega) (ev_bindc rfl (ev_pos (by omega) ?_))))⟩
    rw [inc (by omega) (by omega)]
    exact h
theorem toFlat_ev (l : List S80) (hl : l.length ≤ 1048576) : ∃ r, r.length = l.length ∧ Ev (fun k => laws_toFlatS.f k l) r := by
  obtain ⟨r, hr, h⟩ := toFlat_l0 l (by omega) l.length 0 (List.replicate l.length z77) (by omega) (by omega) (by simp)
  refine ⟨r, hr, ev_pos (by omega) (ev_pos (by omega) ?_)⟩
  rw [show ((l.length : Int)).toNat = l.length by omega]
  exact h
theorem toInt_l0 (l : List Int) (hl : l.length ≤ 9223372036854775807) (d : Nat) : ∀ (i : Nat) (o : List Int), l.length - i = d → i ≤ l.length → o.length = l.length →
    ∃ r, r.length = l.length ∧ Ev (fun k => laws_toIntS.l0 k l o i) r := by
  induction d with
  | zero =>
    intro i o hd hi ho
    exact ⟨o, ho, ev_succ (ev_neg (by omega) (Ev.now _))⟩
  | succ d ih =>
    intro i o hd hi ho
    obtain ⟨r, hr, h⟩ := ih (i + 1) (o.set i (rd l (i : Int))) (by omega) (by omega) (by rw [List.length_set]; exact ho)
    refine ⟨r, hr, ev_succ (ev_pos (by omega) (ev_pos (by omega) (ev_pos (by omega) ?_)))⟩
    rw [inc (by omega) (by omega)]
    exact h
theorem toInt_ev (l : List Int) (hl : l.length ≤ 1048576) : ∃ r, r.length = l.length ∧ Ev (fun k => laws_toIntS.f k l) r := by
  obtain ⟨r, hr, h⟩ := toInt_l0 l (by omega) l.length 0 (List.replicate l.length 0) (by omega) (by omega) (by simp)
  refine ⟨r, hr, ev_pos (by omega) (ev_pos (by omega) ?_)⟩
  rw [show ((l.length : Int)).toNat = l.length by omega]
  exact h
theorem eqFlat_l0 (l : List S77) (hl : l.length ≤ 9223372036854775807) (d : Nat) : ∀ (i : Nat), l.length - i = d → i ≤ l.length → Ev (fun k => laws_eqFlatS.l0 k l l i) true := by
  induction d with
  | zero =>
    intro i hd hi
    exact ev_succ (ev_neg (by omega) (Ev.now _))
  | succ d ih =>
    intro i hd hi
    refine ev_succ (ev_pos (by omega) (ev_pos (by omega) (ev_pos (by omega) (ev_bindc (a := true) (by simp [laws_eqFlat.f]) (ev_pos rfl ?_)))))
    rw [inc (by omega) (by omega)]
    exact ih (i + 1) (by omega) (by omega)
theorem eqFlat_ev (l : List S77) (hl : l.length ≤ 9223372036854775807) : Ev (fun k => laws_eqFlatS.f k l l) true :=
  ev_pos rfl (eqFlat_l0 l hl l.length 0 (by omega) (by omega))
theorem eqInt_l0 (l : List Int) (hl : l.length ≤ 9223372036854775807) (d : Nat) : ∀ (i : Nat), l.length - i = d → i ≤ l.length → Ev (fun k => laws_eqIntS.l0 k l l i) true := by
  induction d with
  | zero =>
    intro i hd hi
    exact ev_succ (ev_neg (by omega) (Ev.now _))
  | succ d ih =>
    intro i hd hi
    refine ev_succ (ev_pos (by omega) (ev_pos (by omega) (ev_pos (by omega) (ev_pos rfl ?_))))
    rw [inc (by omega) (by omega)]
    exact ih (i + 1) (by omega) (by omega)
theorem eqInt_ev (l : List Int) (hl : l.length ≤ 9223372036854775807) : Ev (fun k => laws_eqIntS.f k l l) true :=
  ev_pos rfl (eqInt_l0 l hl l.length 0 (by omega) (by omega))
theorem szFlat_ (l : List S80) (hl : l.length ≤ 9223372036854775807) : ∃ r : Int, laws_szFlatS.f l 1048576 = some r ∧ (0 ≤ r → l.length ≤ 1048576) := by
  simp only [laws_szFlatS.f]
  rw [wrap_id (by omega) (by omega)]
  split
  · exact ⟨_, rfl, by omega⟩
  · exact ⟨_, rfl, by omega⟩

theorem FnExactUsedOnce : laws_FnExactUsedOnce.Pure := by
  intro l0 a1 l2 _ h0 _ _ h2
  suffices Ev (fun k => laws_FnExactUsedOnce.f k l0 a1 l2) true by
    obtain ⟨K, hK⟩ := this
    exact ⟨K, hK K (Nat.le_refl K)⟩
  simp only [laws_FnExactUsedOnce.f]
  by_cases c : (l2.length : Int) > 1048576
  · exact ev_pos c (Ev.now _)
  · refine ev_neg c ?_
    obtain ⟨r, hr, hle⟩ := szFlat_ l0 h0.1
    refine ev_bindc hr ?_
    by_cases c1 : r < 0
    · exact ev_pos c1 (Ev.now _)
    · refine ev_neg c1 ?_
      obtain ⟨f, hf, ef⟩ := toFlat_ev l0 (hle (by omega))
      obtain ⟨n, hn, en⟩ := toInt_ev l2 (by omega)
      have hf' := hle (by omega)
      refine Ev.bind ef (Ev.bind en (Ev.bind (suo_ev f a1 n (by omega) (by omega)) (Ev.bind ef (Ev.bind en (Ev.bind (iuo_ev f a1 n (by omega) (by omega)) ?_)))))
      refine ev_neg (by simp) ?_
      refine ev_succ ?_
      simp only [laws_FnExactUsedOnce.j0]
      refine ev_neg (by simp) ?_
      exact Ev.bind ef (Ev.bind (eqFlat_ev f (by omega)) (ev_pos rfl (Ev.bind en (Ev.bind (eqInt_ev n (by omega)) (ev_pos rfl (Ev.now _))))))
end Go.Proofs.Ytipikejhchpfnaa.Pure
