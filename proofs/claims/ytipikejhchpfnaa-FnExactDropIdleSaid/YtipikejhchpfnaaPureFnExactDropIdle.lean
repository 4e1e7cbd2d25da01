import Derived.Test.YtipikejhchpfnaaFlD
import Derived.Test.YtipikejhchpfnaaFlHF
namespace Go.Proofs.Ytipikejhchpfnaa.Pure
set_option linter.unusedVariables false
set_option linter.unusedSimpArgs false
open Go.RowKit Go.Proofs.Ytipikejhchpfnaa.DI Go.Proofs.YtipikejhchpfnaaW.PrintWords Go.Proofs.YtipikejhchpfnaaW.PrintLast Go.Proofs.Ytipikejhchpfnaa.Fl

def diV (l : List S77) (keep : List Int) : List S77 × Int × Bool :=
  if stackV l keep = true then dropV keep l.length l 0 else ([], 0, false)
theorem stack_code {l : List S77} {keep : List Int} (h : stackV l keep = true) : codeV l = true := by
  simp only [stackV, Bool.and_eq_true] at h
  exact h.1
theorem sdi_ev (l : List S77) (keep : List Int) (hl : l.length ≤ 9223372036854775807) (hk : keep.length ≤ 9223372036854775807) : Ev (fun k => spec_DropIdle.f k l keep) (diV l keep) := by
  have hj : ∀ b : Bool, (stackV l keep = !b) → Ev (fun k => spec_DropIdle.j0 k l keep b) (diV l keep) := fun b hb => by
    refine ev_succ ?_
    simp only [diV, hb, spec_DropIdle.j0]
    cases b with
    | true => exact ev_pos rfl (ev_const' fun _ => rfl)
    | false =>
      have f := code_facts (stack_code hb)
      refine ev_neg (by simp) (ev_bindc rfl (ev_pos (by simp; omega) ?_))
      rw [List.nil_append]
      exact sdrop_l0 keep hk l.length l 0 (Nat.le_refl _) (by omega) f.2 (by omega) (by omega)
  refine Ev.bind (low_ev l hl) ?_
  by_cases c : codeV l = true
  · refine ev_pos c (Ev.bind (keep_ev keep hk) ?_)
    exact hj _ (by simp [stackV, c])
  · exact ev_neg c (hj true (by simp [stackV, c]))
theorem idi_ev (l : List S77) (keep : List Int) (hl : l.length ≤ 9223372036854775807) (hk : keep.length ≤ 9223372036854775807) : Ev (fun k => impl_DropIdle.f k l keep) (diV l keep) := by
  refine Ev.bind (stackOK_ev l keep hk) ?_
  simp only [diV]
  by_cases c : stackV l keep = true
  · have f := code_facts (stack_code c)
    refine ev_pos c (ev_pos (by omega) ?_)
    rw [if_pos c]
    exact Ev.bind (idle_ev l (by omega) f.2 keep hk) (drop_l0 keep hk l.length l 0 (Nat.le_refl _) (by omega) f.2 (by omega) (by omega))
  · refine ev_neg c ?_
    rw [if_neg c]
    exact Ev.now _
theorem diV_len (l : List S77) (keep : List Int) : (diV l keep).1.length ≤ l.length := by
  simp only [diV]
  split
  · exact dropV_len keep _ _ _
  · simp
theorem FnExactDropIdle : laws_FnExactDropIdle.Pure := by
  intro l0 l1 _ h0 _ h2
  suffices Ev (fun k => laws_FnExactDropIdle.f k l0 l1) true by
    obtain ⟨K, hK⟩ := this
    exact ⟨K, hK K (Nat.le_refl K)⟩
  simp only [laws_FnExactDropIdle.f]
  by_cases c : (l1.length : Int) > 1048576
  · exact ev_pos c (Ev.now _)
  · refine ev_neg c ?_
    obtain ⟨r, hr, hle⟩ := szFlat_ l0 h0.1
    refine ev_bindc hr ?_
    by_cases c1 : r < 0
    · exact ev_pos c1 (Ev.now _)
    · refine ev_neg c1 ?_
      have hf' := hle (by omega)
      obtain ⟨f, hf, ef⟩ := toFlat_ev l0 hf'
      obtain ⟨n, hn, en⟩ := toInt_ev l1 (by omega)
      have ei := idi_ev f n (by omega) (by omega)
      have es := sdi_ev f n (by omega) (by omega)
      have hl8 := diV_len f n
      obtain ⟨⟨y1, y2, y3⟩, hy⟩ : ∃ y, y = diV f n := ⟨_, rfl⟩
      rw [← hy] at ei es hl8
      simp only at hl8
      refine Ev.bind ef (Ev.bind en (Ev.bind es (Ev.bind ef (Ev.bind en (Ev.bind ei ?_)))))
      refine Ev.bind (eqFlat_ev y1 (by omega)) (ev_pos rfl (ev_pos rfl ?_))
      refine ev_succ ?_
      simp only [laws_FnExactDropIdle.j0]
      refine ev_neg (by simp) ?_
      refine Ev.bind ef (Ev.bind (eqFlat_ev f (by omega)) (ev_pos rfl (Ev.bind en (Ev.bind (eqInt_ev n (by omega)) (ev_pos rfl ?_)))))
      refine Ev.bind (markFlatV_ev f 1 (by omega) (by omega) (by omega)) (Ev.bind (markInt_ev n _ (by omega) (by omega) (by omega)) ?_)
      refine ev_neg (by simp only; omega) (Ev.bind (eqFlat_ev y1 (by omega)) (ev_pos rfl (ev_pos trivial ?_)))
      refine ev_succ ?_
      simp only [laws_FnExactDropIdle.j1]
      refine ev_neg (by simp) ?_
      refine Ev.bind (markFlatV_ev y1 1 (by omega) (by omega) (by omega)) ?_
      refine Ev.bind (heldFlat_ev y1.length 1 (by omega) (by omega) (by omega)) ?_
      refine ev_neg (by omega) (ev_pos rfl ?_)
      refine Ev.bind ef (Ev.bind en (Ev.bind ei (Ev.bind (eqFlat_ev y1 (by omega)) (ev_pos rfl (ev_pos rfl ?_)))))
      refine ev_succ ?_
      simp only [laws_FnExactDropIdle.j2]
      refine ev_neg (by simp) ?_
      exact Ev.bind (heldFlat_ev y1.length 1 (by omega) (by omega) (by omega)) (ev_neg (by omega) (ev_pos rfl (Ev.now _)))
end Go.Proofs.Ytipikejhchpfnaa.Pure
