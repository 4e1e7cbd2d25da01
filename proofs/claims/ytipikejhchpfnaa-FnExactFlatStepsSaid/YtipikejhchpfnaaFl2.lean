/- What a flat line uses and sets. Plain Lean: no program, no memory. -/
import Derived.Test.YtipikejhchpfnaaFl1
namespace Go.Proofs.Ytipikejhchpfnaa.Fl
set_option linter.unusedVariables false
set_option linter.unusedSimpArgs false
open Go.RowKit Go.Proofs.Ytipikejhchpfnaa.FS Go.Proofs.YtipikejhchpfnaaW.PrintWords Go.Proofs.YtipikejhchpfnaaW.PrintLast

def usesV (x : S77) : List Int := if x.f0 = 1 then [] else if x.f0 = 3 ∨ x.f0 = 5 then [x.f3, x.f4] else [x.f3]
def setsV (x : S77) : Bool := decide (1 ≤ x.f0) && decide (x.f0 ≤ 4)
def goodOp (x : S77) : Prop := 1 ≤ x.f0 ∧ x.f0 ≤ 6
theorem goodOp_of_low {x : S77} (h : lowV x = true) : goodOp x := by
  obtain ⟨a, b, c, d, e, f⟩ := x
  simp only [lowV, flatV, fldV] at h
  simp only [goodOp]
  by_cases h1 : a = 1
  · omega
  · by_cases h2 : a = 2
    · omega
    · by_cases h4 : a = 4
      · omega
      · by_cases h3 : a = 3
        · omega
        · by_cases h5 : a = 5
          · omega
          · by_cases h6 : a = 6
            · omega
            · simp [h1, h2, h3, h4, h5, h6] at h
theorem code_facts {l : List S77} (h : codeV l = true) : l.length ≤ 60 ∧ ∀ x ∈ l, goodOp x := by
  simp only [codeV, Bool.and_eq_true, List.all_eq_true, decide_eq_true_eq] at h
  exact ⟨by omega, fun x hx => goodOp_of_low (h.1 x hx)⟩
theorem ssets_ (x : S77) : spec_l9Sets.f x.f0 = some (setsV x) := by
  simp [spec_l9Sets.f, in_, setsV]
theorem fld1 (x : S77) : (fldV x.f0).1 = setsV x := by
  simp only [fldV, setsV]
  rw [Bool.eq_iff_iff]
  by_cases h1 : x.f0 = 1
  · simp [h1]
  · by_cases h2 : x.f0 = 2
    · simp [h2]
    · by_cases h4 : x.f0 = 4
      · simp [h4]
      · by_cases h3 : x.f0 = 3
        · simp [h3]
        · simp [h1, h2, h3, h4]
          split <;> (try split) <;> simp <;> omega
theorem hasDst_ev (x : S77) : Ev (fun k => impl_Flat_hasDst.f k x.f0 x.f1 x.f2 x.f3 x.f4 x.f5) (setsV x) := by
  rw [← fld1]
  exact Ev.bind (fields_ev _) (Ev.now _)
theorem uses_ev (x : S77) (h : goodOp x) : Ev (fun k => impl_Flat_uses.f k x.f0 x.f1 x.f2 x.f3 x.f4 x.f5) (usesV x) := by
  refine ev_bindc rfl (Ev.bind (fields_ev x.f0) ?_)
  have h0 := h.1
  have h6 := h.2
  refine ev_const' fun k => ?_
  simp only [fldV, usesV]
  by_cases h1 : x.f0 = 1
  · simp [h1]
  · by_cases h2 : x.f0 = 2
    · simp [h2]
    · by_cases h4 : x.f0 = 4
      · simp [h4]
      · by_cases h3 : x.f0 = 3
        · simp [h3]
        · by_cases h5 : x.f0 = 5
          · simp [h5]
          · simp [show x.f0 = 6 by omega]
theorem uses_len (x : S77) : (usesV x).length ≤ 2 := by
  simp only [usesV]
  split
  · simp
  · split <;> simp
end Go.Proofs.Ytipikejhchpfnaa.Fl
