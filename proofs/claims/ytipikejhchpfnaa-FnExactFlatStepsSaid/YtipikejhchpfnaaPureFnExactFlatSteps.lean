/- The program's FlatSteps answers as the reference's, for every lines; its answer owns its memory. Conditions: none beyond the statement's own. -/
import Derived.Test.YtipikejhchpfnaaFlZ
import Derived.Test.YtipikejhchpfnaaFlatHand
import Derived.Test.YtipikejhchpfnaaFlTo
namespace Go.Proofs.Ytipikejhchpfnaa.Pure
set_option linter.unusedVariables false
set_option linter.unusedSimpArgs false
open Go.RowKit Go.Proofs.Ytipikejhchpfnaa.FS Go.Proofs.YtipikejhchpfnaaW.PrintWords Go.Proofs.YtipikejhchpfnaaW.PrintLast Go.Proofs.Ytipikejhchpfnaa.Fl

theorem FnExactFlatSteps (A0 : Option Addr) (c0 : Nat) (l0 : List S80) (w : World) (hr0 : Kd.C k80 w A0 l0.length l0) (hc0 : l0.length ≤ c0) (hl : l0.length ≤ 9223372036854775807) :
    Calls Try.prog 5 #[.slice A0 l0.length c0] w fun e w' => e = .returned (.bool true) ∧ Below w.heap.size w w' := by
  obtain ⟨r, hr, hle⟩ := szFlat_ l0 hl
  by_cases c : r < 0
  · exact laws_FnExactFlatSteps.callsn A0 c0 l0 w hr0 hc0 r hr c
  · have hl2 := hle (by omega)
    obtain ⟨x, hx, K2, h2⟩ := toFlat_ev l0 hl2
    obtain ⟨K3, h3⟩ := sfs_ev x (by omega)
    obtain ⟨K4, h4⟩ := localFlat_ev x
    obtain ⟨K5, h5⟩ := eqStep_ev (fsV x) (by have := fsV_len x; omega) (fsV_nil x)
    obtain ⟨K6, h6⟩ := eqFlat_ev x (by omega)
    obtain ⟨x', _, K7, h7⟩ := markFlat_ev x 1 (by omega) (by omega) (by omega)
    have hlen := fsV_len x
    obtain ⟨K8, h8⟩ := markZ_l0 (fsV x).length (fsV x) 0 1 (by omega) (by omega) (by omega) (by omega) (by omega)
    obtain ⟨K9, h9⟩ := heldZ_l0 (fsV x).length (marksZ 1 (fsV x).length) 0 1 (by rw [marksZ_len]; rfl) (by omega) (by rw [marksZ_len]; omega) (by omega) (by omega) (by simp)
    have e8 := h8 (K2 + K3 + K4 + K5 + K6 + K7 + K8 + K9) (by omega)
    rw [List.take_zero, List.nil_append] at e8
    exact laws_FnExactFlatSteps.calls0 (K2 + K3 + K4 + K5 + K6 + K7 + K8 + K9) A0 c0 l0 w hr0 hc0 r x x' (fsV x) (fsV x) (marksZ 1 (fsV x).length) (codeV x) _ _ hr c (h2 _ (by omega)) (h3 _ (by omega)) (h4 _ (by omega))
      (fun h => ⟨(code_facts h).1, (code_facts h).2⟩) rfl (h5 _ (by omega)) (h6 _ (by omega)) (h7 _ (by omega)) (by omega) e8 (h9 _ (by omega)) (by omega)
end Go.Proofs.Ytipikejhchpfnaa.Pure
