-- PRINTED by print.py (a twelfth state) out of the translation. Not trusted: Lean checks it.
import Derived.Test.YtmigpfkjhdaijabRFx0
import Derived.Test.YtmigpfkjhdaijabRFx1
import Derived.Test.YtmigpfkjhdaijabRFx5
import Derived.Test.YtmigpfkjhdaijabRFx7
import Derived.Test.YtmigpfkjhdaijabRFx8
import Derived.Test.YtmigpfkjhdaijabRFx9
namespace Go.Proofs.Ytmigpfkjhdaijab.RF
open Go.RowKit Go.Proofs.YtmigpfkjhdaijabW.PrintWords Go.Proofs.YtmigpfkjhdaijabW.PrintLast Go.Proofs.YtmigpfkjhdaijabW.PrintMore
attribute [local go_sem] max2_int min2_int max_two min_two max_three min_three max_four min_four   -- for this text's walks alone
set_option linter.unusedVariables false
set_option linter.unusedSimpArgs false

/-! ### laws_FnRewrite: function 6 -/
mutual
def laws_FnRewrite.j0 : Nat → List Int → List (S59) → ByteArray → ByteArray → Int → Bool → ByteArray → Bool → Bool → Bool → Bool → Option (Bool)
  | 0, _, _, _, _, _, _, _, _, _, _, _ => none
  | k + 1, x1, x5, x6, x7, x8, x9, x13, x14, x17, x18, x114 => if x114 = true then (some false) else (if x9 = true then ((impl_OnceBy.f k x5 x7).bind fun bt367 => (if bt367.2 = true then (if (bt367.1.length : Int) > 0 then (laws_FnRewrite.j1 k x1 x5 x6 x7 x13 x14 x17 x18 true) else (if ((x8 == 0) != (x7.toList == x6.toList)) = true then (laws_FnRewrite.j1 k x1 x5 x6 x7 x13 x14 x17 x18 true) else (if x8 > 0 then ((impl_ShortLess.f x7 x6).bind fun t371 => (laws_FnRewrite.j1 k x1 x5 x6 x7 x13 x14 x17 x18 (!t371))) else (laws_FnRewrite.j1 k x1 x5 x6 x7 x13 x14 x17 x18 false)))) else (laws_FnRewrite.j1 k x1 x5 x6 x7 x13 x14 x17 x18 true))) else ((spec_DrawJoinedBy.f k x1).bind fun bt408 => ((impl_JoinedBy.f k bt408.1 bt408.2.1 bt408.2.2).bind fun bt413 => ((spec_JoinedBy.f k bt408.1 bt408.2.1 bt408.2.2).bind fun bt415 => (if (bt413.2 == bt415.2) = true then (some (bt413.1 == bt415.1)) else (some false))))))
def laws_FnRewrite.j1 : Nat → List Int → List (S59) → ByteArray → ByteArray → ByteArray → Bool → Bool → Bool → Bool → Option (Bool)
  | 0, _, _, _, _, _, _, _, _, _ => none
  | k + 1, x1, x5, x6, x7, x13, x14, x17, x18, x146 => if x146 = true then (some false) else (if x18 = true then (laws_FnRewrite.j2 k x1 x5 x6 x7 x13 x14 x17) else (laws_FnRewrite.j2 k x1 x5 x6 x7 x13 x14 false))
def laws_FnRewrite.j2 : Nat → List Int → List (S59) → ByteArray → ByteArray → ByteArray → Bool → Bool → Option (Bool)
  | 0, _, _, _, _, _, _, _ => none
  | k + 1, x1, x5, x6, x7, x13, x14, x150 => if x150 = true then (if x14 = true then (laws_FnRewrite.j3 k x1 x5 x6 x7 (x13.toList != x7.toList)) else (laws_FnRewrite.j3 k x1 x5 x6 x7 false)) else ((spec_DrawJoinedBy.f k x1).bind fun bt399 => ((impl_JoinedBy.f k bt399.1 bt399.2.1 bt399.2.2).bind fun bt404 => ((spec_JoinedBy.f k bt399.1 bt399.2.1 bt399.2.2).bind fun bt406 => (if (bt404.2 == bt406.2) = true then (some (bt404.1 == bt406.1)) else (some false)))))
def laws_FnRewrite.j3 : Nat → List Int → List (S59) → ByteArray → ByteArray → Bool → Option (Bool)
  | 0, _, _, _, _, _ => none
  | k + 1, x1, x5, x6, x7, x156 => if x156 = true then (some false) else ((impl_OnceBy.f k x5 x6).bind fun bt372 => (if bt372.2 = true then (if (bt372.1.length : Int) > 0 then ((laws_numberOf.f k x1).bind fun t376 => (if (bt372.1.length : Int) = 0 then (none) else (if 0 ≤ (Int.tmod t376 (bt372.1.length : Int)) then (if (Int.tmod t376 (bt372.1.length : Int)) < (bt372.1.length : Int) then ((impl_NormalOf.f k x5 (rdOf ByteArray.empty bt372.1 (Int.tmod t376 (bt372.1.length : Int)))).bind fun bt378 => (if bt378.2.2 = true then (laws_FnRewrite.j4 k x1 (bt378.1.toList != x7.toList)) else (laws_FnRewrite.j4 k x1 false))) else (none)) else (none)))) else ((spec_DrawJoinedBy.f k x1).bind fun bt390 => ((impl_JoinedBy.f k bt390.1 bt390.2.1 bt390.2.2).bind fun bt395 => ((spec_JoinedBy.f k bt390.1 bt390.2.1 bt390.2.2).bind fun bt397 => (if (bt395.2 == bt397.2) = true then (some (bt395.1 == bt397.1)) else (some false)))))) else (some false)))
def laws_FnRewrite.j4 : Nat → List Int → Bool → Option (Bool)
  | 0, _, _ => none
  | k + 1, x1, x187 => if x187 = true then (some false) else ((spec_DrawJoinedBy.f k x1).bind fun bt381 => ((impl_JoinedBy.f k bt381.1 bt381.2.1 bt381.2.2).bind fun bt386 => ((spec_JoinedBy.f k bt381.1 bt381.2.1 bt381.2.2).bind fun bt388 => (if (bt386.2 == bt388.2) = true then (some (bt386.1 == bt388.1)) else (some false)))))
end
def laws_FnRewrite.f (k : Nat) (l0 : List Int) (l1 : List Int) : Option (Bool) := if (wrap64 ((l0.length : Int) + (l1.length : Int))) > 1048576 then (some true) else ((spec_DrawNormalOf.f k l0).bind fun bt349 => ((impl_NormalOf.f k bt349.1 bt349.2).bind fun bt353 => ((spec_NormalOf.f k bt349.1 bt349.2).bind fun bt356 => ((impl_LastOf.f k bt349.1 bt349.2).bind fun bt359 => ((spec_LastOf.f k bt349.1 bt349.2).bind fun bt361 => ((impl_IsConfluent.f k bt349.1).bind fun bt363 => ((spec_IsConfluent.f k bt349.1).bind fun bt365 => (if (bt353.2.2 != bt356.2.2) = true then (laws_FnRewrite.j0 k l1 bt349.1 bt349.2 bt353.1 bt353.2.1 bt353.2.2 bt359.1 bt359.2 bt363.1 bt363.2 true) else (if bt353.1.toList = bt356.1.toList then (if bt353.2.1 = bt356.2.1 then (if (bt359.2 != bt361.2) = true then (laws_FnRewrite.j0 k l1 bt349.1 bt349.2 bt353.1 bt353.2.1 bt353.2.2 bt359.1 bt359.2 bt363.1 bt363.2 true) else (if bt359.1.toList = bt361.1.toList then (if (bt363.2 != bt365.2) = true then (laws_FnRewrite.j0 k l1 bt349.1 bt349.2 bt353.1 bt353.2.1 bt353.2.2 bt359.1 bt359.2 bt363.1 bt363.2 true) else (laws_FnRewrite.j0 k l1 bt349.1 bt349.2 bt353.1 bt353.2.1 bt353.2.2 bt359.1 bt359.2 bt363.1 bt363.2 (bt363.1 != bt365.1))) else (laws_FnRewrite.j0 k l1 bt349.1 bt349.2 bt353.1 bt353.2.1 bt353.2.2 bt359.1 bt359.2 bt363.1 bt363.2 true))) else (laws_FnRewrite.j0 k l1 bt349.1 bt349.2 bt353.1 bt353.2.1 bt353.2.2 bt359.1 bt359.2 bt363.1 bt363.2 true)) else (laws_FnRewrite.j0 k l1 bt349.1 bt349.2 bt353.1 bt353.2.1 bt353.2.2 bt359.1 bt359.2 bt363.1 bt363.2 true))))))))))
theorem laws_FnRewrite.mono_l : ∀ k, (∀ y0 y1 y2 y3 y4 y5 y6 y7 y8 y9 y10, LeO (laws_FnRewrite.j0 k y0 y1 y2 y3 y4 y5 y6 y7 y8 y9 y10) (laws_FnRewrite.j0 (k + 1) y0 y1 y2 y3 y4 y5 y6 y7 y8 y9 y10)) ∧ (∀ y0 y1 y2 y3 y4 y5 y6 y7 y8, LeO (laws_FnRewrite.j1 k y0 y1 y2 y3 y4 y5 y6 y7 y8) (laws_FnRewrite.j1 (k + 1) y0 y1 y2 y3 y4 y5 y6 y7 y8)) ∧ (∀ y0 y1 y2 y3 y4 y5 y6, LeO (laws_FnRewrite.j2 k y0 y1 y2 y3 y4 y5 y6) (laws_FnRewrite.j2 (k + 1) y0 y1 y2 y3 y4 y5 y6)) ∧ (∀ y0 y1 y2 y3 y4, LeO (laws_FnRewrite.j3 k y0 y1 y2 y3 y4) (laws_FnRewrite.j3 (k + 1) y0 y1 y2 y3 y4)) ∧ (∀ y0 y1, LeO (laws_FnRewrite.j4 k y0 y1) (laws_FnRewrite.j4 (k + 1) y0 y1))
  | 0 => ⟨fun _ _ _ _ _ _ _ _ _ _ _ r h => by simp [laws_FnRewrite.j0] at h, fun _ _ _ _ _ _ _ _ _ r h => by simp [laws_FnRewrite.j1] at h, fun _ _ _ _ _ _ _ r h => by simp [laws_FnRewrite.j2] at h, fun _ _ _ _ _ r h => by simp [laws_FnRewrite.j3] at h, fun _ _ r h => by simp [laws_FnRewrite.j4] at h⟩
  | k + 1 => by
    obtain ⟨ih0, ih1, ih2, ih3, ih4⟩ := laws_FnRewrite.mono_l k
    refine ⟨?_, ?_, ?_, ?_, ?_⟩
    · intro y0 y1 y2 y3 y4 y5 y6 y7 y8 y9 y10
      unfold laws_FnRewrite.j0
      repeat' first
      | (with_reducible exact ih0 _ _ _ _ _ _ _ _ _ _ _)
      | (with_reducible exact ih1 _ _ _ _ _ _ _ _ _)
      | (with_reducible exact ih2 _ _ _ _ _ _ _)
      | (with_reducible exact ih3 _ _ _ _ _)
      | (with_reducible exact ih4 _ _)
      | (with_reducible exact impl_IsConfluent.mono _ _)
      | (with_reducible exact impl_JoinedBy.mono _ _ _ _)
      | (with_reducible exact impl_LastOf.mono _ _ _)
      | (with_reducible exact impl_NormalOf.mono _ _ _)
      | (with_reducible exact impl_OnceBy.mono _ _ _)
      | (with_reducible exact laws_numberOf.mono _ _)
      | (with_reducible exact spec_DrawJoinedBy.mono _ _)
      | (with_reducible exact spec_DrawNormalOf.mono _ _)
      | (with_reducible exact spec_IsConfluent.mono _ _)
      | (with_reducible exact spec_JoinedBy.mono _ _ _ _)
      | (with_reducible exact spec_LastOf.mono _ _ _)
      | (with_reducible exact spec_NormalOf.mono _ _ _)
      | (with_reducible exact LeO.refl _)
      | (with_reducible exact LeO.none _)
      | (with_reducible refine LeO.ite ?_ ?_)
      | (with_reducible refine LeO.bind ?_ (fun _ => ?_))
      | exact ih0 _ _ _ _ _ _ _ _ _ _ _
      | exact ih1 _ _ _ _ _ _ _ _ _
      | exact ih2 _ _ _ _ _ _ _
      | exact ih3 _ _ _ _ _
      | exact ih4 _ _
      | exact impl_IsConfluent.mono _ _
      | exact impl_JoinedBy.mono _ _ _ _
      | exact impl_LastOf.mono _ _ _
      | exact impl_NormalOf.mono _ _ _
      | exact impl_OnceBy.mono _ _ _
      | exact laws_numberOf.mono _ _
      | exact spec_DrawJoinedBy.mono _ _
      | exact spec_DrawNormalOf.mono _ _
      | exact spec_IsConfluent.mono _ _
      | exact spec_JoinedBy.mono _ _ _ _
      | exact spec_LastOf.mono _ _ _
      | exact spec_NormalOf.mono _ _ _
      | exact LeO.none _
      | refine LeO.ite ?_ ?_
      | refine LeO.bind ?_ (fun _ => ?_)
    · intro y0 y1 y2 y3 y4 y5 y6 y7 y8
      unfold laws_FnRewrite.j1
      repeat' first
      | (with_reducible exact ih0 _ _ _ _ _ _ _ _ _ _ _)
      | (with_reducible exact ih1 _ _ _ _ _ _ _ _ _)
      | (with_reducible exact ih2 _ _ _ _ _ _ _)
      | (with_reducible exact ih3 _ _ _ _ _)
      | (with_reducible exact ih4 _ _)
      | (with_reducible exact impl_IsConfluent.mono _ _)
      | (with_reducible exact impl_JoinedBy.mono _ _ _ _)
      | (with_reducible exact impl_LastOf.mono _ _ _)
      | (with_reducible exact impl_NormalOf.mono _ _ _)
      | (with_reducible exact impl_OnceBy.mono _ _ _)
      | (with_reducible exact laws_numberOf.mono _ _)
      | (with_reducible exact spec_DrawJoinedBy.mono _ _)
      | (with_reducible exact spec_DrawNormalOf.mono _ _)
      | (with_reducible exact spec_IsConfluent.mono _ _)
      | (with_reducible exact spec_JoinedBy.mono _ _ _ _)
      | (with_reducible exact spec_LastOf.mono _ _ _)
      | (with_reducible exact spec_NormalOf.mono _ _ _)
      | (with_reducible exact LeO.refl _)
      | (with_reducible exact LeO.none _)
      | (with_reducible refine LeO.ite ?_ ?_)
      | (with_reducible refine LeO.bind ?_ (fun _ => ?_))
      | exact ih0 _ _ _ _ _ _ _ _ _ _ _
      | exact ih1 _ _ _ _ _ _ _ _ _
      | exact ih2 _ _ _ _ _ _ _
      | exact ih3 _ _ _ _ _
      | exact ih4 _ _
      | exact impl_IsConfluent.mono _ _
      | exact impl_JoinedBy.mono _ _ _ _
      | exact impl_LastOf.mono _ _ _
      | exact impl_NormalOf.mono _ _ _
      | exact impl_OnceBy.mono _ _ _
      | exact laws_numberOf.mono _ _
      | exact spec_DrawJoinedBy.mono _ _
      | exact spec_DrawNormalOf.mono _ _
      | exact spec_IsConfluent.mono _ _
      | exact spec_JoinedBy.mono _ _ _ _
      | exact spec_LastOf.mono _ _ _
      | exact spec_NormalOf.mono _ _ _
      | exact LeO.none _
      | refine LeO.ite ?_ ?_
      | refine LeO.bind ?_ (fun _ => ?_)
    · intro y0 y1 y2 y3 y4 y5 y6
      unfold laws_FnRewrite.j2
      repeat' first
      | (with_reducible exact ih0 _ _ _ _ _ _ _ _ _ _ _)
      | (with_reducible exact ih1 _ _ _ _ _ _ _ _ _)
      | (with_reducible exact ih2 _ _ _ _ _ _ _)
      | (with_reducible exact ih3 _ _ _ _ _)
      | (with_reducible exact ih4 _ _)
      | (with_reducible exact impl_IsConfluent.mono _ _)
      | (with_reducible exact impl_JoinedBy.mono _ _ _ _)
      | (with_reducible exact impl_LastOf.mono _ _ _)
      | (with_reducible exact impl_NormalOf.mono _ _ _)
      | (with_reducible exact impl_OnceBy.mono _ _ _)
      | (with_reducible exact laws_numberOf.mono _ _)
      | (with_reducible exact spec_DrawJoinedBy.mono _ _)
      | (with_reducible exact spec_DrawNormalOf.mono _ _)
      | (with_reducible exact spec_IsConfluent.mono _ _)
      | (with_reducible exact spec_JoinedBy.mono _ _ _ _)
      | (with_reducible exact spec_LastOf.mono _ _ _)
      | (with_reducible exact spec_NormalOf.mono _ _ _)
      | (with_reducible exact LeO.refl _)
      | (with_reducible exact LeO.none _)
      | (with_reducible refine LeO.ite ?_ ?_)
      | (with_reducible refine LeO.bind ?_ (fun _ => ?_))
      | exact ih0 _ _ _ _ _ _ _ _ _ _ _
      | exact ih1 _ _ _ _ _ _ _ _ _
      | exact ih2 _ _ _ _ _ _ _
      | exact ih3 _ _ _ _ _
      | exact ih4 _ _
      | exact impl_IsConfluent.mono _ _
      | exact impl_JoinedBy.mono _ _ _ _
      | exact impl_LastOf.mono _ _ _
      | exact impl_NormalOf.mono _ _ _
      | exact impl_OnceBy.mono _ _ _
      | exact laws_numberOf.mono _ _
      | exact spec_DrawJoinedBy.mono _ _
      | exact spec_DrawNormalOf.mono _ _
      | exact spec_IsConfluent.mono _ _
      | exact spec_JoinedBy.mono _ _ _ _
      | exact spec_LastOf.mono _ _ _
      | exact spec_NormalOf.mono _ _ _
      | exact LeO.none _
      | refine LeO.ite ?_ ?_
      | refine LeO.bind ?_ (fun _ => ?_)
    · intro y0 y1 y2 y3 y4
      unfold laws_FnRewrite.j3
      repeat' first
      | (with_reducible exact ih0 _ _ _ _ _ _ _ _ _ _ _)
      | (with_reducible exact ih1 _ _ _ _ _ _ _ _ _)
      | (with_reducible exact ih2 _ _ _ _ _ _ _)
      | (with_reducible exact ih3 _ _ _ _ _)
      | (with_reducible exact ih4 _ _)
      | (with_reducible exact impl_IsConfluent.mono _ _)
      | (with_reducible exact impl_JoinedBy.mono _ _ _ _)
      | (with_reducible exact impl_LastOf.mono _ _ _)
      | (with_reducible exact impl_NormalOf.mono _ _ _)
      | (with_reducible exact impl_OnceBy.mono _ _ _)
      | (with_reducible exact laws_numberOf.mono _ _)
      | (with_reducible exact spec_DrawJoinedBy.mono _ _)
      | (with_reducible exact spec_DrawNormalOf.mono _ _)
      | (with_reducible exact spec_IsConfluent.mono _ _)
      | (with_reducible exact spec_JoinedBy.mono _ _ _ _)
      | (with_reducible exact spec_LastOf.mono _ _ _)
      | (with_reducible exact spec_NormalOf.mono _ _ _)
      | (with_reducible exact LeO.refl _)
      | (with_reducible exact LeO.none _)
      | (with_reducible refine LeO.ite ?_ ?_)
      | (with_reducible refine LeO.bind ?_ (fun _ => ?_))
      | exact ih0 _ _ _ _ _ _ _ _ _ _ _
      | exact ih1 _ _ _ _ _ _ _ _ _
      | exact ih2 _ _ _ _ _ _ _
      | exact ih3 _ _ _ _ _
      | exact ih4 _ _
      | exact impl_IsConfluent.mono _ _
      | exact impl_JoinedBy.mono _ _ _ _
      | exact impl_LastOf.mono _ _ _
      | exact impl_NormalOf.mono _ _ _
      | exact impl_OnceBy.mono _ _ _
      | exact laws_numberOf.mono _ _
      | exact spec_DrawJoinedBy.mono _ _
      | exact spec_DrawNormalOf.mono _ _
      | exact spec_IsConfluent.mono _ _
      | exact spec_JoinedBy.mono _ _ _ _
      | exact spec_LastOf.mono _ _ _
      | exact spec_NormalOf.mono _ _ _
      | exact LeO.none _
      | refine LeO.ite ?_ ?_
      | refine LeO.bind ?_ (fun _ => ?_)
    · intro y0 y1
      unfold laws_FnRewrite.j4
      repeat' first
      | (with_reducible exact ih0 _ _ _ _ _ _ _ _ _ _ _)
      | (with_reducible exact ih1 _ _ _ _ _ _ _ _ _)
      | (with_reducible exact ih2 _ _ _ _ _ _ _)
      | (with_reducible exact ih3 _ _ _ _ _)
      | (with_reducible exact ih4 _ _)
      | (with_reducible exact impl_IsConfluent.mono _ _)
      | (with_reducible exact impl_JoinedBy.mono _ _ _ _)
      | (with_reducible exact impl_LastOf.mono _ _ _)
      | (with_reducible exact impl_NormalOf.mono _ _ _)
      | (with_reducible exact impl_OnceBy.mono _ _ _)
      | (with_reducible exact laws_numberOf.mono _ _)
      | (with_reducible exact spec_DrawJoinedBy.mono _ _)
      | (with_reducible exact spec_DrawNormalOf.mono _ _)
      | (with_reducible exact spec_IsConfluent.mono _ _)
      | (with_reducible exact spec_JoinedBy.mono _ _ _ _)
      | (with_reducible exact spec_LastOf.mono _ _ _)
      | (with_reducible exact spec_NormalOf.mono _ _ _)
      | (with_reducible exact LeO.refl _)
      | (with_reducible exact LeO.none _)
      | (with_reducible refine LeO.ite ?_ ?_)
      | (with_reducible refine LeO.bind ?_ (fun _ => ?_))
      | exact ih0 _ _ _ _ _ _ _ _ _ _ _
      | exact ih1 _ _ _ _ _ _ _ _ _
      | exact ih2 _ _ _ _ _ _ _
      | exact ih3 _ _ _ _ _
      | exact ih4 _ _
      | exact impl_IsConfluent.mono _ _
      | exact impl_JoinedBy.mono _ _ _ _
      | exact impl_LastOf.mono _ _ _
      | exact impl_NormalOf.mono _ _ _
      | exact impl_OnceBy.mono _ _ _
      | exact laws_numberOf.mono _ _
      | exact spec_DrawJoinedBy.mono _ _
      | exact spec_DrawNormalOf.mono _ _
      | exact spec_IsConfluent.mono _ _
      | exact spec_JoinedBy.mono _ _ _ _
      | exact spec_LastOf.mono _ _ _
      | exact spec_NormalOf.mono _ _ _
      | exact LeO.none _
      | refine LeO.ite ?_ ?_
      | refine LeO.bind ?_ (fun _ => ?_)
theorem laws_FnRewrite.mono : ∀ a0 a1 k, LeO (laws_FnRewrite.f k a0 a1) (laws_FnRewrite.f (k + 1) a0 a1) := by
  intro a0 a1 k
  obtain ⟨ih0, ih1, ih2, ih3, ih4⟩ := laws_FnRewrite.mono_l k
  unfold laws_FnRewrite.f
  repeat' first
      | (with_reducible exact ih0 _ _ _ _ _ _ _ _ _ _ _)
      | (with_reducible exact ih1 _ _ _ _ _ _ _ _ _)
      | (with_reducible exact ih2 _ _ _ _ _ _ _)
      | (with_reducible exact ih3 _ _ _ _ _)
      | (with_reducible exact ih4 _ _)
      | (with_reducible exact impl_IsConfluent.mono _ _)
      | (with_reducible exact impl_JoinedBy.mono _ _ _ _)
      | (with_reducible exact impl_LastOf.mono _ _ _)
      | (with_reducible exact impl_NormalOf.mono _ _ _)
      | (with_reducible exact impl_OnceBy.mono _ _ _)
      | (with_reducible exact laws_numberOf.mono _ _)
      | (with_reducible exact spec_DrawJoinedBy.mono _ _)
      | (with_reducible exact spec_DrawNormalOf.mono _ _)
      | (with_reducible exact spec_IsConfluent.mono _ _)
      | (with_reducible exact spec_JoinedBy.mono _ _ _ _)
      | (with_reducible exact spec_LastOf.mono _ _ _)
      | (with_reducible exact spec_NormalOf.mono _ _ _)
      | (with_reducible exact LeO.refl _)
      | (with_reducible exact LeO.none _)
      | (with_reducible refine LeO.ite ?_ ?_)
      | (with_reducible refine LeO.bind ?_ (fun _ => ?_))
      | exact ih0 _ _ _ _ _ _ _ _ _ _ _
      | exact ih1 _ _ _ _ _ _ _ _ _
      | exact ih2 _ _ _ _ _ _ _
      | exact ih3 _ _ _ _ _
      | exact ih4 _ _
      | exact impl_IsConfluent.mono _ _
      | exact impl_JoinedBy.mono _ _ _ _
      | exact impl_LastOf.mono _ _ _
      | exact impl_NormalOf.mono _ _ _
      | exact impl_OnceBy.mono _ _ _
      | exact laws_numberOf.mono _ _
      | exact spec_DrawJoinedBy.mono _ _
      | exact spec_DrawNormalOf.mono _ _
      | exact spec_IsConfluent.mono _ _
      | exact spec_JoinedBy.mono _ _ _ _
      | exact spec_LastOf.mono _ _ _
      | exact spec_NormalOf.mono _ _ _
      | exact LeO.none _
      | refine LeO.ite ?_ ?_
      | refine LeO.bind ?_ (fun _ => ?_)
set_option maxHeartbeats 8000000 in
set_option maxRecDepth 100000 in
theorem laws_FnRewrite.calls (k : Nat) (A0 : Option Addr) (c0 : Nat) (l0 : List Int) (A1 : Option Addr) (c1 : Nat) (l1 : List Int) (r : Bool) (w : World) (hr0 : Kd.C (Kd.int .u8) w A0 l0.length l0) (hc0 : l0.length ≤ c0) (hr1 : Kd.C (Kd.int .u8) w A1 l1.length l1) (hc1 : l1.length ≤ c1) (h : laws_FnRewrite.f k l0 l1 = some r) :
    Calls Try.prog 6 #[.slice A0 l0.length c0, .slice A1 l1.length c1] w fun e w' => e = .returned (.bool r) ∧ Below w.heap.size w w' := by
  have HR0 := Aside0.mk hr0
  have HC0 := Aside0.mk hc0
  clear hr0 hc0
  have HR1 := Aside0.mk hr1
  have HC1 := Aside0.mk hc1
  clear hr1 hc1
  have HB := Aside0.mk (Below.refl w.heap.size w)
  have H : (if (wrap64 ((l0.length : Int) + (l1.length : Int))) > 1048576 then (some true) else ((spec_DrawNormalOf.f k l0).bind fun bt349 => ((impl_NormalOf.f k bt349.1 bt349.2).bind fun bt353 => ((spec_NormalOf.f k bt349.1 bt349.2).bind fun bt356 => ((impl_LastOf.f k bt349.1 bt349.2).bind fun bt359 => ((spec_LastOf.f k bt349.1 bt349.2).bind fun bt361 => ((impl_IsConfluent.f k bt349.1).bind fun bt363 => ((spec_IsConfluent.f k bt349.1).bind fun bt365 => (if (bt353.2.2 != bt356.2.2) = true then (laws_FnRewrite.j0 k l1 bt349.1 bt349.2 bt353.1 bt353.2.1 bt353.2.2 bt359.1 bt359.2 bt363.1 bt363.2 true) else (if bt353.1.toList = bt356.1.toList then (if bt353.2.1 = bt356.2.1 then (if (bt359.2 != bt361.2) = true then (laws_FnRewrite.j0 k l1 bt349.1 bt349.2 bt353.1 bt353.2.1 bt353.2.2 bt359.1 bt359.2 bt363.1 bt363.2 true) else (if bt359.1.toList = bt361.1.toList then (if (bt363.2 != bt365.2) = true then (laws_FnRewrite.j0 k l1 bt349.1 bt349.2 bt353.1 bt353.2.1 bt353.2.2 bt359.1 bt359.2 bt363.1 bt363.2 true) else (laws_FnRewrite.j0 k l1 bt349.1 bt349.2 bt353.1 bt353.2.1 bt353.2.2 bt359.1 bt359.2 bt363.1 bt363.2 (bt363.1 != bt365.1))) else (laws_FnRewrite.j0 k l1 bt349.1 bt349.2 bt353.1 bt353.2.1 bt353.2.2 bt359.1 bt359.2 bt363.1 bt363.2 true))) else (laws_FnRewrite.j0 k l1 bt349.1 bt349.2 bt353.1 bt353.2.1 bt353.2.2 bt359.1 bt359.2 bt363.1 bt363.2 true)) else (laws_FnRewrite.j0 k l1 bt349.1 bt349.2 bt353.1 bt353.2.1 bt353.2.2 bt359.1 bt359.2 bt363.1 bt363.2 true))))))))))) = some r := h
  clear h
  by_cases c3 : (wrap64 ((l0.length : Int) + (l1.length : Int))) > 1048576
  · rw [if_pos c3] at H
    have c3b0 : decide (1048576 < (wrap64 ((l0.length : Int) + (l1.length : Int)))) = true := decide_eq_true c3
    clear c3
    obtain rfl := Option.some.inj H
    go_enter Try.func6, Try.ntmps6
    go_wp2
    go_ret
    exact ⟨by first | rfl | (simp [errW_none, errW_some] <;> rfl) | (simp [*, errW_none, errW_some] <;> rfl), by repeat (first | (with_reducible first | exact HB.out | apply below_alloc | apply pw_below_drewN | apply below_drew1) | exact HB.out)⟩
  · rw [if_neg c3] at H
    have c3b0 : decide (1048576 < (wrap64 ((l0.length : Int) + (l1.length : Int)))) = false := decide_eq_false c3
    clear c3
    replace H := Option.bind_eq_some_iff.mp H
    obtain ⟨⟨t349, t350⟩, A40, H⟩ := H
    replace H : ((impl_NormalOf.f k t349 t350).bind fun bt353 => ((spec_NormalOf.f k t349 t350).bind fun bt356 => ((impl_LastOf.f k t349 t350).bind fun bt359 => ((spec_LastOf.f k t349 t350).bind fun bt361 => ((impl_IsConfluent.f k t349).bind fun bt363 => ((spec_IsConfluent.f k t349).bind fun bt365 => (if (bt353.2.2 != bt356.2.2) = true then (laws_FnRewrite.j0 k l1 t349 t350 bt353.1 bt353.2.1 bt353.2.2 bt359.1 bt359.2 bt363.1 bt363.2 true) else (if bt353.1.toList = bt356.1.toList then (if bt353.2.1 = bt356.2.1 then (if (bt359.2 != bt361.2) = true then (laws_FnRewrite.j0 k l1 t349 t350 bt353.1 bt353.2.1 bt353.2.2 bt359.1 bt359.2 bt363.1 bt363.2 true) else (if bt359.1.toList = bt361.1.toList then (if (bt363.2 != bt365.2) = true then (laws_FnRewrite.j0 k l1 t349 t350 bt353.1 bt353.2.1 bt353.2.2 bt359.1 bt359.2 bt363.1 bt363.2 true) else (laws_FnRewrite.j0 k l1 t349 t350 bt353.1 bt353.2.1 bt353.2.2 bt359.1 bt359.2 bt363.1 bt363.2 (bt363.1 != bt365.1))) else (laws_FnRewrite.j0 k l1 t349 t350 bt353.1 bt353.2.1 bt353.2.2 bt359.1 bt359.2 bt363.1 bt363.2 true))) else (laws_FnRewrite.j0 k l1 t349 t350 bt353.1 bt353.2.1 bt353.2.2 bt359.1 bt359.2 bt363.1 bt363.2 true)) else (laws_FnRewrite.j0 k l1 t349 t350 bt353.1 bt353.2.1 bt353.2.2 bt359.1 bt359.2 bt363.1 bt363.2 true))))))))) = some r := H
    have A4 := Aside0.mk A40
    clear A40
    replace H := Option.bind_eq_some_iff.mp H
    obtain ⟨⟨t353, t354, t355⟩, A50, H⟩ := H
    replace H : ((spec_NormalOf.f k t349 t350).bind fun bt356 => ((impl_LastOf.f k t349 t350).bind fun bt359 => ((spec_LastOf.f k t349 t350).bind fun bt361 => ((impl_IsConfluent.f k t349).bind fun bt363 => ((spec_IsConfluent.f k t349).bind fun bt365 => (if (t355 != bt356.2.2) = true then (laws_FnRewrite.j0 k l1 t349 t350 t353 t354 t355 bt359.1 bt359.2 bt363.1 bt363.2 true) else (if t353.toList = bt356.1.toList then (if t354 = bt356.2.1 then (if (bt359.2 != bt361.2) = true then (laws_FnRewrite.j0 k l1 t349 t350 t353 t354 t355 bt359.1 bt359.2 bt363.1 bt363.2 true) else (if bt359.1.toList = bt361.1.toList then (if (bt363.2 != bt365.2) = true then (laws_FnRewrite.j0 k l1 t349 t350 t353 t354 t355 bt359.1 bt359.2 bt363.1 bt363.2 true) else (laws_FnRewrite.j0 k l1 t349 t350 t353 t354 t355 bt359.1 bt359.2 bt363.1 bt363.2 (bt363.1 != bt365.1))) else (laws_FnRewrite.j0 k l1 t349 t350 t353 t354 t355 bt359.1 bt359.2 bt363.1 bt363.2 true))) else (laws_FnRewrite.j0 k l1 t349 t350 t353 t354 t355 bt359.1 bt359.2 bt363.1 bt363.2 true)) else (laws_FnRewrite.j0 k l1 t349 t350 t353 t354 t355 bt359.1 bt359.2 bt363.1 bt363.2 true)))))))) = some r := H
    have A5 := Aside0.mk A50
    clear A50
    replace H := Option.bind_eq_some_iff.mp H
    obtain ⟨⟨t356, t357, t358⟩, A60, H⟩ := H
    replace H : ((impl_LastOf.f k t349 t350).bind fun bt359 => ((spec_LastOf.f k t349 t350).bind fun bt361 => ((impl_IsConfluent.f k t349).bind fun bt363 => ((spec_IsConfluent.f k t349).bind fun bt365 => (if (t355 != t358) = true then (laws_FnRewrite.j0 k l1 t349 t350 t353 t354 t355 bt359.1 bt359.2 bt363.1 bt363.2 true) else (if t353.toList = t356.toList then (if t354 = t357 then (if (bt359.2 != bt361.2) = true then (laws_FnRewrite.j0 k l1 t349 t350 t353 t354 t355 bt359.1 bt359.2 bt363.1 bt363.2 true) else (if bt359.1.toList = bt361.1.toList then (if (bt363.2 != bt365.2) = true then (laws_FnRewrite.j0 k l1 t349 t350 t353 t354 t355 bt359.1 bt359.2 bt363.1 bt363.2 true) else (laws_FnRewrite.j0 k l1 t349 t350 t353 t354 t355 bt359.1 bt359.2 bt363.1 bt363.2 (bt363.1 != bt365.1))) else (laws_FnRewrite.j0 k l1 t349 t350 t353 t354 t355 bt359.1 bt359.2 bt363.1 bt363.2 true))) else (laws_FnRewrite.j0 k l1 t349 t350 t353 t354 t355 bt359.1 bt359.2 bt363.1 bt363.2 true)) else (laws_FnRewrite.j0 k l1 t349 t350 t353 t354 t355 bt359.1 bt359.2 bt363.1 bt363.2 true))))))) = some r := H
    have A6 := Aside0.mk A60
    clear A60
    replace H := Option.bind_eq_some_iff.mp H
    obtain ⟨⟨t359, t360⟩, A70, H⟩ := H
    replace H : ((spec_LastOf.f k t349 t350).bind fun bt361 => ((impl_IsConfluent.f k t349).bind fun bt363 => ((spec_IsConfluent.f k t349).bind fun bt365 => (if (t355 != t358) = true then (laws_FnRewrite.j0 k l1 t349 t350 t353 t354 t355 t359 t360 bt363.1 bt363.2 true) else (if t353.toList = t356.toList then (if t354 = t357 then (if (t360 != bt361.2) = true then (laws_FnRewrite.j0 k l1 t349 t350 t353 t354 t355 t359 t360 bt363.1 bt363.2 true) else (if t359.toList = bt361.1.toList then (if (bt363.2 != bt365.2) = true then (laws_FnRewrite.j0 k l1 t349 t350 t353 t354 t355 t359 t360 bt363.1 bt363.2 true) else (laws_FnRewrite.j0 k l1 t349 t350 t353 t354 t355 t359 t360 bt363.1 bt363.2 (bt363.1 != bt365.1))) else (laws_FnRewrite.j0 k l1 t349 t350 t353 t354 t355 t359 t360 bt363.1 bt363.2 true))) else (laws_FnRewrite.j0 k l1 t349 t350 t353 t354 t355 t359 t360 bt363.1 bt363.2 true)) else (laws_FnRewrite.j0 k l1 t349 t350 t353 t354 t355 t359 t360 bt363.1 bt363.2 true)))))) = some r := H
    have A7 := Aside0.mk A70
    clear A70
    replace H := Option.bind_eq_some_iff.mp H
    obtain ⟨⟨t361, t362⟩, A80, H⟩ := H
    replace H : ((impl_IsConfluent.f k t349).bind fun bt363 => ((spec_IsConfluent.f k t349).bind fun bt365 => (if (t355 != t358) = true then (laws_FnRewrite.j0 k l1 t349 t350 t353 t354 t355 t359 t360 bt363.1 bt363.2 true) else (if t353.toList = t356.toList then (if t354 = t357 then (if (t360 != t362) = true then (laws_FnRewrite.j0 k l1 t349 t350 t353 t354 t355 t359 t360 bt363.1 bt363.2 true) else (if t359.toList = t361.toList then (if (bt363.2 != bt365.2) = true then (laws_FnRewrite.j0 k l1 t349 t350 t353 t354 t355 t359 t360 bt363.1 bt363.2 true) else (laws_FnRewrite.j0 k l1 t349 t350 t353 t354 t355 t359 t360 bt363.1 bt363.2 (bt363.1 != bt365.1))) else (laws_FnRewrite.j0 k l1 t349 t350 t353 t354 t355 t359 t360 bt363.1 bt363.2 true))) else (laws_FnRewrite.j0 k l1 t349 t350 t353 t354 t355 t359 t360 bt363.1 bt363.2 true)) else (laws_FnRewrite.j0 k l1 t349 t350 t353 t354 t355 t359 t360 bt363.1 bt363.2 true))))) = some r := H
    have A8 := Aside0.mk A80
    clear A80
    replace H := Option.bind_eq_some_iff.mp H
    obtain ⟨⟨t363, t364⟩, A90, H⟩ := H
    replace H : ((spec_IsConfluent.f k t349).bind fun bt365 => (if (t355 != t358) = true then (laws_FnRewrite.j0 k l1 t349 t350 t353 t354 t355 t359 t360 t363 t364 true) else (if t353.toList = t356.toList then (if t354 = t357 then (if (t360 != t362) = true then (laws_FnRewrite.j0 k l1 t349 t350 t353 t354 t355 t359 t360 t363 t364 true) else (if t359.toList = t361.toList then (if (t364 != bt365.2) = true then (laws_FnRewrite.j0 k l1 t349 t350 t353 t354 t355 t359 t360 t363 t364 true) else (laws_FnRewrite.j0 k l1 t349 t350 t353 t354 t355 t359 t360 t363 t364 (t363 != bt365.1))) else (laws_FnRewrite.j0 k l1 t349 t350 t353 t354 t355 t359 t360 t363 t364 true))) else (laws_FnRewrite.j0 k l1 t349 t350 t353 t354 t355 t359 t360 t363 t364 true)) else (laws_FnRewrite.j0 k l1 t349 t350 t353 t354 t355 t359 t360 t363 t364 true)))) = some r := H
    have A9 := Aside0.mk A90
    clear A90
    replace H := Option.bind_eq_some_iff.mp H
    obtain ⟨⟨t365, t366⟩, A100, H⟩ := H
    replace H : (if (t355 != t358) = true then (laws_FnRewrite.j0 k l1 t349 t350 t353 t354 t355 t359 t360 t363 t364 true) else (if t353.toList = t356.toList then (if t354 = t357 then (if (t360 != t362) = true then (laws_FnRewrite.j0 k l1 t349 t350 t353 t354 t355 t359 t360 t363 t364 true) else (if t359.toList = t361.toList then (if (t364 != t366) = true then (laws_FnRewrite.j0 k l1 t349 t350 t353 t354 t355 t359 t360 t363 t364 true) else (laws_FnRewrite.j0 k l1 t349 t350 t353 t354 t355 t359 t360 t363 t364 (t363 != t365))) else (laws_FnRewrite.j0 k l1 t349 t350 t353 t354 t355 t359 t360 t363 t364 true))) else (laws_FnRewrite.j0 k l1 t349 t350 t353 t354 t355 t359 t360 t363 t364 true)) else (laws_FnRewrite.j0 k l1 t349 t350 t353 t354 t355 t359 t360 t363 t364 true))) = some r := H
    have A10 := Aside0.mk A100
    clear A100
    have HC11 := Aside0.mk H
    clear H
    go_enter Try.func6, Try.ntmps6
    go_upto_region 10 with (first | ((with_reducible refine gate_callee (f := 26) rfl ?_); refine goesL_ (some 43) rfl rfl Try.func26 (by kernel_rfl) rfl #[.slice A0 l0.length c0] rfl (by (try simp only [List.map_toArray, List.map_cons, List.map_nil]); first | done | rfl | (simp only [List.length_drop, List.length_take]; rfl)) ?_; (with_reducible refine (spec_DrawNormalOf.calls k _ _ l0 t349 t350 _ ?side1 ?side2 A4.out).mono ?_); (case side1 => repeat (first | exact HR0.out | (with_reducible refine Kd.C_alloc ?_ _) | (with_reducible refine Kd.C_drewN ?_ _) | (with_reducible refine Kd.C_drew ?_))); (case side2 => exact HC0.out); rintro e w12 ⟨v351, rfl, ho0, hb⟩; refine ⟨_, rfl, ?_⟩; have n0_ := Aside0.mk (Kd.R_lower ho0 (below_size (by repeat (first | (with_reducible first | exact HB.out | apply below_alloc | apply pw_below_drewN | apply below_drew1) | exact HB.out)))); have n1_ := Aside0.mk (below_step (by repeat (first | (with_reducible first | exact HB.out | apply below_alloc | apply pw_below_drewN | apply below_drew1) | exact HB.out)) hb); clear HB; have HO352 := n0_; have HB := n1_; clear n0_ n1_; (try clear hb); (try clear hb2); (try clear hk); (try clear hi); (try clear ho0); obtain ⟨Ao13, co13, eo13⟩ := Kd.R_slice HO352.out; subst eo13) | ((with_reducible refine gate_callee (f := 27) rfl ?_); refine goesL_ (some 49) rfl rfl Try.func27 (by kernel_rfl) rfl #[.slice Ao13 t349.length co13, .string t350] rfl (by (try simp only [List.map_toArray, List.map_cons, List.map_nil]); first | done | rfl | (simp only [List.length_drop, List.length_take]; rfl)) ?_; (with_reducible refine (impl_NormalOf.calls k _ _ t349 t350 t353 t354 t355 _ ?side1 ?side2 A5.out).mono ?_); (case side1 => repeat (first | exact (Kd.R_reads' HO352.out).2.2 | (with_reducible refine Kd.C_alloc ?_ _) | (with_reducible refine Kd.C_drewN ?_ _) | (with_reducible refine Kd.C_drew ?_))); (case side2 => exact (Kd.R_reads' HO352.out).2.1); rintro e w14 ⟨rfl, hb⟩; refine ⟨_, rfl, ?_⟩; have n0_ := Aside0.mk (Kd.R_below (by (with_reducible repeat (first | apply Kd.R_alloc | apply Kd.R_drewN | apply Kd.R_drew)); exact HO352.out) hb); have n1_ := Aside0.mk (below_step (by repeat (first | (with_reducible first | exact HB.out | apply below_alloc | apply pw_below_drewN | apply below_drew1) | exact HB.out)) hb); clear HO352; clear HB; have HO352 := n0_; have HB := n1_; clear n0_ n1_; (try clear hb); (try clear hb2); (try clear hk); (try clear hi)) | ((with_reducible refine gate_callee (f := 28) rfl ?_); refine goesL_ (some 56) rfl rfl Try.func28 (by kernel_rfl) rfl #[.slice Ao13 t349.length co13, .string t350] rfl (by (try simp only [List.map_toArray, List.map_cons, List.map_nil]); first | done | rfl | (simp only [List.length_drop, List.length_take]; rfl)) ?_; (with_reducible refine (spec_NormalOf.calls k _ _ t349 t350 t356 t357 t358 _ ?side1 ?side2 A6.out).mono ?_); (case side1 => repeat (first | exact (Kd.R_reads' HO352.out).2.2 | (with_reducible refine Kd.C_alloc ?_ _) | (with_reducible refine Kd.C_drewN ?_ _) | (with_reducible refine Kd.C_drew ?_))); (case side2 => exact (Kd.R_reads' HO352.out).2.1); rintro e w15 ⟨rfl, hb⟩; refine ⟨_, rfl, ?_⟩; have n0_ := Aside0.mk (Kd.R_below (by (with_reducible repeat (first | apply Kd.R_alloc | apply Kd.R_drewN | apply Kd.R_drew)); exact HO352.out) hb); have n1_ := Aside0.mk (below_step (by repeat (first | (with_reducible first | exact HB.out | apply below_alloc | apply pw_below_drewN | apply below_drew1) | exact HB.out)) hb); clear HO352; clear HB; have HO352 := n0_; have HB := n1_; clear n0_ n1_; (try clear hb); (try clear hb2); (try clear hk); (try clear hi)) | ((with_reducible refine gate_callee (f := 29) rfl ?_); refine goesL_ (some 63) rfl rfl Try.func29 (by kernel_rfl) rfl #[.slice Ao13 t349.length co13, .string t350] rfl (by (try simp only [List.map_toArray, List.map_cons, List.map_nil]); first | done | rfl | (simp only [List.length_drop, List.length_take]; rfl)) ?_; (with_reducible refine (impl_LastOf.calls k _ _ t349 t350 t359 t360 _ ?side1 ?side2 A7.out).mono ?_); (case side1 => repeat (first | exact (Kd.R_reads' HO352.out).2.2 | (with_reducible refine Kd.C_alloc ?_ _) | (with_reducible refine Kd.C_drewN ?_ _) | (with_reducible refine Kd.C_drew ?_))); (case side2 => exact (Kd.R_reads' HO352.out).2.1); rintro e w16 ⟨rfl, hb⟩; refine ⟨_, rfl, ?_⟩; have n0_ := Aside0.mk (Kd.R_below (by (with_reducible repeat (first | apply Kd.R_alloc | apply Kd.R_drewN | apply Kd.R_drew)); exact HO352.out) hb); have n1_ := Aside0.mk (below_step (by repeat (first | (with_reducible first | exact HB.out | apply below_alloc | apply pw_below_drewN | apply below_drew1) | exact HB.out)) hb); clear HO352; clear HB; have HO352 := n0_; have HB := n1_; clear n0_ n1_; (try clear hb); (try clear hb2); (try clear hk); (try clear hi)) | ((with_reducible refine gate_callee (f := 30) rfl ?_); refine goesL_ (some 69) rfl rfl Try.func30 (by kernel_rfl) rfl #[.slice Ao13 t349.length co13, .string t350] rfl (by (try simp only [List.map_toArray, List.map_cons, List.map_nil]); first | done | rfl | (simp only [List.length_drop, List.length_take]; rfl)) ?_; (with_reducible refine (spec_LastOf.calls k _ _ t349 t350 t361 t362 _ ?side1 ?side2 A8.out).mono ?_); (case side1 => repeat (first | exact (Kd.R_reads' HO352.out).2.2 | (with_reducible refine Kd.C_alloc ?_ _) | (with_reducible refine Kd.C_drewN ?_ _) | (with_reducible refine Kd.C_drew ?_))); (case side2 => exact (Kd.R_reads' HO352.out).2.1); rintro e w17 ⟨rfl, hb⟩; refine ⟨_, rfl, ?_⟩; have n0_ := Aside0.mk (Kd.R_below (by (with_reducible repeat (first | apply Kd.R_alloc | apply Kd.R_drewN | apply Kd.R_drew)); exact HO352.out) hb); have n1_ := Aside0.mk (below_step (by repeat (first | (with_reducible first | exact HB.out | apply below_alloc | apply pw_below_drewN | apply below_drew1) | exact HB.out)) hb); clear HO352; clear HB; have HO352 := n0_; have HB := n1_; clear n0_ n1_; (try clear hb); (try clear hb2); (try clear hk); (try clear hi)) | ((with_reducible refine gate_callee (f := 25) rfl ?_); refine goesL_ (some 74) rfl rfl Try.func25 (by kernel_rfl) rfl #[.slice Ao13 t349.length co13] rfl (by (try simp only [List.map_toArray, List.map_cons, List.map_nil]); first | done | rfl | (simp only [List.length_drop, List.length_take]; rfl)) ?_; (with_reducible refine (impl_IsConfluent.calls k _ _ t349 t363 t364 _ ?side1 ?side2 A9.out).mono ?_); (case side1 => repeat (first | exact (Kd.R_reads' HO352.out).2.2 | (with_reducible refine Kd.C_alloc ?_ _) | (with_reducible refine Kd.C_drewN ?_ _) | (with_reducible refine Kd.C_drew ?_))); (case side2 => exact (Kd.R_reads' HO352.out).2.1); rintro e w18 ⟨rfl, hb⟩; refine ⟨_, rfl, ?_⟩; have n0_ := Aside0.mk (Kd.R_below (by (with_reducible repeat (first | apply Kd.R_alloc | apply Kd.R_drewN | apply Kd.R_drew)); exact HO352.out) hb); have n1_ := Aside0.mk (below_step (by repeat (first | (with_reducible first | exact HB.out | apply below_alloc | apply pw_below_drewN | apply below_drew1) | exact HB.out)) hb); clear HO352; clear HB; have HO352 := n0_; have HB := n1_; clear n0_ n1_; (try clear hb); (try clear hb2); (try clear hk); (try clear hi)) | ((with_reducible refine gate_callee (f := 24) rfl ?_); refine goesL_ (some 79) rfl rfl Try.func24 (by kernel_rfl) rfl #[.slice Ao13 t349.length co13] rfl (by (try simp only [List.map_toArray, List.map_cons, List.map_nil]); first | done | rfl | (simp only [List.length_drop, List.length_take]; rfl)) ?_; (with_reducible refine (spec_IsConfluent.calls k _ _ t349 t365 t366 _ ?side1 ?side2 A10.out).mono ?_); (case side1 => repeat (first | exact (Kd.R_reads' HO352.out).2.2 | (with_reducible refine Kd.C_alloc ?_ _) | (with_reducible refine Kd.C_drewN ?_ _) | (with_reducible refine Kd.C_drew ?_))); (case side2 => exact (Kd.R_reads' HO352.out).2.1); rintro e w19 ⟨rfl, hb⟩; refine ⟨_, rfl, ?_⟩; have n0_ := Aside0.mk (Kd.R_below (by (with_reducible repeat (first | apply Kd.R_alloc | apply Kd.R_drewN | apply Kd.R_drew)); exact HO352.out) hb); have n1_ := Aside0.mk (below_step (by repeat (first | (with_reducible first | exact HB.out | apply below_alloc | apply pw_below_drewN | apply below_drew1) | exact HB.out)) hb); clear HO352; clear HB; have HO352 := n0_; have HB := n1_; clear n0_ n1_; (try clear hb); (try clear hb2); (try clear hk); (try clear hi)))
    (try simp only [Act.put, List.setIfInBounds_toArray, List.set_cons_zero, List.set_cons_succ])
    go_cut [114] (fun v114 wc => ∃ (kq : Nat) (x114_10 : Bool), v114 = .bool x114_10 ∧ Aside0 (laws_FnRewrite.j0 kq l1 t349 t350 t353 t354 t355 t359 t360 t363 t364 x114_10 = some r) ∧ Aside0 (kq ≤ k) ∧ Aside0 (Kd.R k59 59 wc w.heap.size (fun _ => True) (.slice Ao13 t349.length co13) t349) ∧ Aside0 (Below w.heap.size w wc))
    case first => as_aux_lemma =>
      have H := HC11.out
      clear HC11
      by_cases c20 : (t355 != t358) = true
      · rw [if_pos c20] at H
        have c20b0 : (t355 != t358) = true := c20
        (try (have c20b1 : decide (t355 = t358) = false := by simpa using c20))
        (try (have c20b2 : (t355 == t358) = false := by simpa using c20))
        (try (have c20b3 : ¬ (t355 = t358) := by simpa using c20))
        clear c20
        (first | rw [c20b0] | (simp only [i64_w, i32_w]; rw [c20b0]) | skip)
        have H' := Aside0.mk H
        clear H
        go_wp2
        go_meet
        case rel => exact ⟨_, (true), (by first | rfl | (simp; done) | (simp [*]; done)), H', ⟨by first | omega | exact Nat.le_refl _⟩, ⟨by (with_reducible repeat (first | apply Kd.R_alloc | apply Kd.R_drewN | apply Kd.R_drew)); exact HO352.out⟩, ⟨by repeat (first | (with_reducible first | exact HB.out | apply below_alloc | apply pw_below_drewN | apply below_drew1) | exact HB.out)⟩⟩
      · rw [if_neg c20] at H
        have c20b0 : (t355 != t358) = false := by simpa using c20
        (try (have c20b1 : decide (t355 = t358) = true := by simpa using c20))
        (try (have c20b2 : (t355 == t358) = true := by simpa using c20))
        clear c20
        (first | rw [c20b0] | (simp only [i64_w, i32_w]; rw [c20b0]) | skip)
        by_cases c21 : t353.toList = t356.toList
        · rw [if_pos c21] at H
          have c21b0 : (t353.toList == t356.toList) = true := beq_iff_eq.mpr c21
          have c21b1 : (t353.toList != t356.toList) = false := bne_eq_false_iff_eq.mpr c21
          clear c21
          by_cases c22 : t354 = t357
          · rw [if_pos c22] at H
            have c22b0 : (t354 == t357) = true := beq_iff_eq.mpr c22
            have c22b1 : (t354 != t357) = false := bne_eq_false_iff_eq.mpr c22
            clear c22
            by_cases c23 : (t360 != t362) = true
            · rw [if_pos c23] at H
              have c23b0 : (t360 != t362) = true := c23
              (try (have c23b1 : decide (t360 = t362) = false := by simpa using c23))
              (try (have c23b2 : (t360 == t362) = false := by simpa using c23))
              (try (have c23b3 : ¬ (t360 = t362) := by simpa using c23))
              clear c23
              have H' := Aside0.mk H
              clear H
              go_wp2
              go_meet
              case rel => exact ⟨_, (true), (by first | rfl | (simp; done) | (simp [*]; done)), H', ⟨by first | omega | exact Nat.le_refl _⟩, ⟨by (with_reducible repeat (first | apply Kd.R_alloc | apply Kd.R_drewN | apply Kd.R_drew)); exact HO352.out⟩, ⟨by repeat (first | (with_reducible first | exact HB.out | apply below_alloc | apply pw_below_drewN | apply below_drew1) | exact HB.out)⟩⟩
            · rw [if_neg c23] at H
              have c23b0 : (t360 != t362) = false := by simpa using c23
              (try (have c23b1 : decide (t360 = t362) = true := by simpa using c23))
              (try (have c23b2 : (t360 == t362) = true := by simpa using c23))
              clear c23
              by_cases c24 : t359.toList = t361.toList
              · rw [if_pos c24] at H
                have c24b0 : (t359.toList == t361.toList) = true := beq_iff_eq.mpr c24
                have c24b1 : (t359.toList != t361.toList) = false := bne_eq_false_iff_eq.mpr c24
                clear c24
                by_cases c25 : (t364 != t366) = true
                · rw [if_pos c25] at H
                  have c25b0 : (t364 != t366) = true := c25
                  (try (have c25b1 : decide (t364 = t366) = false := by simpa using c25))
                  (try (have c25b2 : (t364 == t366) = false := by simpa using c25))
                  (try (have c25b3 : ¬ (t364 = t366) := by simpa using c25))
                  clear c25
                  have H' := Aside0.mk H
                  clear H
                  go_wp2
                  go_meet
                  case rel => exact ⟨_, (true), (by first | rfl | (simp; done) | (simp [*]; done)), H', ⟨by first | omega | exact Nat.le_refl _⟩, ⟨by (with_reducible repeat (first | apply Kd.R_alloc | apply Kd.R_drewN | apply Kd.R_drew)); exact HO352.out⟩, ⟨by repeat (first | (with_reducible first | exact HB.out | apply below_alloc | apply pw_below_drewN | apply below_drew1) | exact HB.out)⟩⟩
                · rw [if_neg c25] at H
                  have c25b0 : (t364 != t366) = false := by simpa using c25
                  (try (have c25b1 : decide (t364 = t366) = true := by simpa using c25))
                  (try (have c25b2 : (t364 == t366) = true := by simpa using c25))
                  clear c25
                  have H' := Aside0.mk H
                  clear H
                  go_wp2
                  go_meet
                  case rel => exact ⟨_, ((t363 != t365)), (by first | rfl | (simp; done) | (simp [*]; done)), H', ⟨by first | omega | exact Nat.le_refl _⟩, ⟨by (with_reducible repeat (first | apply Kd.R_alloc | apply Kd.R_drewN | apply Kd.R_drew)); exact HO352.out⟩, ⟨by repeat (first | (with_reducible first | exact HB.out | apply below_alloc | apply pw_below_drewN | apply below_drew1) | exact HB.out)⟩⟩
              · rw [if_neg c24] at H
                have c24b0 : (t359.toList == t361.toList) = false := beq_eq_false_iff_ne.mpr c24
                have c24b1 : (t359.toList != t361.toList) = true := bne_iff_ne.mpr c24
                have H' := Aside0.mk H
                clear H
                go_wp2
                go_meet
                case rel => exact ⟨_, (true), (by first | rfl | (simp; done) | (simp [*]; done)), H', ⟨by first | omega | exact Nat.le_refl _⟩, ⟨by (with_reducible repeat (first | apply Kd.R_alloc | apply Kd.R_drewN | apply Kd.R_drew)); exact HO352.out⟩, ⟨by repeat (first | (with_reducible first | exact HB.out | apply below_alloc | apply pw_below_drewN | apply below_drew1) | exact HB.out)⟩⟩
          · rw [if_neg c22] at H
            have c22b0 : (t354 == t357) = false := beq_eq_false_iff_ne.mpr c22
            have c22b1 : (t354 != t357) = true := bne_iff_ne.mpr c22
            have H' := Aside0.mk H
            clear H
            go_wp2
            go_meet
            case rel => exact ⟨_, (true), (by first | rfl | (simp; done) | (simp [*]; done)), H', ⟨by first | omega | exact Nat.le_refl _⟩, ⟨by (with_reducible repeat (first | apply Kd.R_alloc | apply Kd.R_drewN | apply Kd.R_drew)); exact HO352.out⟩, ⟨by repeat (first | (with_reducible first | exact HB.out | apply below_alloc | apply pw_below_drewN | apply below_drew1) | exact HB.out)⟩⟩
        · rw [if_neg c21] at H
          have c21b0 : (t353.toList == t356.toList) = false := beq_eq_false_iff_ne.mpr c21
          have c21b1 : (t353.toList != t356.toList) = true := bne_iff_ne.mpr c21
          have H' := Aside0.mk H
          clear H
          go_wp2
          go_meet
          case rel => exact ⟨_, (true), (by first | rfl | (simp; done) | (simp [*]; done)), H', ⟨by first | omega | exact Nat.le_refl _⟩, ⟨by (with_reducible repeat (first | apply Kd.R_alloc | apply Kd.R_drewN | apply Kd.R_drew)); exact HO352.out⟩, ⟨by repeat (first | (with_reducible first | exact HB.out | apply below_alloc | apply pw_below_drewN | apply below_drew1) | exact HB.out)⟩⟩
    case rest => as_aux_lemma =>
      clear HC11
      try clear c1
      try clear c2
      try clear p2
      try clear c3
      try clear c3b0
      try clear c6
      try clear p6
      try clear c20
      try clear c20b0
      try clear c20b1
      try clear c20b2
      try clear c21
      try clear c21b0
      try clear c21b1
      try clear c22
      try clear c22b0
      try clear c22b1
      try clear c23
      try clear c23b0
      try clear c23b1
      try clear c23b2
      try clear c24
      try clear c24b0
      try clear c24b1
      try clear c25
      try clear c25b0
      try clear c25b1
      try clear c25b2
      obtain ⟨kq, x114_10, rfl, HA, HJ10, HO_5, HB⟩ := hcut
      cases kq with
      | zero => exact absurd HA.out (by simp [laws_FnRewrite.j0])
      | succ kj10 =>
        have H := HA.out
        clear HA
        simp only [laws_FnRewrite.j0] at H
        by_cases c26 : x114_10 = true
        · subst c26
          have H1 : (some false) = some r := by rw [if_pos rfl] at H; exact H
          clear H
          have H := H1
          clear H1
          obtain rfl := Option.some.inj H
          go_wp2
          go_ret
          exact ⟨by first | rfl | (simp [errW_none, errW_some] <;> rfl) | (simp [*, errW_none, errW_some] <;> rfl), by repeat (first | (with_reducible first | exact HB.out | apply below_alloc | apply pw_below_drewN | apply below_drew1) | exact HB.out)⟩
        · replace c26 := Bool.eq_false_iff.mpr c26
          subst c26
          have H1 : (if t355 = true then ((impl_OnceBy.f kj10 t349 t353).bind fun bt367 => (if bt367.2 = true then (if (bt367.1.length : Int) > 0 then (laws_FnRewrite.j1 kj10 l1 t349 t350 t353 t359 t360 t363 t364 true) else (if ((t354 == 0) != (t353.toList == t350.toList)) = true then (laws_FnRewrite.j1 kj10 l1 t349 t350 t353 t359 t360 t363 t364 true) else (if t354 > 0 then ((impl_ShortLess.f t353 t350).bind fun t371 => (laws_FnRewrite.j1 kj10 l1 t349 t350 t353 t359 t360 t363 t364 (!t371))) else (laws_FnRewrite.j1 kj10 l1 t349 t350 t353 t359 t360 t363 t364 false)))) else (laws_FnRewrite.j1 kj10 l1 t349 t350 t353 t359 t360 t363 t364 true))) else ((spec_DrawJoinedBy.f kj10 l1).bind fun bt408 => ((impl_JoinedBy.f kj10 bt408.1 bt408.2.1 bt408.2.2).bind fun bt413 => ((spec_JoinedBy.f kj10 bt408.1 bt408.2.1 bt408.2.2).bind fun bt415 => (if (bt413.2 == bt415.2) = true then (some (bt413.1 == bt415.1)) else (some false)))))) = some r := by rw [if_neg (show ¬ (false = true) by decide)] at H; exact H
          clear H
          have H := H1
          clear H1
          by_cases c27 : t355 = true
          · subst c27
            have H1 : ((impl_OnceBy.f kj10 t349 t353).bind fun bt367 => (if bt367.2 = true then (if (bt367.1.length : Int) > 0 then (laws_FnRewrite.j1 kj10 l1 t349 t350 t353 t359 t360 t363 t364 true) else (if ((t354 == 0) != (t353.toList == t350.toList)) = true then (laws_FnRewrite.j1 kj10 l1 t349 t350 t353 t359 t360 t363 t364 true) else (if t354 > 0 then ((impl_ShortLess.f t353 t350).bind fun t371 => (laws_FnRewrite.j1 kj10 l1 t349 t350 t353 t359 t360 t363 t364 (!t371))) else (laws_FnRewrite.j1 kj10 l1 t349 t350 t353 t359 t360 t363 t364 false)))) else (laws_FnRewrite.j1 kj10 l1 t349 t350 t353 t359 t360 t363 t364 true))) = some r := by rw [if_pos rfl] at H; exact H
            clear H
            have H := H1
            clear H1
            replace H := Option.bind_eq_some_iff.mp H
            obtain ⟨⟨t367, t368⟩, A280, H⟩ := H
            replace H : (if t368 = true then (if (t367.length : Int) > 0 then (laws_FnRewrite.j1 kj10 l1 t349 t350 t353 t359 t360 t363 t364 true) else (if ((t354 == 0) != (t353.toList == t350.toList)) = true then (laws_FnRewrite.j1 kj10 l1 t349 t350 t353 t359 t360 t363 t364 true) else (if t354 > 0 then ((impl_ShortLess.f t353 t350).bind fun t371 => (laws_FnRewrite.j1 kj10 l1 t349 t350 t353 t359 t360 t363 t364 (!t371))) else (laws_FnRewrite.j1 kj10 l1 t349 t350 t353 t359 t360 t363 t364 false)))) else (laws_FnRewrite.j1 kj10 l1 t349 t350 t353 t359 t360 t363 t364 true)) = some r := H
            have A28 := Aside0.mk A280
            clear A280
            have HC29 := Aside0.mk H
            clear H
            go_upto_region 14 with (first | ((with_reducible refine gate_callee (f := 12) rfl ?_); refine goesL_ (some 119) rfl rfl Try.func12 (by kernel_rfl) rfl #[.slice Ao13 t349.length co13, .string t353] rfl (by (try simp only [List.map_toArray, List.map_cons, List.map_nil]); first | done | rfl | (simp only [List.length_drop, List.length_take]; rfl)) ?_; (with_reducible refine (impl_OnceBy.calls kj10 _ _ t349 t353 t367 t368 _ ?side1 ?side2 A28.out).mono ?_); (case side1 => repeat (first | exact (Kd.R_reads' HO_5.out).2.2 | (with_reducible refine Kd.C_alloc ?_ _) | (with_reducible refine Kd.C_drewN ?_ _) | (with_reducible refine Kd.C_drew ?_))); (case side2 => exact (Kd.R_reads' HO_5.out).2.1); rintro e w30 ⟨v369, rfl, ho0, hb⟩; refine ⟨_, rfl, ?_⟩; have n0_ := Aside0.mk (Kd.R_below (by (with_reducible repeat (first | apply Kd.R_alloc | apply Kd.R_drewN | apply Kd.R_drew)); exact HO_5.out) hb); have n1_ := Aside0.mk (Kd.R_lower ho0 (below_size (by repeat (first | (with_reducible first | exact HB.out | apply below_alloc | apply pw_below_drewN | apply below_drew1) | exact HB.out)))); have n2_ := Aside0.mk (below_step (by repeat (first | (with_reducible first | exact HB.out | apply below_alloc | apply pw_below_drewN | apply below_drew1) | exact HB.out)) hb); clear HO_5; clear HB; have HO_5 := n0_; have HO370 := n1_; have HB := n2_; clear n0_ n1_ n2_; (try clear hb); (try clear hb2); (try clear hk); (try clear hi); (try clear ho0)))
            (try simp only [Act.put, List.setIfInBounds_toArray, List.set_cons_zero, List.set_cons_succ])
            go_cut [146] (fun v146 wc => ∃ (kq : Nat) (x146_28 : Bool), v146 = .bool x146_28 ∧ Aside0 (laws_FnRewrite.j1 kq l1 t349 t350 t353 t359 t360 t363 t364 x146_28 = some r) ∧ Aside0 (kq ≤ kj10) ∧ Aside0 (Kd.R k59 59 wc w.heap.size (fun _ => True) (.slice Ao13 t349.length co13) t349) ∧ Aside0 (Below w.heap.size w wc))
            case first => as_aux_lemma =>
              have H := HC29.out
              clear HC29
              by_cases c31 : t368 = true
              · subst c31
                have H1 : (if (t367.length : Int) > 0 then (laws_FnRewrite.j1 kj10 l1 t349 t350 t353 t359 t360 t363 t364 true) else (if ((t354 == 0) != (t353.toList == t350.toList)) = true then (laws_FnRewrite.j1 kj10 l1 t349 t350 t353 t359 t360 t363 t364 true) else (if t354 > 0 then ((impl_ShortLess.f t353 t350).bind fun t371 => (laws_FnRewrite.j1 kj10 l1 t349 t350 t353 t359 t360 t363 t364 (!t371))) else (laws_FnRewrite.j1 kj10 l1 t349 t350 t353 t359 t360 t363 t364 false)))) = some r := by rw [if_pos rfl] at H; exact H
                clear H
                have H := H1
                clear H1
                by_cases c32 : (t367.length : Int) > 0
                · rw [if_pos c32] at H
                  have c32b0 : decide (0 < (t367.length : Int)) = true := decide_eq_true c32
                  have c32b1 : decide (0 < t367.length) = true := decide_eq_true (by omega)
                  clear c32
                  (first | rw [c32b0] | (simp only [i64_w, i32_w]; rw [c32b0]) | skip)
                  have H' := Aside0.mk H
                  clear H
                  obtain ⟨Ao33, co33, eo33⟩ := Kd.R_slice HO370.out
                  subst eo33
                  go_wp2
                  go_meet
                  case rel => exact ⟨_, (true), (by first | rfl | (simp; done) | (simp [*]; done)), H', ⟨by have := HJ10.out; first | omega | exact Nat.le_refl _⟩, ⟨by (with_reducible repeat (first | apply Kd.R_alloc | apply Kd.R_drewN | apply Kd.R_drew)); exact HO_5.out⟩, ⟨by repeat (first | (with_reducible first | exact HB.out | apply below_alloc | apply pw_below_drewN | apply below_drew1) | exact HB.out)⟩⟩
                · rw [if_neg c32] at H
                  have c32b0 : decide (0 < (t367.length : Int)) = false := decide_eq_false c32
                  have c32b1 : decide (0 < t367.length) = false := decide_eq_false (by omega)
                  clear c32
                  (first | rw [c32b0] | (simp only [i64_w, i32_w]; rw [c32b0]) | skip)
                  by_cases c34 : ((t354 == 0) != (t353.toList == t350.toList)) = true
                  · rw [if_pos c34] at H
                    have c34b0 : ((t354 == 0) != (t353.toList == t350.toList)) = true := c34
                    (try (have c34b1 : decide ((t354 == 0) = (t353.toList == t350.toList)) = false := by simpa using c34))
                    (try (have c34b2 : ((t354 == 0) == (t353.toList == t350.toList)) = false := by simpa using c34))
                    (try (have c34b3 : ¬ ((t354 == 0) = (t353.toList == t350.toList)) := by simpa using c34))
                    clear c34
                    have H' := Aside0.mk H
                    clear H
                    obtain ⟨Ao35, co35, eo35⟩ := Kd.R_slice HO370.out
                    subst eo35
                    go_wp2
                    go_meet
                    case rel => exact ⟨_, (true), (by first | rfl | (simp; done) | (simp [*]; done)), H', ⟨by have := HJ10.out; first | omega | exact Nat.le_refl _⟩, ⟨by (with_reducible repeat (first | apply Kd.R_alloc | apply Kd.R_drewN | apply Kd.R_drew)); exact HO_5.out⟩, ⟨by repeat (first | (with_reducible first | exact HB.out | apply below_alloc | apply pw_below_drewN | apply below_drew1) | exact HB.out)⟩⟩
                  · rw [if_neg c34] at H
                    have c34b0 : ((t354 == 0) != (t353.toList == t350.toList)) = false := by simpa using c34
                    (try (have c34b1 : decide ((t354 == 0) = (t353.toList == t350.toList)) = true := by simpa using c34))
                    (try (have c34b2 : ((t354 == 0) == (t353.toList == t350.toList)) = true := by simpa using c34))
                    clear c34
                    by_cases c36 : t354 > 0
                    · rw [if_pos c36] at H
                      have c36b0 : decide (0 < t354) = true := decide_eq_true c36
                      clear c36
                      replace H := Option.bind_eq_some_iff.mp H
                      obtain ⟨t371, A370, H⟩ := H
                      replace H : (laws_FnRewrite.j1 kj10 l1 t349 t350 t353 t359 t360 t363 t364 (!t371)) = some r := H
                      have A37 := Aside0.mk A370
                      clear A370
                      have H' := Aside0.mk H
                      clear H
                      obtain ⟨Ao38, co38, eo38⟩ := Kd.R_slice HO370.out
                      subst eo38
                      go_wp2_with (first | (go_at_call 14; (with_reducible refine (impl_ShortLess.calls t353 t350 t371 _ A37.out).mono ?_); rintro e w' ⟨rfl, ⟨nd, rfl⟩⟩))
                      go_meet
                      case rel => exact ⟨_, (!t371), (by first | rfl | (simp; done) | (simp [*]; done)), H', ⟨by have := HJ10.out; first | omega | exact Nat.le_refl _⟩, ⟨by (with_reducible repeat (first | apply Kd.R_alloc | apply Kd.R_drewN | apply Kd.R_drew)); exact HO_5.out⟩, ⟨by repeat (first | (with_reducible first | exact HB.out | apply below_alloc | apply pw_below_drewN | apply below_drew1) | exact HB.out)⟩⟩
                    · rw [if_neg c36] at H
                      have c36b0 : decide (0 < t354) = false := decide_eq_false c36
                      clear c36
                      have H' := Aside0.mk H
                      clear H
                      obtain ⟨Ao39, co39, eo39⟩ := Kd.R_slice HO370.out
                      subst eo39
                      go_wp2
                      go_meet
                      case rel => exact ⟨_, (false), (by first | rfl | (simp; done) | (simp [*]; done)), H', ⟨by have := HJ10.out; first | omega | exact Nat.le_refl _⟩, ⟨by (with_reducible repeat (first | apply Kd.R_alloc | apply Kd.R_drewN | apply Kd.R_drew)); exact HO_5.out⟩, ⟨by repeat (first | (with_reducible first | exact HB.out | apply below_alloc | apply pw_below_drewN | apply below_drew1) | exact HB.out)⟩⟩
              · replace c31 := Bool.eq_false_iff.mpr c31
                subst c31
                have H1 : (laws_FnRewrite.j1 kj10 l1 t349 t350 t353 t359 t360 t363 t364 true) = some r := by rw [if_neg (show ¬ (false = true) by decide)] at H; exact H
                clear H
                have H := H1
                clear H1
                have H' := Aside0.mk H
                clear H
                go_wp2
                go_meet
                case rel => exact ⟨_, (true), (by first | rfl | (simp; done) | (simp [*]; done)), H', ⟨by have := HJ10.out; first | omega | exact Nat.le_refl _⟩, ⟨by (with_reducible repeat (first | apply Kd.R_alloc | apply Kd.R_drewN | apply Kd.R_drew)); exact HO_5.out⟩, ⟨by repeat (first | (with_reducible first | exact HB.out | apply below_alloc | apply pw_below_drewN | apply below_drew1) | exact HB.out)⟩⟩
            case rest => as_aux_lemma =>
              clear HC29
              try clear c1
              try clear c2
              try clear p2
              try clear c3
              try clear c3b0
              try clear c6
              try clear p6
              try clear c12
              try clear c20
              try clear c20b0
              try clear c20b1
              try clear c20b2
              try clear c21
              try clear c21b0
              try clear c21b1
              try clear c22
              try clear c22b0
              try clear c22b1
              try clear c23
              try clear c23b0
              try clear c23b1
              try clear c23b2
              try clear c24
              try clear c24b0
              try clear c24b1
              try clear c25
              try clear c25b0
              try clear c25b1
              try clear c25b2
              try clear c26
              try clear c27
              try clear c28
              try clear c29
              try clear c30
              try clear c31
              try clear c32
              try clear c32b0
              try clear c32b1
              try clear c34
              try clear c34b0
              try clear c34b1
              try clear c34b2
              try clear c36
              try clear c36b0
              try clear p2
              try clear p6
              obtain ⟨kq, x146_28, rfl, HA, HJ28, HO_5, HB⟩ := hcut
              cases kq with
              | zero => exact absurd HA.out (by simp [laws_FnRewrite.j1])
              | succ kj28 =>
                have H := HA.out
                clear HA
                simp only [laws_FnRewrite.j1] at H
                by_cases c40 : x146_28 = true
                · subst c40
                  have H1 : (some false) = some r := by rw [if_pos rfl] at H; exact H
                  clear H
                  have H := H1
                  clear H1
                  obtain rfl := Option.some.inj H
                  go_wp2
                  go_ret
                  exact ⟨by first | rfl | (simp [errW_none, errW_some] <;> rfl) | (simp [*, errW_none, errW_some] <;> rfl), by repeat (first | (with_reducible first | exact HB.out | apply below_alloc | apply pw_below_drewN | apply below_drew1) | exact HB.out)⟩
                · replace c40 := Bool.eq_false_iff.mpr c40
                  subst c40
                  have H1 : (if t364 = true then (laws_FnRewrite.j2 kj28 l1 t349 t350 t353 t359 t360 t363) else (laws_FnRewrite.j2 kj28 l1 t349 t350 t353 t359 t360 false)) = some r := by rw [if_neg (show ¬ (false = true) by decide)] at H; exact H
                  clear H
                  have H := H1
                  clear H1
                  have HC41 := Aside0.mk H
                  clear H
                  go_upto_region 16 with (fail)
                  go_cut [150] (fun v150 wc => ∃ (kq : Nat) (x150_40 : Bool), v150 = .bool x150_40 ∧ Aside0 (laws_FnRewrite.j2 kq l1 t349 t350 t353 t359 t360 x150_40 = some r) ∧ Aside0 (kq ≤ kj28) ∧ Aside0 (Kd.R k59 59 wc w.heap.size (fun _ => True) (.slice Ao13 t349.length co13) t349) ∧ Aside0 (Below w.heap.size w wc))
                  case first => as_aux_lemma =>
                    have H := HC41.out
                    clear HC41
                    by_cases c42 : t364 = true
                    · subst c42
                      have H1 : (laws_FnRewrite.j2 kj28 l1 t349 t350 t353 t359 t360 t363) = some r := by rw [if_pos rfl] at H; exact H
                      clear H
                      have H := H1
                      clear H1
                      have H' := Aside0.mk H
                      clear H
                      go_wp2
                      go_meet
                      case rel => exact ⟨_, (t363), (by first | rfl | (simp; done) | (simp [*]; done)), H', ⟨by have := HJ10.out; have := HJ28.out; first | omega | exact Nat.le_refl _⟩, ⟨by (with_reducible repeat (first | apply Kd.R_alloc | apply Kd.R_drewN | apply Kd.R_drew)); exact HO_5.out⟩, ⟨by repeat (first | (with_reducible first | exact HB.out | apply below_alloc | apply pw_below_drewN | apply below_drew1) | exact HB.out)⟩⟩
                    · replace c42 := Bool.eq_false_iff.mpr c42
                      subst c42
                      have H1 : (laws_FnRewrite.j2 kj28 l1 t349 t350 t353 t359 t360 false) = some r := by rw [if_neg (show ¬ (false = true) by decide)] at H; exact H
                      clear H
                      have H := H1
                      clear H1
                      have H' := Aside0.mk H
                      clear H
                      go_wp2
                      go_meet
                      case rel => exact ⟨_, (false), (by first | rfl | (simp; done) | (simp [*]; done)), H', ⟨by have := HJ10.out; have := HJ28.out; first | omega | exact Nat.le_refl _⟩, ⟨by (with_reducible repeat (first | apply Kd.R_alloc | apply Kd.R_drewN | apply Kd.R_drew)); exact HO_5.out⟩, ⟨by repeat (first | (with_reducible first | exact HB.out | apply below_alloc | apply pw_below_drewN | apply below_drew1) | exact HB.out)⟩⟩
                  case rest => as_aux_lemma =>
                    clear HC41
                    try clear c1
                    try clear c2
                    try clear p2
                    try clear c3
                    try clear c3b0
                    try clear c4
                    try clear c6
                    try clear p6
                    try clear c12
                    try clear c20
                    try clear c20b0
                    try clear c20b1
                    try clear c20b2
                    try clear c21
                    try clear c21b0
                    try clear c21b1
                    try clear c22
                    try clear c22b0
                    try clear c22b1
                    try clear c23
                    try clear c23b0
                    try clear c23b1
                    try clear c23b2
                    try clear c24
                    try clear c24b0
                    try clear c24b1
                    try clear c25
                    try clear c25b0
                    try clear c25b1
                    try clear c25b2
                    try clear c26
                    try clear c27
                    try clear c28
                    try clear c29
                    try clear c30
                    try clear c31
                    try clear c32
                    try clear c32b0
                    try clear c32b1
                    try clear c34
                    try clear c34b0
                    try clear c34b1
                    try clear c34b2
                    try clear c36
                    try clear c36b0
                    try clear c40
                    try clear c42
                    try clear p2
                    try clear p6
                    obtain ⟨kq, x150_40, rfl, HA, HJ40, HO_5, HB⟩ := hcut
                    cases kq with
                    | zero => exact absurd HA.out (by simp [laws_FnRewrite.j2])
                    | succ kj40 =>
                      have H := HA.out
                      clear HA
                      simp only [laws_FnRewrite.j2] at H
                      by_cases c43 : x150_40 = true
                      · subst c43
                        have H1 : (if t360 = true then (laws_FnRewrite.j3 kj40 l1 t349 t350 t353 (t359.toList != t353.toList)) else (laws_FnRewrite.j3 kj40 l1 t349 t350 t353 false)) = some r := by rw [if_pos rfl] at H; exact H
                        clear H
                        have H := H1
                        clear H1
                        have HC44 := Aside0.mk H
                        clear H
                        go_upto_region 17 with (fail)
                        go_cut [156] (fun v156 wc => ∃ (kq : Nat) (x156_43 : Bool), v156 = .bool x156_43 ∧ Aside0 (laws_FnRewrite.j3 kq l1 t349 t350 t353 x156_43 = some r) ∧ Aside0 (kq ≤ kj40) ∧ Aside0 (Kd.R k59 59 wc w.heap.size (fun _ => True) (.slice Ao13 t349.length co13) t349) ∧ Aside0 (Below w.heap.size w wc))
                        case first => as_aux_lemma =>
                          have H := HC44.out
                          clear HC44
                          by_cases c45 : t360 = true
                          · subst c45
                            have H1 : (laws_FnRewrite.j3 kj40 l1 t349 t350 t353 (t359.toList != t353.toList)) = some r := by rw [if_pos rfl] at H; exact H
                            clear H
                            have H := H1
                            clear H1
                            have H' := Aside0.mk H
                            clear H
                            go_wp2
                            go_meet
                            case rel => exact ⟨_, ((t359.toList != t353.toList)), (by first | rfl | (simp; done) | (simp [*]; done)), H', ⟨by have := HJ10.out; have := HJ28.out; have := HJ40.out; first | omega | exact Nat.le_refl _⟩, ⟨by (with_reducible repeat (first | apply Kd.R_alloc | apply Kd.R_drewN | apply Kd.R_drew)); exact HO_5.out⟩, ⟨by repeat (first | (with_reducible first | exact HB.out | apply below_alloc | apply pw_below_drewN | apply below_drew1) | exact HB.out)⟩⟩
                          · replace c45 := Bool.eq_false_iff.mpr c45
                            subst c45
                            have H1 : (laws_FnRewrite.j3 kj40 l1 t349 t350 t353 false) = some r := by rw [if_neg (show ¬ (false = true) by decide)] at H; exact H
                            clear H
                            have H := H1
                            clear H1
                            have H' := Aside0.mk H
                            clear H
                            go_wp2
                            go_meet
                            case rel => exact ⟨_, (false), (by first | rfl | (simp; done) | (simp [*]; done)), H', ⟨by have := HJ10.out; have := HJ28.out; have := HJ40.out; first | omega | exact Nat.le_refl _⟩, ⟨by (with_reducible repeat (first | apply Kd.R_alloc | apply Kd.R_drewN | apply Kd.R_drew)); exact HO_5.out⟩, ⟨by repeat (first | (with_reducible first | exact HB.out | apply below_alloc | apply pw_below_drewN | apply below_drew1) | exact HB.out)⟩⟩
                        case rest => as_aux_lemma =>
                          clear HC44
                          try clear c1
                          try clear c2
                          try clear p2
                          try clear c3
                          try clear c3b0
                          try clear c4
                          try clear c6
                          try clear p6
                          try clear c12
                          try clear c20
                          try clear c20b0
                          try clear c20b1
                          try clear c20b2
                          try clear c21
                          try clear c21b0
                          try clear c21b1
                          try clear c22
                          try clear c22b0
                          try clear c22b1
                          try clear c23
                          try clear c23b0
                          try clear c23b1
                          try clear c23b2
                          try clear c24
                          try clear c24b0
                          try clear c24b1
                          try clear c25
                          try clear c25b0
                          try clear c25b1
                          try clear c25b2
                          try clear c26
                          try clear c27
                          try clear c28
                          try clear c29
                          try clear c30
                          try clear c31
                          try clear c32
                          try clear c32b0
                          try clear c32b1
                          try clear c34
                          try clear c34b0
                          try clear c34b1
                          try clear c34b2
                          try clear c36
                          try clear c36b0
                          try clear c40
                          try clear c42
                          try clear c43
                          try clear c45
                          try clear p2
                          try clear p6
                          obtain ⟨kq, x156_43, rfl, HA, HJ43, HO_5, HB⟩ := hcut
                          cases kq with
                          | zero => exact absurd HA.out (by simp [laws_FnRewrite.j3])
                          | succ kj43 =>
                            have H := HA.out
                            clear HA
                            simp only [laws_FnRewrite.j3] at H
                            by_cases c46 : x156_43 = true
                            · subst c46
                              have H1 : (some false) = some r := by rw [if_pos rfl] at H; exact H
                              clear H
                              have H := H1
                              clear H1
                              obtain rfl := Option.some.inj H
                              go_wp2
                              go_ret
                              exact ⟨by first | rfl | (simp [errW_none, errW_some] <;> rfl) | (simp [*, errW_none, errW_some] <;> rfl), by repeat (first | (with_reducible first | exact HB.out | apply below_alloc | apply pw_below_drewN | apply below_drew1) | exact HB.out)⟩
                            · replace c46 := Bool.eq_false_iff.mpr c46
                              subst c46
                              have H1 : ((impl_OnceBy.f kj43 t349 t350).bind fun bt372 => (if bt372.2 = true then (if (bt372.1.length : Int) > 0 then ((laws_numberOf.f kj43 l1).bind fun t376 => (if (bt372.1.length : Int) = 0 then (none) else (if 0 ≤ (Int.tmod t376 (bt372.1.length : Int)) then (if (Int.tmod t376 (bt372.1.length : Int)) < (bt372.1.length : Int) then ((impl_NormalOf.f kj43 t349 (rdOf ByteArray.empty bt372.1 (Int.tmod t376 (bt372.1.length : Int)))).bind fun bt378 => (if bt378.2.2 = true then (laws_FnRewrite.j4 kj43 l1 (bt378.1.toList != t353.toList)) else (laws_FnRewrite.j4 kj43 l1 false))) else (none)) else (none)))) else ((spec_DrawJoinedBy.f kj43 l1).bind fun bt390 => ((impl_JoinedBy.f kj43 bt390.1 bt390.2.1 bt390.2.2).bind fun bt395 => ((spec_JoinedBy.f kj43 bt390.1 bt390.2.1 bt390.2.2).bind fun bt397 => (if (bt395.2 == bt397.2) = true then (some (bt395.1 == bt397.1)) else (some false)))))) else (some false))) = some r := by rw [if_neg (show ¬ (false = true) by decide)] at H; exact H
                              clear H
                              have H := H1
                              clear H1
                              replace H := Option.bind_eq_some_iff.mp H
                              obtain ⟨⟨t372, t373⟩, A470, H⟩ := H
                              replace H : (if t373 = true then (if (t372.length : Int) > 0 then ((laws_numberOf.f kj43 l1).bind fun t376 => (if (t372.length : Int) = 0 then (none) else (if 0 ≤ (Int.tmod t376 (t372.length : Int)) then (if (Int.tmod t376 (t372.length : Int)) < (t372.length : Int) then ((impl_NormalOf.f kj43 t349 (rdOf ByteArray.empty t372 (Int.tmod t376 (t372.length : Int)))).bind fun bt378 => (if bt378.2.2 = true then (laws_FnRewrite.j4 kj43 l1 (bt378.1.toList != t353.toList)) else (laws_FnRewrite.j4 kj43 l1 false))) else (none)) else (none)))) else ((spec_DrawJoinedBy.f kj43 l1).bind fun bt390 => ((impl_JoinedBy.f kj43 bt390.1 bt390.2.1 bt390.2.2).bind fun bt395 => ((spec_JoinedBy.f kj43 bt390.1 bt390.2.1 bt390.2.2).bind fun bt397 => (if (bt395.2 == bt397.2) = true then (some (bt395.1 == bt397.1)) else (some false)))))) else (some false)) = some r := H
                              have A47 := Aside0.mk A470
                              clear A470
                              by_cases c48 : t373 = true
                              · subst c48
                                have H1 : (if (t372.length : Int) > 0 then ((laws_numberOf.f kj43 l1).bind fun t376 => (if (t372.length : Int) = 0 then (none) else (if 0 ≤ (Int.tmod t376 (t372.length : Int)) then (if (Int.tmod t376 (t372.length : Int)) < (t372.length : Int) then ((impl_NormalOf.f kj43 t349 (rdOf ByteArray.empty t372 (Int.tmod t376 (t372.length : Int)))).bind fun bt378 => (if bt378.2.2 = true then (laws_FnRewrite.j4 kj43 l1 (bt378.1.toList != t353.toList)) else (laws_FnRewrite.j4 kj43 l1 false))) else (none)) else (none)))) else ((spec_DrawJoinedBy.f kj43 l1).bind fun bt390 => ((impl_JoinedBy.f kj43 bt390.1 bt390.2.1 bt390.2.2).bind fun bt395 => ((spec_JoinedBy.f kj43 bt390.1 bt390.2.1 bt390.2.2).bind fun bt397 => (if (bt395.2 == bt397.2) = true then (some (bt395.1 == bt397.1)) else (some false)))))) = some r := by rw [if_pos rfl] at H; exact H
                                clear H
                                have H := H1
                                clear H1
                                by_cases c49 : (t372.length : Int) > 0
                                · rw [if_pos c49] at H
                                  have c49b0 : decide (0 < (t372.length : Int)) = true := decide_eq_true c49
                                  have c49b1 : decide (0 < t372.length) = true := decide_eq_true (by omega)
                                  clear c49
                                  replace H := Option.bind_eq_some_iff.mp H
                                  obtain ⟨t376, A500, H⟩ := H
                                  replace H : (if (t372.length : Int) = 0 then (none) else (if 0 ≤ (Int.tmod t376 (t372.length : Int)) then (if (Int.tmod t376 (t372.length : Int)) < (t372.length : Int) then ((impl_NormalOf.f kj43 t349 (rdOf ByteArray.empty t372 (Int.tmod t376 (t372.length : Int)))).bind fun bt378 => (if bt378.2.2 = true then (laws_FnRewrite.j4 kj43 l1 (bt378.1.toList != t353.toList)) else (laws_FnRewrite.j4 kj43 l1 false))) else (none)) else (none))) = some r := H
                                  have A50 := Aside0.mk A500
                                  clear A500
                                  by_cases c51 : (t372.length : Int) = 0
                                  · rw [if_pos c51] at H
                                    exact absurd H (by simp)
                                  · rw [if_neg c51] at H
                                    have c51b0 : ((t372.length : Int) == 0) = false := beq_eq_false_iff_ne.mpr c51
                                    have c51b1 : ((t372.length : Int) != 0) = true := bne_iff_ne.mpr c51
                                    have c51b2 : ¬ (t372 = []) := fun h_ => c51 (by rw [h_]; rfl)
                                    obtain ⟨ji52, hji52⟩ : ∃ j_ : Int, (Int.tmod t376 (t372.length : Int)) = j_ := ⟨_, rfl⟩
                                    replace H : (if 0 ≤ (ji52) then (if (ji52) < (t372.length : Int) then ((impl_NormalOf.f kj43 t349 (rdOf ByteArray.empty t372 (ji52))).bind fun bt378 => (if bt378.2.2 = true then (laws_FnRewrite.j4 kj43 l1 (bt378.1.toList != t353.toList)) else (laws_FnRewrite.j4 kj43 l1 false))) else (none)) else (none)) = some r := by first | (rw [hji52] at H; exact H) | (simp only [hji52] at H ⊢; exact H)
                                    (try rw [hji52] at A47)
                                    (try rw [hji52] at A50)
                                    by_cases c53 : 0 ≤ (ji52)
                                    · rw [if_pos c53] at H
                                      have c53b0 : decide (0 ≤ (ji52)) = true := decide_eq_true c53
                                      clear c53
                                      by_cases c54 : (ji52) < (t372.length : Int)
                                      · rw [if_pos c54] at H
                                        have c54b0 : decide ((ji52) < (t372.length : Int)) = true := decide_eq_true c54
                                        clear c54
                                        replace H := Option.bind_eq_some_iff.mp H
                                        obtain ⟨⟨t378, t379, t380⟩, A550, H⟩ := H
                                        replace H : (if t380 = true then (laws_FnRewrite.j4 kj43 l1 (t378.toList != t353.toList)) else (laws_FnRewrite.j4 kj43 l1 false)) = some r := H
                                        have A55 := Aside0.mk A550
                                        clear A550
                                        have HC56 := Aside0.mk H
                                        clear H
                                        go_upto_region 24 with (first | ((with_reducible refine gate_callee (f := 12) rfl ?_); refine goesL_ (some 160) rfl rfl Try.func12 (by kernel_rfl) rfl #[.slice Ao13 t349.length co13, .string t350] rfl (by (try simp only [List.map_toArray, List.map_cons, List.map_nil]); first | done | rfl | (simp only [List.length_drop, List.length_take]; rfl)) ?_; (with_reducible refine (impl_OnceBy.calls kj43 _ _ t349 t350 t372 true _ ?side1 ?side2 A47.out).mono ?_); (case side1 => repeat (first | exact (Kd.R_reads' HO_5.out).2.2 | (with_reducible refine Kd.C_alloc ?_ _) | (with_reducible refine Kd.C_drewN ?_ _) | (with_reducible refine Kd.C_drew ?_))); (case side2 => exact (Kd.R_reads' HO_5.out).2.1); rintro e w57 ⟨v374, rfl, ho0, hb⟩; refine ⟨_, rfl, ?_⟩; have n0_ := Aside0.mk (Kd.R_below (by (with_reducible repeat (first | apply Kd.R_alloc | apply Kd.R_drewN | apply Kd.R_drew)); exact HO_5.out) hb); have n1_ := Aside0.mk (Kd.R_lower ho0 (below_size (by repeat (first | (with_reducible first | exact HB.out | apply below_alloc | apply pw_below_drewN | apply below_drew1) | exact HB.out)))); have n2_ := Aside0.mk (below_step (by repeat (first | (with_reducible first | exact HB.out | apply below_alloc | apply pw_below_drewN | apply below_drew1) | exact HB.out)) hb); clear HO_5; clear HB; have HO_5 := n0_; have HO375 := n1_; have HB := n2_; clear n0_ n1_ n2_; (try clear hb); (try clear hb2); (try clear hk); (try clear hi); (try clear ho0); obtain ⟨Ao58, co58, eo58⟩ := Kd.R_slice HO375.out; subst eo58) | ((with_reducible refine gate_callee (f := 31) rfl ?_); refine goesL_ (some 172) rfl rfl Try.func31 (by kernel_rfl) rfl #[.slice A1 l1.length c1] rfl (by (try simp only [List.map_toArray, List.map_cons, List.map_nil]); first | done | rfl | (simp only [List.length_drop, List.length_take]; rfl)) ?_; (with_reducible refine (laws_numberOf.calls kj43 _ _ l1 t376 _ ?side1 ?side2 A50.out).mono ?_); (case side1 => repeat (first | exact (Kd.C_below HR1.out HB.out) | (with_reducible refine Kd.C_alloc ?_ _) | (with_reducible refine Kd.C_drewN ?_ _) | (with_reducible refine Kd.C_drew ?_))); (case side2 => exact HC1.out); rintro e w' ⟨rfl, ⟨nd, rfl⟩⟩; refine ⟨_, rfl, ?_⟩; have p377 : 0 ≤ ((ji52) : Int) := of_decide_eq_true (by first | (with_reducible assumption) | assumption); have q377 : (ji52) < (t372.length : Int) := of_decide_eq_true (by first | (with_reducible assumption) | assumption); obtain ⟨ad377, e377, hx377_0⟩ := Kd.at_string (Kd.R_reads' HO375.out).2.2 (ji52) p377 q377; cases e377; replace p377 := eq_true p377; replace q377 := eq_true q377) | ((with_reducible refine gate_callee (f := 27) rfl ?_); refine goesL_ (some 178) rfl rfl Try.func27 (by kernel_rfl) rfl #[.slice Ao13 t349.length co13, .string (rdOf ByteArray.empty t372 (ji52))] rfl (by (try simp only [List.map_toArray, List.map_cons, List.map_nil]); first | done | (simp only [hji52]; rfl) | rfl | (simp only [List.length_drop, List.length_take]; rfl)) ?_; (with_reducible refine (impl_NormalOf.calls kj43 _ _ t349 (rdOf ByteArray.empty t372 (ji52)) t378 t379 t380 _ ?side1 ?side2 A55.out).mono ?_); (case side1 => repeat (first | exact (Kd.R_reads' HO_5.out).2.2 | (with_reducible refine Kd.C_alloc ?_ _) | (with_reducible refine Kd.C_drewN ?_ _) | (with_reducible refine Kd.C_drew ?_))); (case side2 => exact (Kd.R_reads' HO_5.out).2.1); rintro e w59 ⟨rfl, hb⟩; refine ⟨_, rfl, ?_⟩; have n0_ := Aside0.mk (Kd.R_below (by (with_reducible repeat (first | apply Kd.R_alloc | apply Kd.R_drewN | apply Kd.R_drew)); exact HO_5.out) hb); have n1_ := Aside0.mk (Kd.R_below (by (with_reducible repeat (first | apply Kd.R_alloc | apply Kd.R_drewN | apply Kd.R_drew)); exact HO375.out) hb); have n2_ := Aside0.mk (below_step (by repeat (first | (with_reducible first | exact HB.out | apply below_alloc | apply pw_below_drewN | apply below_drew1) | exact HB.out)) hb); clear HO_5; clear HO375; clear HB; have HO_5 := n0_; have HO375 := n1_; have HB := n2_; clear n0_ n1_ n2_; (try clear hb); (try clear hb2); (try clear hk); (try clear hi)))
                                        (try simp only [Act.put, List.setIfInBounds_toArray, List.set_cons_zero, List.set_cons_succ])
                                        go_cut [187] (fun v187 wc => ∃ (kq : Nat) (x187_55 : Bool), v187 = .bool x187_55 ∧ Aside0 (laws_FnRewrite.j4 kq l1 x187_55 = some r) ∧ Aside0 (kq ≤ kj43) ∧ Aside0 (Below w.heap.size w wc))
                                        case first => as_aux_lemma =>
                                          have H := HC56.out
                                          clear HC56
                                          by_cases c60 : t380 = true
                                          · subst c60
                                            have H1 : (laws_FnRewrite.j4 kj43 l1 (t378.toList != t353.toList)) = some r := by rw [if_pos rfl] at H; exact H
                                            clear H
                                            have H := H1
                                            clear H1
                                            have H' := Aside0.mk H
                                            clear H
                                            go_wp2
                                            go_meet
                                            case rel => exact ⟨_, ((t378.toList != t353.toList)), (by first | rfl | (simp; done) | (simp [*]; done)), H', ⟨by have := HJ10.out; have := HJ28.out; have := HJ40.out; have := HJ43.out; first | omega | exact Nat.le_refl _⟩, ⟨by repeat (first | (with_reducible first | exact HB.out | apply below_alloc | apply pw_below_drewN | apply below_drew1) | exact HB.out)⟩⟩
                                          · replace c60 := Bool.eq_false_iff.mpr c60
                                            subst c60
                                            have H1 : (laws_FnRewrite.j4 kj43 l1 false) = some r := by rw [if_neg (show ¬ (false = true) by decide)] at H; exact H
                                            clear H
                                            have H := H1
                                            clear H1
                                            have H' := Aside0.mk H
                                            clear H
                                            go_wp2
                                            go_meet
                                            case rel => exact ⟨_, (false), (by first | rfl | (simp; done) | (simp [*]; done)), H', ⟨by have := HJ10.out; have := HJ28.out; have := HJ40.out; have := HJ43.out; first | omega | exact Nat.le_refl _⟩, ⟨by repeat (first | (with_reducible first | exact HB.out | apply below_alloc | apply pw_below_drewN | apply below_drew1) | exact HB.out)⟩⟩
                                        case rest => as_aux_lemma =>
                                          clear HC56
                                          try clear c1
                                          try clear c2
                                          try clear p2
                                          try clear c3
                                          try clear c3b0
                                          try clear p3
                                          try clear q3
                                          try clear hx3
                                          try clear c4
                                          try clear c5
                                          try clear c6
                                          try clear p6
                                          try clear c12
                                          try clear c20
                                          try clear c20b0
                                          try clear c20b1
                                          try clear c20b2
                                          try clear c21
                                          try clear c21b0
                                          try clear c21b1
                                          try clear c22
                                          try clear c22b0
                                          try clear c22b1
                                          try clear c23
                                          try clear c23b0
                                          try clear c23b1
                                          try clear c23b2
                                          try clear c24
                                          try clear c24b0
                                          try clear c24b1
                                          try clear c25
                                          try clear c25b0
                                          try clear c25b1
                                          try clear c25b2
                                          try clear c26
                                          try clear c27
                                          try clear c28
                                          try clear c29
                                          try clear c30
                                          try clear c31
                                          try clear c32
                                          try clear c32b0
                                          try clear c32b1
                                          try clear c34
                                          try clear c34b0
                                          try clear c34b1
                                          try clear c34b2
                                          try clear c36
                                          try clear c36b0
                                          try clear p37
                                          try clear q37
                                          try clear hx37
                                          try clear c40
                                          try clear c42
                                          try clear c43
                                          try clear c45
                                          try clear c46
                                          try clear c48
                                          try clear c49
                                          try clear c49b0
                                          try clear c49b1
                                          try clear c51
                                          try clear c51b0
                                          try clear c51b1
                                          try clear c51b2
                                          try clear c53
                                          try clear c53b0
                                          try clear c54
                                          try clear c54b0
                                          try clear c60
                                          try clear hx377_0
                                          try clear p2
                                          try clear p377
                                          try clear p6
                                          try clear q377
                                          obtain ⟨kq, x187_55, rfl, HA, HJ55, HB⟩ := hcut
                                          cases kq with
                                          | zero => exact absurd HA.out (by simp [laws_FnRewrite.j4])
                                          | succ kj55 =>
                                            have H := HA.out
                                            clear HA
                                            simp only [laws_FnRewrite.j4] at H
                                            by_cases c61 : x187_55 = true
                                            · subst c61
                                              have H1 : (some false) = some r := by rw [if_pos rfl] at H; exact H
                                              clear H
                                              have H := H1
                                              clear H1
                                              obtain rfl := Option.some.inj H
                                              go_wp2
                                              go_ret
                                              exact ⟨by first | rfl | (simp [errW_none, errW_some] <;> rfl) | (simp only [← hji52]; first | rfl | (simp [errW_none, errW_some] <;> rfl)) | (simp [*, errW_none, errW_some] <;> rfl), by repeat (first | (with_reducible first | exact HB.out | apply below_alloc | apply pw_below_drewN | apply below_drew1) | exact HB.out)⟩
                                            · replace c61 := Bool.eq_false_iff.mpr c61
                                              subst c61
                                              have H1 : ((spec_DrawJoinedBy.f kj55 l1).bind fun bt381 => ((impl_JoinedBy.f kj55 bt381.1 bt381.2.1 bt381.2.2).bind fun bt386 => ((spec_JoinedBy.f kj55 bt381.1 bt381.2.1 bt381.2.2).bind fun bt388 => (if (bt386.2 == bt388.2) = true then (some (bt386.1 == bt388.1)) else (some false))))) = some r := by rw [if_neg (show ¬ (false = true) by decide)] at H; exact H
                                              clear H
                                              have H := H1
                                              clear H1
                                              replace H := Option.bind_eq_some_iff.mp H
                                              obtain ⟨⟨t381, t382, t383⟩, A620, H⟩ := H
                                              replace H : ((impl_JoinedBy.f kj55 t381 t382 t383).bind fun bt386 => ((spec_JoinedBy.f kj55 t381 t382 t383).bind fun bt388 => (if (bt386.2 == bt388.2) = true then (some (bt386.1 == bt388.1)) else (some false)))) = some r := H
                                              have A62 := Aside0.mk A620
                                              clear A620
                                              replace H := Option.bind_eq_some_iff.mp H
                                              obtain ⟨⟨t386, t387⟩, A630, H⟩ := H
                                              replace H : ((spec_JoinedBy.f kj55 t381 t382 t383).bind fun bt388 => (if (t387 == bt388.2) = true then (some (t386 == bt388.1)) else (some false))) = some r := H
                                              have A63 := Aside0.mk A630
                                              clear A630
                                              replace H := Option.bind_eq_some_iff.mp H
                                              obtain ⟨⟨t388, t389⟩, A640, H⟩ := H
                                              replace H : (if (t387 == t389) = true then (some (t386 == t388)) else (some false)) = some r := H
                                              have A64 := Aside0.mk A640
                                              clear A640
                                              by_cases c65 : (t387 == t389) = true
                                              · rw [if_pos c65] at H
                                                have c65b0 : (t387 == t389) = true := c65
                                                (try (have c65b1 : decide (t387 = t389) = true := by simpa using c65))
                                                (try (have c65b2 : (t387 == t389) = true := by simpa using c65))
                                                clear c65
                                                obtain rfl := Option.some.inj H
                                                go_wp2_with (first | ((with_reducible refine gate_callee (f := 32) rfl ?_); refine goesL_ (some 190) rfl rfl Try.func32 (by kernel_rfl) rfl #[.slice A1 l1.length c1] rfl (by (try simp only [List.map_toArray, List.map_cons, List.map_nil]); first | done | rfl | (simp only [List.length_drop, List.length_take]; rfl)) ?_; (with_reducible refine (spec_DrawJoinedBy.calls kj55 _ _ l1 t381 t382 t383 _ ?side1 ?side2 A62.out).mono ?_); (case side1 => repeat (first | exact (Kd.C_below HR1.out HB.out) | (with_reducible refine Kd.C_alloc ?_ _) | (with_reducible refine Kd.C_drewN ?_ _) | (with_reducible refine Kd.C_drew ?_))); (case side2 => exact HC1.out); rintro e w66 ⟨v384, rfl, ho0, hb⟩; refine ⟨_, rfl, ?_⟩; have n0_ := Aside0.mk (Kd.R_lower ho0 (below_size (by repeat (first | (with_reducible first | exact HB.out | apply below_alloc | apply pw_below_drewN | apply below_drew1) | exact HB.out)))); have n1_ := Aside0.mk (below_step (by repeat (first | (with_reducible first | exact HB.out | apply below_alloc | apply pw_below_drewN | apply below_drew1) | exact HB.out)) hb); clear HB; have HO385 := n0_; have HB := n1_; clear n0_ n1_; (try clear hb); (try clear hb2); (try clear hk); (try clear hi); (try clear ho0); obtain ⟨Ao67, co67, eo67⟩ := Kd.R_slice HO385.out; subst eo67) | ((with_reducible refine gate_callee (f := 33) rfl ?_); refine goesL_ (some 198) rfl rfl Try.func33 (by kernel_rfl) rfl #[.slice Ao67 t381.length co67, .string t382, .string t383] rfl (by (try simp only [List.map_toArray, List.map_cons, List.map_nil]); first | done | rfl | (simp only [List.length_drop, List.length_take]; rfl)) ?_; (with_reducible refine (impl_JoinedBy.calls kj55 _ _ t381 t382 t383 t386 t387 _ ?side1 ?side2 A63.out).mono ?_); (case side1 => repeat (first | exact (Kd.R_reads' HO385.out).2.2 | (with_reducible refine Kd.C_alloc ?_ _) | (with_reducible refine Kd.C_drewN ?_ _) | (with_reducible refine Kd.C_drew ?_))); (case side2 => exact (Kd.R_reads' HO385.out).2.1); rintro e w68 ⟨rfl, hb⟩; refine ⟨_, rfl, ?_⟩; have n0_ := Aside0.mk (Kd.R_below (by (with_reducible repeat (first | apply Kd.R_alloc | apply Kd.R_drewN | apply Kd.R_drew)); exact HO385.out) hb); have n1_ := Aside0.mk (below_step (by repeat (first | (with_reducible first | exact HB.out | apply below_alloc | apply pw_below_drewN | apply below_drew1) | exact HB.out)) hb); clear HO385; clear HB; have HO385 := n0_; have HB := n1_; clear n0_ n1_; (try clear hb); (try clear hb2); (try clear hk); (try clear hi)) | ((with_reducible refine gate_callee (f := 34) rfl ?_); refine goesL_ (some 205) rfl rfl Try.func34 (by kernel_rfl) rfl #[.slice Ao67 t381.length co67, .string t382, .string t383] rfl (by (try simp only [List.map_toArray, List.map_cons, List.map_nil]); first | done | rfl | (simp only [List.length_drop, List.length_take]; rfl)) ?_; (with_reducible refine (spec_JoinedBy.calls kj55 _ _ t381 t382 t383 t388 t389 _ ?side1 ?side2 A64.out).mono ?_); (case side1 => repeat (first | exact (Kd.R_reads' HO385.out).2.2 | (with_reducible refine Kd.C_alloc ?_ _) | (with_reducible refine Kd.C_drewN ?_ _) | (with_reducible refine Kd.C_drew ?_))); (case side2 => exact (Kd.R_reads' HO385.out).2.1); rintro e w69 ⟨rfl, hb⟩; refine ⟨_, rfl, ?_⟩; have n0_ := Aside0.mk (Kd.R_below (by (with_reducible repeat (first | apply Kd.R_alloc | apply Kd.R_drewN | apply Kd.R_drew)); exact HO385.out) hb); have n1_ := Aside0.mk (below_step (by repeat (first | (with_reducible first | exact HB.out | apply below_alloc | apply pw_below_drewN | apply below_drew1) | exact HB.out)) hb); clear HO385; clear HB; have HO385 := n0_; have HB := n1_; clear n0_ n1_; (try clear hb); (try clear hb2); (try clear hk); (try clear hi)))
                                                go_ret
                                                exact ⟨by first | rfl | (simp [errW_none, errW_some] <;> rfl) | (simp only [← hji52]; first | rfl | (simp [errW_none, errW_some] <;> rfl)) | (simp [*, errW_none, errW_some] <;> rfl), by repeat (first | (with_reducible first | exact HB.out | apply below_alloc | apply pw_below_drewN | apply below_drew1) | exact HB.out)⟩
                                              · rw [if_neg c65] at H
                                                have c65b0 : (t387 == t389) = false := by simpa using c65
                                                (try (have c65b1 : decide (t387 = t389) = false := by simpa using c65))
                                                (try (have c65b2 : (t387 == t389) = false := by simpa using c65))
                                                (try (have c65b3 : ¬ (t387 = t389) := by simpa using c65))
                                                clear c65
                                                obtain rfl := Option.some.inj H
                                                go_wp2_with (first | ((with_reducible refine gate_callee (f := 32) rfl ?_); refine goesL_ (some 190) rfl rfl Try.func32 (by kernel_rfl) rfl #[.slice A1 l1.length c1] rfl (by (try simp only [List.map_toArray, List.map_cons, List.map_nil]); first | done | rfl | (simp only [List.length_drop, List.length_take]; rfl)) ?_; (with_reducible refine (spec_DrawJoinedBy.calls kj55 _ _ l1 t381 t382 t383 _ ?side1 ?side2 A62.out).mono ?_); (case side1 => repeat (first | exact (Kd.C_below HR1.out HB.out) | (with_reducible refine Kd.C_alloc ?_ _) | (with_reducible refine Kd.C_drewN ?_ _) | (with_reducible refine Kd.C_drew ?_))); (case side2 => exact HC1.out); rintro e w70 ⟨v384, rfl, ho0, hb⟩; refine ⟨_, rfl, ?_⟩; have n0_ := Aside0.mk (Kd.R_lower ho0 (below_size (by repeat (first | (with_reducible first | exact HB.out | apply below_alloc | apply pw_below_drewN | apply below_drew1) | exact HB.out)))); have n1_ := Aside0.mk (below_step (by repeat (first | (with_reducible first | exact HB.out | apply below_alloc | apply pw_below_drewN | apply below_drew1) | exact HB.out)) hb); clear HB; have HO385 := n0_; have HB := n1_; clear n0_ n1_; (try clear hb); (try clear hb2); (try clear hk); (try clear hi); (try clear ho0); obtain ⟨Ao71, co71, eo71⟩ := Kd.R_slice HO385.out; subst eo71) | ((with_reducible refine gate_callee (f := 33) rfl ?_); refine goesL_ (some 198) rfl rfl Try.func33 (by kernel_rfl) rfl #[.slice Ao71 t381.length co71, .string t382, .string t383] rfl (by (try simp only [List.map_toArray, List.map_cons, List.map_nil]); first | done | rfl | (simp only [List.length_drop, List.length_take]; rfl)) ?_; (with_reducible refine (impl_JoinedBy.calls kj55 _ _ t381 t382 t383 t386 t387 _ ?side1 ?side2 A63.out).mono ?_); (case side1 => repeat (first | exact (Kd.R_reads' HO385.out).2.2 | (with_reducible refine Kd.C_alloc ?_ _) | (with_reducible refine Kd.C_drewN ?_ _) | (with_reducible refine Kd.C_drew ?_))); (case side2 => exact (Kd.R_reads' HO385.out).2.1); rintro e w72 ⟨rfl, hb⟩; refine ⟨_, rfl, ?_⟩; have n0_ := Aside0.mk (Kd.R_below (by (with_reducible repeat (first | apply Kd.R_alloc | apply Kd.R_drewN | apply Kd.R_drew)); exact HO385.out) hb); have n1_ := Aside0.mk (below_step (by repeat (first | (with_reducible first | exact HB.out | apply below_alloc | apply pw_below_drewN | apply below_drew1) | exact HB.out)) hb); clear HO385; clear HB; have HO385 := n0_; have HB := n1_; clear n0_ n1_; (try clear hb); (try clear hb2); (try clear hk); (try clear hi)) | ((with_reducible refine gate_callee (f := 34) rfl ?_); refine goesL_ (some 205) rfl rfl Try.func34 (by kernel_rfl) rfl #[.slice Ao71 t381.length co71, .string t382, .string t383] rfl (by (try simp only [List.map_toArray, List.map_cons, List.map_nil]); first | done | rfl | (simp only [List.length_drop, List.length_take]; rfl)) ?_; (with_reducible refine (spec_JoinedBy.calls kj55 _ _ t381 t382 t383 t388 t389 _ ?side1 ?side2 A64.out).mono ?_); (case side1 => repeat (first | exact (Kd.R_reads' HO385.out).2.2 | (with_reducible refine Kd.C_alloc ?_ _) | (with_reducible refine Kd.C_drewN ?_ _) | (with_reducible refine Kd.C_drew ?_))); (case side2 => exact (Kd.R_reads' HO385.out).2.1); rintro e w73 ⟨rfl, hb⟩; refine ⟨_, rfl, ?_⟩; have n0_ := Aside0.mk (Kd.R_below (by (with_reducible repeat (first | apply Kd.R_alloc | apply Kd.R_drewN | apply Kd.R_drew)); exact HO385.out) hb); have n1_ := Aside0.mk (below_step (by repeat (first | (with_reducible first | exact HB.out | apply below_alloc | apply pw_below_drewN | apply below_drew1) | exact HB.out)) hb); clear HO385; clear HB; have HO385 := n0_; have HB := n1_; clear n0_ n1_; (try clear hb); (try clear hb2); (try clear hk); (try clear hi)))
                                                go_ret
                                                exact ⟨by first | rfl | (simp [errW_none, errW_some] <;> rfl) | (simp only [← hji52]; first | rfl | (simp [errW_none, errW_some] <;> rfl)) | (simp [*, errW_none, errW_some] <;> rfl), by repeat (first | (with_reducible first | exact HB.out | apply below_alloc | apply pw_below_drewN | apply below_drew1) | exact HB.out)⟩
                                      · rw [if_neg c54] at H
                                        exact absurd H (by simp)
                                    · rw [if_neg c53] at H
                                      exact absurd H (by simp)
                                · rw [if_neg c49] at H
                                  have c49b0 : decide (0 < (t372.length : Int)) = false := decide_eq_false c49
                                  have c49b1 : decide (0 < t372.length) = false := decide_eq_false (by omega)
                                  clear c49
                                  replace H := Option.bind_eq_some_iff.mp H
                                  obtain ⟨⟨t390, t391, t392⟩, A740, H⟩ := H
                                  replace H : ((impl_JoinedBy.f kj43 t390 t391 t392).bind fun bt395 => ((spec_JoinedBy.f kj43 t390 t391 t392).bind fun bt397 => (if (bt395.2 == bt397.2) = true then (some (bt395.1 == bt397.1)) else (some false)))) = some r := H
                                  have A74 := Aside0.mk A740
                                  clear A740
                                  replace H := Option.bind_eq_some_iff.mp H
                                  obtain ⟨⟨t395, t396⟩, A750, H⟩ := H
                                  replace H : ((spec_JoinedBy.f kj43 t390 t391 t392).bind fun bt397 => (if (t396 == bt397.2) = true then (some (t395 == bt397.1)) else (some false))) = some r := H
                                  have A75 := Aside0.mk A750
                                  clear A750
                                  replace H := Option.bind_eq_some_iff.mp H
                                  obtain ⟨⟨t397, t398⟩, A760, H⟩ := H
                                  replace H : (if (t396 == t398) = true then (some (t395 == t397)) else (some false)) = some r := H
                                  have A76 := Aside0.mk A760
                                  clear A760
                                  by_cases c77 : (t396 == t398) = true
                                  · rw [if_pos c77] at H
                                    have c77b0 : (t396 == t398) = true := c77
                                    (try (have c77b1 : decide (t396 = t398) = true := by simpa using c77))
                                    (try (have c77b2 : (t396 == t398) = true := by simpa using c77))
                                    clear c77
                                    obtain rfl := Option.some.inj H
                                    go_wp2_with (first | ((with_reducible refine gate_callee (f := 12) rfl ?_); refine goesL_ (some 160) rfl rfl Try.func12 (by kernel_rfl) rfl #[.slice Ao13 t349.length co13, .string t350] rfl (by (try simp only [List.map_toArray, List.map_cons, List.map_nil]); first | done | rfl | (simp only [List.length_drop, List.length_take]; rfl)) ?_; (with_reducible refine (impl_OnceBy.calls kj43 _ _ t349 t350 t372 true _ ?side1 ?side2 A47.out).mono ?_); (case side1 => repeat (first | exact (Kd.R_reads' HO_5.out).2.2 | (with_reducible refine Kd.C_alloc ?_ _) | (with_reducible refine Kd.C_drewN ?_ _) | (with_reducible refine Kd.C_drew ?_))); (case side2 => exact (Kd.R_reads' HO_5.out).2.1); rintro e w78 ⟨v374, rfl, ho0, hb⟩; refine ⟨_, rfl, ?_⟩; have n0_ := Aside0.mk (Kd.R_below (by (with_reducible repeat (first | apply Kd.R_alloc | apply Kd.R_drewN | apply Kd.R_drew)); exact HO_5.out) hb); have n1_ := Aside0.mk (Kd.R_lower ho0 (below_size (by repeat (first | (with_reducible first | exact HB.out | apply below_alloc | apply pw_below_drewN | apply below_drew1) | exact HB.out)))); have n2_ := Aside0.mk (below_step (by repeat (first | (with_reducible first | exact HB.out | apply below_alloc | apply pw_below_drewN | apply below_drew1) | exact HB.out)) hb); clear HO_5; clear HB; have HO_5 := n0_; have HO375 := n1_; have HB := n2_; clear n0_ n1_ n2_; (try clear hb); (try clear hb2); (try clear hk); (try clear hi); (try clear ho0); obtain ⟨Ao79, co79, eo79⟩ := Kd.R_slice HO375.out; subst eo79) | ((with_reducible refine gate_callee (f := 32) rfl ?_); refine goesL_ (some 190) rfl rfl Try.func32 (by kernel_rfl) rfl #[.slice A1 l1.length c1] rfl (by (try simp only [List.map_toArray, List.map_cons, List.map_nil]); first | done | rfl | (simp only [List.length_drop, List.length_take]; rfl)) ?_; (with_reducible refine (spec_DrawJoinedBy.calls kj43 _ _ l1 t390 t391 t392 _ ?side1 ?side2 A74.out).mono ?_); (case side1 => repeat (first | exact (Kd.C_below HR1.out HB.out) | (with_reducible refine Kd.C_alloc ?_ _) | (with_reducible refine Kd.C_drewN ?_ _) | (with_reducible refine Kd.C_drew ?_))); (case side2 => exact HC1.out); rintro e w80 ⟨v393, rfl, ho0, hb⟩; refine ⟨_, rfl, ?_⟩; have n0_ := Aside0.mk (Kd.R_elder' (by (with_reducible repeat (first | apply Kd.R_alloc | apply Kd.R_drewN | apply Kd.R_drew)); exact HO_5.out) (Kd.R_base ho0) hb); have n1_ := Aside0.mk (Kd.R_below (by (with_reducible repeat (first | apply Kd.R_alloc | apply Kd.R_drewN | apply Kd.R_drew)); exact HO375.out) hb); have n2_ := Aside0.mk (Kd.R_lower (Kd.R_new' ho0 (Kd.R_lt (by (with_reducible repeat (first | apply Kd.R_alloc | apply Kd.R_drewN | apply Kd.R_drew)); exact HO_5.out))) (below_size (by repeat (first | (with_reducible first | exact HB.out | apply below_alloc | apply pw_below_drewN | apply below_drew1) | exact HB.out)))); have n3_ := Aside0.mk (below_step (by repeat (first | (with_reducible first | exact HB.out | apply below_alloc | apply pw_below_drewN | apply below_drew1) | exact HB.out)) hb); clear HO_5; clear HO375; clear HB; have HO_5 := n0_; have HO375 := n1_; have HO394 := n2_; have HB := n3_; clear n0_ n1_ n2_ n3_; (try clear hb); (try clear hb2); (try clear hk); (try clear hi); (try clear ho0); obtain ⟨Ao81, co81, eo81⟩ := Kd.R_slice HO394.out; subst eo81) | ((with_reducible refine gate_callee (f := 33) rfl ?_); refine goesL_ (some 198) rfl rfl Try.func33 (by kernel_rfl) rfl #[.slice Ao81 t390.length co81, .string t391, .string t392] rfl (by (try simp only [List.map_toArray, List.map_cons, List.map_nil]); first | done | rfl | (simp only [List.length_drop, List.length_take]; rfl)) ?_; (with_reducible refine (impl_JoinedBy.calls kj43 _ _ t390 t391 t392 t395 t396 _ ?side1 ?side2 A75.out).mono ?_); (case side1 => repeat (first | exact (Kd.R_reads' HO394.out).2.2 | (with_reducible refine Kd.C_alloc ?_ _) | (with_reducible refine Kd.C_drewN ?_ _) | (with_reducible refine Kd.C_drew ?_))); (case side2 => exact (Kd.R_reads' HO394.out).2.1); rintro e w82 ⟨rfl, hb⟩; refine ⟨_, rfl, ?_⟩; have n0_ := Aside0.mk (Kd.R_below (by (with_reducible repeat (first | apply Kd.R_alloc | apply Kd.R_drewN | apply Kd.R_drew)); exact HO_5.out) hb); have n1_ := Aside0.mk (Kd.R_below (by (with_reducible repeat (first | apply Kd.R_alloc | apply Kd.R_drewN | apply Kd.R_drew)); exact HO375.out) hb); have n2_ := Aside0.mk (Kd.R_below (by (with_reducible repeat (first | apply Kd.R_alloc | apply Kd.R_drewN | apply Kd.R_drew)); exact HO394.out) hb); have n3_ := Aside0.mk (below_step (by repeat (first | (with_reducible first | exact HB.out | apply below_alloc | apply pw_below_drewN | apply below_drew1) | exact HB.out)) hb); clear HO_5; clear HO375; clear HO394; clear HB; have HO_5 := n0_; have HO375 := n1_; have HO394 := n2_; have HB := n3_; clear n0_ n1_ n2_ n3_; (try clear hb); (try clear hb2); (try clear hk); (try clear hi)) | ((with_reducible refine gate_callee (f := 34) rfl ?_); refine goesL_ (some 205) rfl rfl Try.func34 (by kernel_rfl) rfl #[.slice Ao81 t390.length co81, .string t391, .string t392] rfl (by (try simp only [List.map_toArray, List.map_cons, List.map_nil]); first | done | rfl | (simp only [List.length_drop, List.length_take]; rfl)) ?_; (with_reducible refine (spec_JoinedBy.calls kj43 _ _ t390 t391 t392 t397 t398 _ ?side1 ?side2 A76.out).mono ?_); (case side1 => repeat (first | exact (Kd.R_reads' HO394.out).2.2 | (with_reducible refine Kd.C_alloc ?_ _) | (with_reducible refine Kd.C_drewN ?_ _) | (with_reducible refine Kd.C_drew ?_))); (case side2 => exact (Kd.R_reads' HO394.out).2.1); rintro e w83 ⟨rfl, hb⟩; refine ⟨_, rfl, ?_⟩; have n0_ := Aside0.mk (Kd.R_below (by (with_reducible repeat (first | apply Kd.R_alloc | apply Kd.R_drewN | apply Kd.R_drew)); exact HO_5.out) hb); have n1_ := Aside0.mk (Kd.R_below (by (with_reducible repeat (first | apply Kd.R_alloc | apply Kd.R_drewN | apply Kd.R_drew)); exact HO375.out) hb); have n2_ := Aside0.mk (Kd.R_below (by (with_reducible repeat (first | apply Kd.R_alloc | apply Kd.R_drewN | apply Kd.R_drew)); exact HO394.out) hb); have n3_ := Aside0.mk (below_step (by repeat (first | (with_reducible first | exact HB.out | apply below_alloc | apply pw_below_drewN | apply below_drew1) | exact HB.out)) hb); clear HO_5; clear HO375; clear HO394; clear HB; have HO_5 := n0_; have HO375 := n1_; have HO394 := n2_; have HB := n3_; clear n0_ n1_ n2_ n3_; (try clear hb); (try clear hb2); (try clear hk); (try clear hi)))
                                    go_ret
                                    exact ⟨by first | rfl | (simp [errW_none, errW_some] <;> rfl) | (simp [*, errW_none, errW_some] <;> rfl), by repeat (first | (with_reducible first | exact HB.out | apply below_alloc | apply pw_below_drewN | apply below_drew1) | exact HB.out)⟩
                                  · rw [if_neg c77] at H
                                    have c77b0 : (t396 == t398) = false := by simpa using c77
                                    (try (have c77b1 : decide (t396 = t398) = false := by simpa using c77))
                                    (try (have c77b2 : (t396 == t398) = false := by simpa using c77))
                                    (try (have c77b3 : ¬ (t396 = t398) := by simpa using c77))
                                    clear c77
                                    obtain rfl := Option.some.inj H
                                    go_wp2_with (first | ((with_reducible refine gate_callee (f := 12) rfl ?_); refine goesL_ (some 160) rfl rfl Try.func12 (by kernel_rfl) rfl #[.slice Ao13 t349.length co13, .string t350] rfl (by (try simp only [List.map_toArray, List.map_cons, List.map_nil]); first | done | rfl | (simp only [List.length_drop, List.length_take]; rfl)) ?_; (with_reducible refine (impl_OnceBy.calls kj43 _ _ t349 t350 t372 true _ ?side1 ?side2 A47.out).mono ?_); (case side1 => repeat (first | exact (Kd.R_reads' HO_5.out).2.2 | (with_reducible refine Kd.C_alloc ?_ _) | (with_reducible refine Kd.C_drewN ?_ _) | (with_reducible refine Kd.C_drew ?_))); (case side2 => exact (Kd.R_reads' HO_5.out).2.1); rintro e w84 ⟨v374, rfl, ho0, hb⟩; refine ⟨_, rfl, ?_⟩; have n0_ := Aside0.mk (Kd.R_below (by (with_reducible repeat (first | apply Kd.R_alloc | apply Kd.R_drewN | apply Kd.R_drew)); exact HO_5.out) hb); have n1_ := Aside0.mk (Kd.R_lower ho0 (below_size (by repeat (first | (with_reducible first | exact HB.out | apply below_alloc | apply pw_below_drewN | apply below_drew1) | exact HB.out)))); have n2_ := Aside0.mk (below_step (by repeat (first | (with_reducible first | exact HB.out | apply below_alloc | apply pw_below_drewN | apply below_drew1) | exact HB.out)) hb); clear HO_5; clear HB; have HO_5 := n0_; have HO375 := n1_; have HB := n2_; clear n0_ n1_ n2_; (try clear hb); (try clear hb2); (try clear hk); (try clear hi); (try clear ho0); obtain ⟨Ao85, co85, eo85⟩ := Kd.R_slice HO375.out; subst eo85) | ((with_reducible refine gate_callee (f := 32) rfl ?_); refine goesL_ (some 190) rfl rfl Try.func32 (by kernel_rfl) rfl #[.slice A1 l1.length c1] rfl (by (try simp only [List.map_toArray, List.map_cons, List.map_nil]); first | done | rfl | (simp only [List.length_drop, List.length_take]; rfl)) ?_; (with_reducible refine (spec_DrawJoinedBy.calls kj43 _ _ l1 t390 t391 t392 _ ?side1 ?side2 A74.out).mono ?_); (case side1 => repeat (first | exact (Kd.C_below HR1.out HB.out) | (with_reducible refine Kd.C_alloc ?_ _) | (with_reducible refine Kd.C_drewN ?_ _) | (with_reducible refine Kd.C_drew ?_))); (case side2 => exact HC1.out); rintro e w86 ⟨v393, rfl, ho0, hb⟩; refine ⟨_, rfl, ?_⟩; have n0_ := Aside0.mk (Kd.R_elder' (by (with_reducible repeat (first | apply Kd.R_alloc | apply Kd.R_drewN | apply Kd.R_drew)); exact HO_5.out) (Kd.R_base ho0) hb); have n1_ := Aside0.mk (Kd.R_below (by (with_reducible repeat (first | apply Kd.R_alloc | apply Kd.R_drewN | apply Kd.R_drew)); exact HO375.out) hb); have n2_ := Aside0.mk (Kd.R_lower (Kd.R_new' ho0 (Kd.R_lt (by (with_reducible repeat (first | apply Kd.R_alloc | apply Kd.R_drewN | apply Kd.R_drew)); exact HO_5.out))) (below_size (by repeat (first | (with_reducible first | exact HB.out | apply below_alloc | apply pw_below_drewN | apply below_drew1) | exact HB.out)))); have n3_ := Aside0.mk (below_step (by repeat (first | (with_reducible first | exact HB.out | apply below_alloc | apply pw_below_drewN | apply below_drew1) | exact HB.out)) hb); clear HO_5; clear HO375; clear HB; have HO_5 := n0_; have HO375 := n1_; have HO394 := n2_; have HB := n3_; clear n0_ n1_ n2_ n3_; (try clear hb); (try clear hb2); (try clear hk); (try clear hi); (try clear ho0); obtain ⟨Ao87, co87, eo87⟩ := Kd.R_slice HO394.out; subst eo87) | ((with_reducible refine gate_callee (f := 33) rfl ?_); refine goesL_ (some 198) rfl rfl Try.func33 (by kernel_rfl) rfl #[.slice Ao87 t390.length co87, .string t391, .string t392] rfl (by (try simp only [List.map_toArray, List.map_cons, List.map_nil]); first | done | rfl | (simp only [List.length_drop, List.length_take]; rfl)) ?_; (with_reducible refine (impl_JoinedBy.calls kj43 _ _ t390 t391 t392 t395 t396 _ ?side1 ?side2 A75.out).mono ?_); (case side1 => repeat (first | exact (Kd.R_reads' HO394.out).2.2 | (with_reducible refine Kd.C_alloc ?_ _) | (with_reducible refine Kd.C_drewN ?_ _) | (with_reducible refine Kd.C_drew ?_))); (case side2 => exact (Kd.R_reads' HO394.out).2.1); rintro e w88 ⟨rfl, hb⟩; refine ⟨_, rfl, ?_⟩; have n0_ := Aside0.mk (Kd.R_below (by (with_reducible repeat (first | apply Kd.R_alloc | apply Kd.R_drewN | apply Kd.R_drew)); exact HO_5.out) hb); have n1_ := Aside0.mk (Kd.R_below (by (with_reducible repeat (first | apply Kd.R_alloc | apply Kd.R_drewN | apply Kd.R_drew)); exact HO375.out) hb); have n2_ := Aside0.mk (Kd.R_below (by (with_reducible repeat (first | apply Kd.R_alloc | apply Kd.R_drewN | apply Kd.R_drew)); exact HO394.out) hb); have n3_ := Aside0.mk (below_step (by repeat (first | (with_reducible first | exact HB.out | apply below_alloc | apply pw_below_drewN | apply below_drew1) | exact HB.out)) hb); clear HO_5; clear HO375; clear HO394; clear HB; have HO_5 := n0_; have HO375 := n1_; have HO394 := n2_; have HB := n3_; clear n0_ n1_ n2_ n3_; (try clear hb); (try clear hb2); (try clear hk); (try clear hi)) | ((with_reducible refine gate_callee (f := 34) rfl ?_); refine goesL_ (some 205) rfl rfl Try.func34 (by kernel_rfl) rfl #[.slice Ao87 t390.length co87, .string t391, .string t392] rfl (by (try simp only [List.map_toArray, List.map_cons, List.map_nil]); first | done | rfl | (simp only [List.length_drop, List.length_take]; rfl)) ?_; (with_reducible refine (spec_JoinedBy.calls kj43 _ _ t390 t391 t392 t397 t398 _ ?side1 ?side2 A76.out).mono ?_); (case side1 => repeat (first | exact (Kd.R_reads' HO394.out).2.2 | (with_reducible refine Kd.C_alloc ?_ _) | (with_reducible refine Kd.C_drewN ?_ _) | (with_reducible refine Kd.C_drew ?_))); (case side2 => exact (Kd.R_reads' HO394.out).2.1); rintro e w89 ⟨rfl, hb⟩; refine ⟨_, rfl, ?_⟩; have n0_ := Aside0.mk (Kd.R_below (by (with_reducible repeat (first | apply Kd.R_alloc | apply Kd.R_drewN | apply Kd.R_drew)); exact HO_5.out) hb); have n1_ := Aside0.mk (Kd.R_below (by (with_reducible repeat (first | apply Kd.R_alloc | apply Kd.R_drewN | apply Kd.R_drew)); exact HO375.out) hb); have n2_ := Aside0.mk (Kd.R_below (by (with_reducible repeat (first | apply Kd.R_alloc | apply Kd.R_drewN | apply Kd.R_drew)); exact HO394.out) hb); have n3_ := Aside0.mk (below_step (by repeat (first | (with_reducible first | exact HB.out | apply below_alloc | apply pw_below_drewN | apply below_drew1) | exact HB.out)) hb); clear HO_5; clear HO375; clear HO394; clear HB; have HO_5 := n0_; have HO375 := n1_; have HO394 := n2_; have HB := n3_; clear n0_ n1_ n2_ n3_; (try clear hb); (try clear hb2); (try clear hk); (try clear hi)))
                                    go_ret
                                    exact ⟨by first | rfl | (simp [errW_none, errW_some] <;> rfl) | (simp [*, errW_none, errW_some] <;> rfl), by repeat (first | (with_reducible first | exact HB.out | apply below_alloc | apply pw_below_drewN | apply below_drew1) | exact HB.out)⟩
                              · replace c48 := Bool.eq_false_iff.mpr c48
                                subst c48
                                have H1 : (some false) = some r := by rw [if_neg (show ¬ (false = true) by decide)] at H; exact H
                                clear H
                                have H := H1
                                clear H1
                                obtain rfl := Option.some.inj H
                                go_wp2_with (first | ((with_reducible refine gate_callee (f := 12) rfl ?_); refine goesL_ (some 160) rfl rfl Try.func12 (by kernel_rfl) rfl #[.slice Ao13 t349.length co13, .string t350] rfl (by (try simp only [List.map_toArray, List.map_cons, List.map_nil]); first | done | rfl | (simp only [List.length_drop, List.length_take]; rfl)) ?_; (with_reducible refine (impl_OnceBy.calls kj43 _ _ t349 t350 t372 false _ ?side1 ?side2 A47.out).mono ?_); (case side1 => repeat (first | exact (Kd.R_reads' HO_5.out).2.2 | (with_reducible refine Kd.C_alloc ?_ _) | (with_reducible refine Kd.C_drewN ?_ _) | (with_reducible refine Kd.C_drew ?_))); (case side2 => exact (Kd.R_reads' HO_5.out).2.1); rintro e w90 ⟨v374, rfl, ho0, hb⟩; refine ⟨_, rfl, ?_⟩; have n0_ := Aside0.mk (Kd.R_below (by (with_reducible repeat (first | apply Kd.R_alloc | apply Kd.R_drewN | apply Kd.R_drew)); exact HO_5.out) hb); have n1_ := Aside0.mk (Kd.R_lower ho0 (below_size (by repeat (first | (with_reducible first | exact HB.out | apply below_alloc | apply pw_below_drewN | apply below_drew1) | exact HB.out)))); have n2_ := Aside0.mk (below_step (by repeat (first | (with_reducible first | exact HB.out | apply below_alloc | apply pw_below_drewN | apply below_drew1) | exact HB.out)) hb); clear HO_5; clear HB; have HO_5 := n0_; have HO375 := n1_; have HB := n2_; clear n0_ n1_ n2_; (try clear hb); (try clear hb2); (try clear hk); (try clear hi); (try clear ho0)))
                                go_ret
                                exact ⟨by first | rfl | (simp [errW_none, errW_some] <;> rfl) | (simp [*, errW_none, errW_some] <;> rfl), by repeat (first | (with_reducible first | exact HB.out | apply below_alloc | apply pw_below_drewN | apply below_drew1) | exact HB.out)⟩
                      · replace c43 := Bool.eq_false_iff.mpr c43
                        subst c43
                        have H1 : ((spec_DrawJoinedBy.f kj40 l1).bind fun bt399 => ((impl_JoinedBy.f kj40 bt399.1 bt399.2.1 bt399.2.2).bind fun bt404 => ((spec_JoinedBy.f kj40 bt399.1 bt399.2.1 bt399.2.2).bind fun bt406 => (if (bt404.2 == bt406.2) = true then (some (bt404.1 == bt406.1)) else (some false))))) = some r := by rw [if_neg (show ¬ (false = true) by decide)] at H; exact H
                        clear H
                        have H := H1
                        clear H1
                        replace H := Option.bind_eq_some_iff.mp H
                        obtain ⟨⟨t399, t400, t401⟩, A910, H⟩ := H
                        replace H : ((impl_JoinedBy.f kj40 t399 t400 t401).bind fun bt404 => ((spec_JoinedBy.f kj40 t399 t400 t401).bind fun bt406 => (if (bt404.2 == bt406.2) = true then (some (bt404.1 == bt406.1)) else (some false)))) = some r := H
                        have A91 := Aside0.mk A910
                        clear A910
                        replace H := Option.bind_eq_some_iff.mp H
                        obtain ⟨⟨t404, t405⟩, A920, H⟩ := H
                        replace H : ((spec_JoinedBy.f kj40 t399 t400 t401).bind fun bt406 => (if (t405 == bt406.2) = true then (some (t404 == bt406.1)) else (some false))) = some r := H
                        have A92 := Aside0.mk A920
                        clear A920
                        replace H := Option.bind_eq_some_iff.mp H
                        obtain ⟨⟨t406, t407⟩, A930, H⟩ := H
                        replace H : (if (t405 == t407) = true then (some (t404 == t406)) else (some false)) = some r := H
                        have A93 := Aside0.mk A930
                        clear A930
                        by_cases c94 : (t405 == t407) = true
                        · rw [if_pos c94] at H
                          have c94b0 : (t405 == t407) = true := c94
                          (try (have c94b1 : decide (t405 = t407) = true := by simpa using c94))
                          (try (have c94b2 : (t405 == t407) = true := by simpa using c94))
                          clear c94
                          obtain rfl := Option.some.inj H
                          go_wp2_with (first | ((with_reducible refine gate_callee (f := 32) rfl ?_); refine goesL_ (some 190) rfl rfl Try.func32 (by kernel_rfl) rfl #[.slice A1 l1.length c1] rfl (by (try simp only [List.map_toArray, List.map_cons, List.map_nil]); first | done | rfl | (simp only [List.length_drop, List.length_take]; rfl)) ?_; (with_reducible refine (spec_DrawJoinedBy.calls kj40 _ _ l1 t399 t400 t401 _ ?side1 ?side2 A91.out).mono ?_); (case side1 => repeat (first | exact (Kd.C_below HR1.out HB.out) | (with_reducible refine Kd.C_alloc ?_ _) | (with_reducible refine Kd.C_drewN ?_ _) | (with_reducible refine Kd.C_drew ?_))); (case side2 => exact HC1.out); rintro e w95 ⟨v402, rfl, ho0, hb⟩; refine ⟨_, rfl, ?_⟩; have n0_ := Aside0.mk (Kd.R_elder' (by (with_reducible repeat (first | apply Kd.R_alloc | apply Kd.R_drewN | apply Kd.R_drew)); exact HO_5.out) (Kd.R_base ho0) hb); have n1_ := Aside0.mk (Kd.R_lower (Kd.R_new' ho0 (Kd.R_lt (by (with_reducible repeat (first | apply Kd.R_alloc | apply Kd.R_drewN | apply Kd.R_drew)); exact HO_5.out))) (below_size (by repeat (first | (with_reducible first | exact HB.out | apply below_alloc | apply pw_below_drewN | apply below_drew1) | exact HB.out)))); have n2_ := Aside0.mk (below_step (by repeat (first | (with_reducible first | exact HB.out | apply below_alloc | apply pw_below_drewN | apply below_drew1) | exact HB.out)) hb); clear HO_5; clear HB; have HO_5 := n0_; have HO403 := n1_; have HB := n2_; clear n0_ n1_ n2_; (try clear hb); (try clear hb2); (try clear hk); (try clear hi); (try clear ho0); obtain ⟨Ao96, co96, eo96⟩ := Kd.R_slice HO403.out; subst eo96) | ((with_reducible refine gate_callee (f := 33) rfl ?_); refine goesL_ (some 198) rfl rfl Try.func33 (by kernel_rfl) rfl #[.slice Ao96 t399.length co96, .string t400, .string t401] rfl (by (try simp only [List.map_toArray, List.map_cons, List.map_nil]); first | done | rfl | (simp only [List.length_drop, List.length_take]; rfl)) ?_; (with_reducible refine (impl_JoinedBy.calls kj40 _ _ t399 t400 t401 t404 t405 _ ?side1 ?side2 A92.out).mono ?_); (case side1 => repeat (first | exact (Kd.R_reads' HO403.out).2.2 | (with_reducible refine Kd.C_alloc ?_ _) | (with_reducible refine Kd.C_drewN ?_ _) | (with_reducible refine Kd.C_drew ?_))); (case side2 => exact (Kd.R_reads' HO403.out).2.1); rintro e w97 ⟨rfl, hb⟩; refine ⟨_, rfl, ?_⟩; have n0_ := Aside0.mk (Kd.R_below (by (with_reducible repeat (first | apply Kd.R_alloc | apply Kd.R_drewN | apply Kd.R_drew)); exact HO_5.out) hb); have n1_ := Aside0.mk (Kd.R_below (by (with_reducible repeat (first | apply Kd.R_alloc | apply Kd.R_drewN | apply Kd.R_drew)); exact HO403.out) hb); have n2_ := Aside0.mk (below_step (by repeat (first | (with_reducible first | exact HB.out | apply below_alloc | apply pw_below_drewN | apply below_drew1) | exact HB.out)) hb); clear HO_5; clear HO403; clear HB; have HO_5 := n0_; have HO403 := n1_; have HB := n2_; clear n0_ n1_ n2_; (try clear hb); (try clear hb2); (try clear hk); (try clear hi)) | ((with_reducible refine gate_callee (f := 34) rfl ?_); refine goesL_ (some 205) rfl rfl Try.func34 (by kernel_rfl) rfl #[.slice Ao96 t399.length co96, .string t400, .string t401] rfl (by (try simp only [List.map_toArray, List.map_cons, List.map_nil]); first | done | rfl | (simp only [List.length_drop, List.length_take]; rfl)) ?_; (with_reducible refine (spec_JoinedBy.calls kj40 _ _ t399 t400 t401 t406 t407 _ ?side1 ?side2 A93.out).mono ?_); (case side1 => repeat (first | exact (Kd.R_reads' HO403.out).2.2 | (with_reducible refine Kd.C_alloc ?_ _) | (with_reducible refine Kd.C_drewN ?_ _) | (with_reducible refine Kd.C_drew ?_))); (case side2 => exact (Kd.R_reads' HO403.out).2.1); rintro e w98 ⟨rfl, hb⟩; refine ⟨_, rfl, ?_⟩; have n0_ := Aside0.mk (Kd.R_below (by (with_reducible repeat (first | apply Kd.R_alloc | apply Kd.R_drewN | apply Kd.R_drew)); exact HO_5.out) hb); have n1_ := Aside0.mk (Kd.R_below (by (with_reducible repeat (first | apply Kd.R_alloc | apply Kd.R_drewN | apply Kd.R_drew)); exact HO403.out) hb); have n2_ := Aside0.mk (below_step (by repeat (first | (with_reducible first | exact HB.out | apply below_alloc | apply pw_below_drewN | apply below_drew1) | exact HB.out)) hb); clear HO_5; clear HO403; clear HB; have HO_5 := n0_; have HO403 := n1_; have HB := n2_; clear n0_ n1_ n2_; (try clear hb); (try clear hb2); (try clear hk); (try clear hi)))
                          go_ret
                          exact ⟨by first | rfl | (simp [errW_none, errW_some] <;> rfl) | (simp [*, errW_none, errW_some] <;> rfl), by repeat (first | (with_reducible first | exact HB.out | apply below_alloc | apply pw_below_drewN | apply below_drew1) | exact HB.out)⟩
                        · rw [if_neg c94] at H
                          have c94b0 : (t405 == t407) = false := by simpa using c94
                          (try (have c94b1 : decide (t405 = t407) = false := by simpa using c94))
                          (try (have c94b2 : (t405 == t407) = false := by simpa using c94))
                          (try (have c94b3 : ¬ (t405 = t407) := by simpa using c94))
                          clear c94
                          obtain rfl := Option.some.inj H
                          go_wp2_with (first | ((with_reducible refine gate_callee (f := 32) rfl ?_); refine goesL_ (some 190) rfl rfl Try.func32 (by kernel_rfl) rfl #[.slice A1 l1.length c1] rfl (by (try simp only [List.map_toArray, List.map_cons, List.map_nil]); first | done | rfl | (simp only [List.length_drop, List.length_take]; rfl)) ?_; (with_reducible refine (spec_DrawJoinedBy.calls kj40 _ _ l1 t399 t400 t401 _ ?side1 ?side2 A91.out).mono ?_); (case side1 => repeat (first | exact (Kd.C_below HR1.out HB.out) | (with_reducible refine Kd.C_alloc ?_ _) | (with_reducible refine Kd.C_drewN ?_ _) | (with_reducible refine Kd.C_drew ?_))); (case side2 => exact HC1.out); rintro e w99 ⟨v402, rfl, ho0, hb⟩; refine ⟨_, rfl, ?_⟩; have n0_ := Aside0.mk (Kd.R_elder' (by (with_reducible repeat (first | apply Kd.R_alloc | apply Kd.R_drewN | apply Kd.R_drew)); exact HO_5.out) (Kd.R_base ho0) hb); have n1_ := Aside0.mk (Kd.R_lower (Kd.R_new' ho0 (Kd.R_lt (by (with_reducible repeat (first | apply Kd.R_alloc | apply Kd.R_drewN | apply Kd.R_drew)); exact HO_5.out))) (below_size (by repeat (first | (with_reducible first | exact HB.out | apply below_alloc | apply pw_below_drewN | apply below_drew1) | exact HB.out)))); have n2_ := Aside0.mk (below_step (by repeat (first | (with_reducible first | exact HB.out | apply below_alloc | apply pw_below_drewN | apply below_drew1) | exact HB.out)) hb); clear HO_5; clear HB; have HO_5 := n0_; have HO403 := n1_; have HB := n2_; clear n0_ n1_ n2_; (try clear hb); (try clear hb2); (try clear hk); (try clear hi); (try clear ho0); obtain ⟨Ao100, co100, eo100⟩ := Kd.R_slice HO403.out; subst eo100) | ((with_reducible refine gate_callee (f := 33) rfl ?_); refine goesL_ (some 198) rfl rfl Try.func33 (by kernel_rfl) rfl #[.slice Ao100 t399.length co100, .string t400, .string t401] rfl (by (try simp only [List.map_toArray, List.map_cons, List.map_nil]); first | done | rfl | (simp only [List.length_drop, List.length_take]; rfl)) ?_; (with_reducible refine (impl_JoinedBy.calls kj40 _ _ t399 t400 t401 t404 t405 _ ?side1 ?side2 A92.out).mono ?_); (case side1 => repeat (first | exact (Kd.R_reads' HO403.out).2.2 | (with_reducible refine Kd.C_alloc ?_ _) | (with_reducible refine Kd.C_drewN ?_ _) | (with_reducible refine Kd.C_drew ?_))); (case side2 => exact (Kd.R_reads' HO403.out).2.1); rintro e w101 ⟨rfl, hb⟩; refine ⟨_, rfl, ?_⟩; have n0_ := Aside0.mk (Kd.R_below (by (with_reducible repeat (first | apply Kd.R_alloc | apply Kd.R_drewN | apply Kd.R_drew)); exact HO_5.out) hb); have n1_ := Aside0.mk (Kd.R_below (by (with_reducible repeat (first | apply Kd.R_alloc | apply Kd.R_drewN | apply Kd.R_drew)); exact HO403.out) hb); have n2_ := Aside0.mk (below_step (by repeat (first | (with_reducible first | exact HB.out | apply below_alloc | apply pw_below_drewN | apply below_drew1) | exact HB.out)) hb); clear HO_5; clear HO403; clear HB; have HO_5 := n0_; have HO403 := n1_; have HB := n2_; clear n0_ n1_ n2_; (try clear hb); (try clear hb2); (try clear hk); (try clear hi)) | ((with_reducible refine gate_callee (f := 34) rfl ?_); refine goesL_ (some 205) rfl rfl Try.func34 (by kernel_rfl) rfl #[.slice Ao100 t399.length co100, .string t400, .string t401] rfl (by (try simp only [List.map_toArray, List.map_cons, List.map_nil]); first | done | rfl | (simp only [List.length_drop, List.length_take]; rfl)) ?_; (with_reducible refine (spec_JoinedBy.calls kj40 _ _ t399 t400 t401 t406 t407 _ ?side1 ?side2 A93.out).mono ?_); (case side1 => repeat (first | exact (Kd.R_reads' HO403.out).2.2 | (with_reducible refine Kd.C_alloc ?_ _) | (with_reducible refine Kd.C_drewN ?_ _) | (with_reducible refine Kd.C_drew ?_))); (case side2 => exact (Kd.R_reads' HO403.out).2.1); rintro e w102 ⟨rfl, hb⟩; refine ⟨_, rfl, ?_⟩; have n0_ := Aside0.mk (Kd.R_below (by (with_reducible repeat (first | apply Kd.R_alloc | apply Kd.R_drewN | apply Kd.R_drew)); exact HO_5.out) hb); have n1_ := Aside0.mk (Kd.R_below (by (with_reducible repeat (first | apply Kd.R_alloc | apply Kd.R_drewN | apply Kd.R_drew)); exact HO403.out) hb); have n2_ := Aside0.mk (below_step (by repeat (first | (with_reducible first | exact HB.out | apply below_alloc | apply pw_below_drewN | apply below_drew1) | exact HB.out)) hb); clear HO_5; clear HO403; clear HB; have HO_5 := n0_; have HO403 := n1_; have HB := n2_; clear n0_ n1_ n2_; (try clear hb); (try clear hb2); (try clear hk); (try clear hi)))
                          go_ret
                          exact ⟨by first | rfl | (simp [errW_none, errW_some] <;> rfl) | (simp [*, errW_none, errW_some] <;> rfl), by repeat (first | (with_reducible first | exact HB.out | apply below_alloc | apply pw_below_drewN | apply below_drew1) | exact HB.out)⟩
          · replace c27 := Bool.eq_false_iff.mpr c27
            subst c27
            have H1 : ((spec_DrawJoinedBy.f kj10 l1).bind fun bt408 => ((impl_JoinedBy.f kj10 bt408.1 bt408.2.1 bt408.2.2).bind fun bt413 => ((spec_JoinedBy.f kj10 bt408.1 bt408.2.1 bt408.2.2).bind fun bt415 => (if (bt413.2 == bt415.2) = true then (some (bt413.1 == bt415.1)) else (some false))))) = some r := by rw [if_neg (show ¬ (false = true) by decide)] at H; exact H
            clear H
            have H := H1
            clear H1
            replace H := Option.bind_eq_some_iff.mp H
            obtain ⟨⟨t408, t409, t410⟩, A1030, H⟩ := H
            replace H : ((impl_JoinedBy.f kj10 t408 t409 t410).bind fun bt413 => ((spec_JoinedBy.f kj10 t408 t409 t410).bind fun bt415 => (if (bt413.2 == bt415.2) = true then (some (bt413.1 == bt415.1)) else (some false)))) = some r := H
            have A103 := Aside0.mk A1030
            clear A1030
            replace H := Option.bind_eq_some_iff.mp H
            obtain ⟨⟨t413, t414⟩, A1040, H⟩ := H
            replace H : ((spec_JoinedBy.f kj10 t408 t409 t410).bind fun bt415 => (if (t414 == bt415.2) = true then (some (t413 == bt415.1)) else (some false))) = some r := H
            have A104 := Aside0.mk A1040
            clear A1040
            replace H := Option.bind_eq_some_iff.mp H
            obtain ⟨⟨t415, t416⟩, A1050, H⟩ := H
            replace H : (if (t414 == t416) = true then (some (t413 == t415)) else (some false)) = some r := H
            have A105 := Aside0.mk A1050
            clear A1050
            by_cases c106 : (t414 == t416) = true
            · rw [if_pos c106] at H
              have c106b0 : (t414 == t416) = true := c106
              (try (have c106b1 : decide (t414 = t416) = true := by simpa using c106))
              (try (have c106b2 : (t414 == t416) = true := by simpa using c106))
              clear c106
              obtain rfl := Option.some.inj H
              go_wp2_with (first | ((with_reducible refine gate_callee (f := 32) rfl ?_); refine goesL_ (some 190) rfl rfl Try.func32 (by kernel_rfl) rfl #[.slice A1 l1.length c1] rfl (by (try simp only [List.map_toArray, List.map_cons, List.map_nil]); first | done | rfl | (simp only [List.length_drop, List.length_take]; rfl)) ?_; (with_reducible refine (spec_DrawJoinedBy.calls kj10 _ _ l1 t408 t409 t410 _ ?side1 ?side2 A103.out).mono ?_); (case side1 => repeat (first | exact (Kd.C_below HR1.out HB.out) | (with_reducible refine Kd.C_alloc ?_ _) | (with_reducible refine Kd.C_drewN ?_ _) | (with_reducible refine Kd.C_drew ?_))); (case side2 => exact HC1.out); rintro e w107 ⟨v411, rfl, ho0, hb⟩; refine ⟨_, rfl, ?_⟩; have n0_ := Aside0.mk (Kd.R_elder' (by (with_reducible repeat (first | apply Kd.R_alloc | apply Kd.R_drewN | apply Kd.R_drew)); exact HO_5.out) (Kd.R_base ho0) hb); have n1_ := Aside0.mk (Kd.R_lower (Kd.R_new' ho0 (Kd.R_lt (by (with_reducible repeat (first | apply Kd.R_alloc | apply Kd.R_drewN | apply Kd.R_drew)); exact HO_5.out))) (below_size (by repeat (first | (with_reducible first | exact HB.out | apply below_alloc | apply pw_below_drewN | apply below_drew1) | exact HB.out)))); have n2_ := Aside0.mk (below_step (by repeat (first | (with_reducible first | exact HB.out | apply below_alloc | apply pw_below_drewN | apply below_drew1) | exact HB.out)) hb); clear HO_5; clear HB; have HO_5 := n0_; have HO412 := n1_; have HB := n2_; clear n0_ n1_ n2_; (try clear hb); (try clear hb2); (try clear hk); (try clear hi); (try clear ho0); obtain ⟨Ao108, co108, eo108⟩ := Kd.R_slice HO412.out; subst eo108) | ((with_reducible refine gate_callee (f := 33) rfl ?_); refine goesL_ (some 198) rfl rfl Try.func33 (by kernel_rfl) rfl #[.slice Ao108 t408.length co108, .string t409, .string t410] rfl (by (try simp only [List.map_toArray, List.map_cons, List.map_nil]); first | done | rfl | (simp only [List.length_drop, List.length_take]; rfl)) ?_; (with_reducible refine (impl_JoinedBy.calls kj10 _ _ t408 t409 t410 t413 t414 _ ?side1 ?side2 A104.out).mono ?_); (case side1 => repeat (first | exact (Kd.R_reads' HO412.out).2.2 | (with_reducible refine Kd.C_alloc ?_ _) | (with_reducible refine Kd.C_drewN ?_ _) | (with_reducible refine Kd.C_drew ?_))); (case side2 => exact (Kd.R_reads' HO412.out).2.1); rintro e w109 ⟨rfl, hb⟩; refine ⟨_, rfl, ?_⟩; have n0_ := Aside0.mk (Kd.R_below (by (with_reducible repeat (first | apply Kd.R_alloc | apply Kd.R_drewN | apply Kd.R_drew)); exact HO_5.out) hb); have n1_ := Aside0.mk (Kd.R_below (by (with_reducible repeat (first | apply Kd.R_alloc | apply Kd.R_drewN | apply Kd.R_drew)); exact HO412.out) hb); have n2_ := Aside0.mk (below_step (by repeat (first | (with_reducible first | exact HB.out | apply below_alloc | apply pw_below_drewN | apply below_drew1) | exact HB.out)) hb); clear HO_5; clear HO412; clear HB; have HO_5 := n0_; have HO412 := n1_; have HB := n2_; clear n0_ n1_ n2_; (try clear hb); (try clear hb2); (try clear hk); (try clear hi)) | ((with_reducible refine gate_callee (f := 34) rfl ?_); refine goesL_ (some 205) rfl rfl Try.func34 (by kernel_rfl) rfl #[.slice Ao108 t408.length co108, .string t409, .string t410] rfl (by (try simp only [List.map_toArray, List.map_cons, List.map_nil]); first | done | rfl | (simp only [List.length_drop, List.length_take]; rfl)) ?_; (with_reducible refine (spec_JoinedBy.calls kj10 _ _ t408 t409 t410 t415 t416 _ ?side1 ?side2 A105.out).mono ?_); (case side1 => repeat (first | exact (Kd.R_reads' HO412.out).2.2 | (with_reducible refine Kd.C_alloc ?_ _) | (with_reducible refine Kd.C_drewN ?_ _) | (with_reducible refine Kd.C_drew ?_))); (case side2 => exact (Kd.R_reads' HO412.out).2.1); rintro e w110 ⟨rfl, hb⟩; refine ⟨_, rfl, ?_⟩; have n0_ := Aside0.mk (Kd.R_below (by (with_reducible repeat (first | apply Kd.R_alloc | apply Kd.R_drewN | apply Kd.R_drew)); exact HO_5.out) hb); have n1_ := Aside0.mk (Kd.R_below (by (with_reducible repeat (first | apply Kd.R_alloc | apply Kd.R_drewN | apply Kd.R_drew)); exact HO412.out) hb); have n2_ := Aside0.mk (below_step (by repeat (first | (with_reducible first | exact HB.out | apply below_alloc | apply pw_below_drewN | apply below_drew1) | exact HB.out)) hb); clear HO_5; clear HO412; clear HB; have HO_5 := n0_; have HO412 := n1_; have HB := n2_; clear n0_ n1_ n2_; (try clear hb); (try clear hb2); (try clear hk); (try clear hi)))
              go_ret
              exact ⟨by first | rfl | (simp [errW_none, errW_some] <;> rfl) | (simp [*, errW_none, errW_some] <;> rfl), by repeat (first | (with_reducible first | exact HB.out | apply below_alloc | apply pw_below_drewN | apply below_drew1) | exact HB.out)⟩
            · rw [if_neg c106] at H
              have c106b0 : (t414 == t416) = false := by simpa using c106
              (try (have c106b1 : decide (t414 = t416) = false := by simpa using c106))
              (try (have c106b2 : (t414 == t416) = false := by simpa using c106))
              (try (have c106b3 : ¬ (t414 = t416) := by simpa using c106))
              clear c106
              obtain rfl := Option.some.inj H
              go_wp2_with (first | ((with_reducible refine gate_callee (f := 32) rfl ?_); refine goesL_ (some 190) rfl rfl Try.func32 (by kernel_rfl) rfl #[.slice A1 l1.length c1] rfl (by (try simp only [List.map_toArray, List.map_cons, List.map_nil]); first | done | rfl | (simp only [List.length_drop, List.length_take]; rfl)) ?_; (with_reducible refine (spec_DrawJoinedBy.calls kj10 _ _ l1 t408 t409 t410 _ ?side1 ?side2 A103.out).mono ?_); (case side1 => repeat (first | exact (Kd.C_below HR1.out HB.out) | (with_reducible refine Kd.C_alloc ?_ _) | (with_reducible refine Kd.C_drewN ?_ _) | (with_reducible refine Kd.C_drew ?_))); (case side2 => exact HC1.out); rintro e w111 ⟨v411, rfl, ho0, hb⟩; refine ⟨_, rfl, ?_⟩; have n0_ := Aside0.mk (Kd.R_elder' (by (with_reducible repeat (first | apply Kd.R_alloc | apply Kd.R_drewN | apply Kd.R_drew)); exact HO_5.out) (Kd.R_base ho0) hb); have n1_ := Aside0.mk (Kd.R_lower (Kd.R_new' ho0 (Kd.R_lt (by (with_reducible repeat (first | apply Kd.R_alloc | apply Kd.R_drewN | apply Kd.R_drew)); exact HO_5.out))) (below_size (by repeat (first | (with_reducible first | exact HB.out | apply below_alloc | apply pw_below_drewN | apply below_drew1) | exact HB.out)))); have n2_ := Aside0.mk (below_step (by repeat (first | (with_reducible first | exact HB.out | apply below_alloc | apply pw_below_drewN | apply below_drew1) | exact HB.out)) hb); clear HO_5; clear HB; have HO_5 := n0_; have HO412 := n1_; have HB := n2_; clear n0_ n1_ n2_; (try clear hb); (try clear hb2); (try clear hk); (try clear hi); (try clear ho0); obtain ⟨Ao112, co112, eo112⟩ := Kd.R_slice HO412.out; subst eo112) | ((with_reducible refine gate_callee (f := 33) rfl ?_); refine goesL_ (some 198) rfl rfl Try.func33 (by kernel_rfl) rfl #[.slice Ao112 t408.length co112, .string t409, .string t410] rfl (by (try simp only [List.map_toArray, List.map_cons, List.map_nil]); first | done | rfl | (simp only [List.length_drop, List.length_take]; rfl)) ?_; (with_reducible refine (impl_JoinedBy.calls kj10 _ _ t408 t409 t410 t413 t414 _ ?side1 ?side2 A104.out).mono ?_); (case side1 => repeat (first | exact (Kd.R_reads' HO412.out).2.2 | (with_reducible refine Kd.C_alloc ?_ _) | (with_reducible refine Kd.C_drewN ?_ _) | (with_reducible refine Kd.C_drew ?_))); (case side2 => exact (Kd.R_reads' HO412.out).2.1); rintro e w113 ⟨rfl, hb⟩; refine ⟨_, rfl, ?_⟩; have n0_ := Aside0.mk (Kd.R_below (by (with_reducible repeat (first | apply Kd.R_alloc | apply Kd.R_drewN | apply Kd.R_drew)); exact HO_5.out) hb); have n1_ := Aside0.mk (Kd.R_below (by (with_reducible repeat (first | apply Kd.R_alloc | apply Kd.R_drewN | apply Kd.R_drew)); exact HO412.out) hb); have n2_ := Aside0.mk (below_step (by repeat (first | (with_reducible first | exact HB.out | apply below_alloc | apply pw_below_drewN | apply below_drew1) | exact HB.out)) hb); clear HO_5; clear HO412; clear HB; have HO_5 := n0_; have HO412 := n1_; have HB := n2_; clear n0_ n1_ n2_; (try clear hb); (try clear hb2); (try clear hk); (try clear hi)) | ((with_reducible refine gate_callee (f := 34) rfl ?_); refine goesL_ (some 205) rfl rfl Try.func34 (by kernel_rfl) rfl #[.slice Ao112 t408.length co112, .string t409, .string t410] rfl (by (try simp only [List.map_toArray, List.map_cons, List.map_nil]); first | done | rfl | (simp only [List.length_drop, List.length_take]; rfl)) ?_; (with_reducible refine (spec_JoinedBy.calls kj10 _ _ t408 t409 t410 t415 t416 _ ?side1 ?side2 A105.out).mono ?_); (case side1 => repeat (first | exact (Kd.R_reads' HO412.out).2.2 | (with_reducible refine Kd.C_alloc ?_ _) | (with_reducible refine Kd.C_drewN ?_ _) | (with_reducible refine Kd.C_drew ?_))); (case side2 => exact (Kd.R_reads' HO412.out).2.1); rintro e w114 ⟨rfl, hb⟩; refine ⟨_, rfl, ?_⟩; have n0_ := Aside0.mk (Kd.R_below (by (with_reducible repeat (first | apply Kd.R_alloc | apply Kd.R_drewN | apply Kd.R_drew)); exact HO_5.out) hb); have n1_ := Aside0.mk (Kd.R_below (by (with_reducible repeat (first | apply Kd.R_alloc | apply Kd.R_drewN | apply Kd.R_drew)); exact HO412.out) hb); have n2_ := Aside0.mk (below_step (by repeat (first | (with_reducible first | exact HB.out | apply below_alloc | apply pw_below_drewN | apply below_drew1) | exact HB.out)) hb); clear HO_5; clear HO412; clear HB; have HO_5 := n0_; have HO412 := n1_; have HB := n2_; clear n0_ n1_ n2_; (try clear hb); (try clear hb2); (try clear hk); (try clear hi)))
              go_ret
              exact ⟨by first | rfl | (simp [errW_none, errW_some] <;> rfl) | (simp [*, errW_none, errW_some] <;> rfl), by repeat (first | (with_reducible first | exact HB.out | apply below_alloc | apply pw_below_drewN | apply below_drew1) | exact HB.out)⟩

/-- THE ONE PURE STATEMENT of laws_FnRewrite: yours. -/
def laws_FnRewrite.Pure : Prop := ∀ (l0 : List Int) (l1 : List Int), l0.length ≤ maxLen → l0.length * 1 ≤ 140737488351232 → (∀ x ∈ l0, (Lit.int .u8 x).wf = true) → l1.length ≤ maxLen → l1.length * 1 ≤ 140737488351232 → (∀ x ∈ l1, (Lit.int .u8 x).wf = true) → ∃ k, laws_FnRewrite.f k l0 l1 = some true
theorem laws_FnRewrite.walk (P : laws_FnRewrite.Pure) (a0 : Option Addr) (len0 cap0 : Nat) (z0 : List Int) (a1 : Option Addr) (len1 cap1 : Nat) (z1 : List Int) (w : World) (w0 : (a0 = none ∧ len0 = 0 ∧ cap0 = 0 ∧ z0 = []) ∨ ∃ x, a0 = some x ∧ len0 ≤ cap0 ∧ cap0 ≤ maxLen ∧ z0.length = cap0 ∧ (∀ i, i < z0.length → w.cell? (x.add i) = some (.int .u8 (z0.getD i 0))) ∧ ∀ n ∈ z0, (Lit.int .u8 n).wf = true) (y0 : len0 * 1 ≤ 140737488351232) (w1 : (a1 = none ∧ len1 = 0 ∧ cap1 = 0 ∧ z1 = []) ∨ ∃ x, a1 = some x ∧ len1 ≤ cap1 ∧ cap1 ≤ maxLen ∧ z1.length = cap1 ∧ (∀ i, i < z1.length → w.cell? (x.add i) = some (.int .u8 (z1.getD i 0))) ∧ ∀ n ∈ z1, (Lit.int .u8 n).wf = true) (y1 : len1 * 1 ≤ 140737488351232) :
    Calls Try.prog 6 #[.slice a0 len0 cap0, .slice a1 len1 cap1] w fun e w' => e = .returned (.bool true) ∧ Below w.heap.size w w' := by
  obtain ⟨l0, rfl, hr0, hm0, hw0, hc0⟩ := ReadsInt.ofRowC w0
  obtain ⟨l1, rfl, hr1, hm1, hw1, hc1⟩ := ReadsInt.ofRowC w1
  obtain ⟨k, h⟩ := P l0 l1 hm0 y0 hw0 hm1 y1 hw1
  refine (laws_FnRewrite.calls k _ _ l0 _ _ l1 true w (Kd.C_of_reads (d := (0 : Int)) (h1 := fun _ => rfl) hr0) hc0 (Kd.C_of_reads (d := (0 : Int)) (h1 := fun _ => rfl) hr1) hc1 h).mono ?_
  rintro e w' ⟨rfl, hd⟩
  exact ⟨rfl, hd⟩

end Go.Proofs.Ytmigpfkjhdaijab.RF
