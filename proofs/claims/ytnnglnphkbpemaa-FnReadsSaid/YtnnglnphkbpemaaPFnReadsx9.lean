-- Written by a program of this session.
import Derived.Test.YtnnglnphkbpemaaPFnReadsx0
import Derived.Test.YtnnglnphkbpemaaPFnReadsx1
import Derived.Test.YtnnglnphkbpemaaPFnReadsx2
import Derived.Test.YtnnglnphkbpemaaPFnReadsx3
import Derived.Test.YtnnglnphkbpemaaPFnReadsx4
import Derived.Test.YtnnglnphkbpemaaPFnReadsx6
import Derived.Test.YtnnglnphkbpemaaPFnReadsx8
namespace Go.Proofs.Ytnnglnphkbpemaa.PFnReads
open Go.RowKit Go.Proofs.YtnnglnphkbpemaaW.PrintWords Go.Proofs.YtnnglnphkbpemaaW.PrintLast Go.Proofs.YtnnglnphkbpemaaW.PrintMore
attribute [local go_sem] max2_int min2_int max_two min_two max_three min_three max_four min_four   -- for this text's walks alone
set_option linter.unusedVariables false
set_option linter.unusedSimpArgs false

/-! ### laws_FnReads: function 6 -/
mutual
def laws_FnReads.j0 : Nat → List Int → Int → Int → Int → Int → List Int → Int → Int → Int → Int → List Int → Bool → Option (Bool)
  | 0, _, _, _, _, _, _, _, _, _, _, _, _ => none
  | k + 1, x3, x4, x5, x6, x7, x10, x11, x12, x13, x17, x18, x111 => if x111 = true then (some false) else (laws_FnReads.l0 k x3 x4 x5 x6 x7 x10 x11 x12 x13 x17 x18 0)
def laws_FnReads.l0 : Nat → List Int → Int → Int → Int → Int → List Int → Int → Int → Int → Int → List Int → Int → Option (Bool)
  | 0, _, _, _, _, _, _, _, _, _, _, _, _ => none
  | k + 1, x3, x4, x5, x6, x7, x10, x11, x12, x13, x17, x18, x22 => if x22 < (x18.length : Int) then (if 0 ≤ x22 then (laws_FnReads.l1 k x3 x4 x5 x6 x7 x10 x11 x12 x13 x17 x18 x22 0 (rd x18 x22) x17 0) else (none)) else (if x13 = 0 then (laws_FnReads.l2 k x3 x4 x5 x6 x7 x10 x11 x12 0 0) else (laws_FnReads.j4 k x3 x4 x5 x6 x7))
def laws_FnReads.l1 : Nat → List Int → Int → Int → Int → Int → List Int → Int → Int → Int → Int → List Int → Int → Int → Int → Int → Int → Option (Bool)
  | 0, _, _, _, _, _, _, _, _, _, _, _, _, _, _, _, _ => none
  | k + 1, x3, x4, x5, x6, x7, x10, x11, x12, x13, x17, x18, x22, x23, x24, x25, x26 => if x26 < 7 then (if (Int.tmod x24 10) = (Int.tmod x25 10) then (laws_FnReads.l1 k x3 x4 x5 x6 x7 x10 x11 x12 x13 x17 x18 x22 x23 (wrap64 (Int.tdiv x24 10)) (wrap64 (Int.tdiv x25 10)) (wrap64 (x26 + 1))) else (laws_FnReads.l1 k x3 x4 x5 x6 x7 x10 x11 x12 x13 x17 x18 x22 (wrap64 (x23 + 1)) (wrap64 (Int.tdiv x24 10)) (wrap64 (Int.tdiv x25 10)) (wrap64 (x26 + 1)))) else (if x23 = 1 then (if 0 ≤ x22 then (if x22 < (x18.length : Int) then ((impl_IsCode.f (rd x18 x22)).bind fun t322 => (if t322 = true then (laws_FnReads.l0 k x3 x4 x5 x6 x7 x10 x11 x12 x13 x17 x18 (wrap64 (x22 + 1))) else (some false))) else (none)) else (none)) else (some false))
def laws_FnReads.j4 : Nat → List Int → Int → Int → Int → Int → Option (Bool)
  | 0, _, _, _, _, _ => none
  | k + 1, x3, x4, x5, x6, x7 => if x7 = 0 then (laws_FnReads.l3 k x3 x4 x6 (wrap64 ((wrap64 (x6 - x5)) + 1))) else (some true)
def laws_FnReads.l3 : Nat → List Int → Int → Int → Int → Option (Bool)
  | 0, _, _, _, _ => none
  | k + 1, x3, x4, x6, x29 => if x29 ≤ x6 then (if 0 ≤ x29 then (if x29 < (x3.length : Int) then (if (rd x3 x29) = x4 then (some false) else (laws_FnReads.l3 k x3 x4 x6 (wrap64 (x29 + 1)))) else (none)) else (none)) else (some true)
def laws_FnReads.l2 : Nat → List Int → Int → Int → Int → Int → List Int → Int → Int → Int → Int → Option (Bool)
  | 0, _, _, _, _, _, _, _, _, _, _ => none
  | k + 1, x3, x4, x5, x6, x7, x10, x11, x12, x27, x28 => if x28 < (x10.length : Int) then (if 0 ≤ x28 then (if (rd x10 x28) = x11 then (laws_FnReads.l2 k x3 x4 x5 x6 x7 x10 x11 x12 (wrap64 (x27 + 1)) (wrap64 (x28 + 1))) else (laws_FnReads.l2 k x3 x4 x5 x6 x7 x10 x11 x12 x27 (wrap64 (x28 + 1)))) else (none)) else (if x27 = x12 then ((impl_IsCode.f x11).bind fun t324 => (if t324 = true then (laws_FnReads.j4 k x3 x4 x5 x6 x7) else (some false))) else (some false))
end
def laws_FnReads.f (k : Nat) (l0 : List Int) : Option (Bool) := (laws_big.f l0).bind fun t291 => (if t291 = true then (some true) else ((spec_DrawStopAfter.f k l0).bind fun bt292 => ((impl_StopAfter.f k bt292.1 bt292.2.1 bt292.2.2).bind fun bt297 => ((spec_StopAfter.f k bt292.1 bt292.2.1 bt292.2.2).bind fun bt299 => ((spec_DrawBestCode.f k l0).bind fun t301 => ((impl_BestCode.f t301).bind fun bt304 => ((spec_BestCode.f k t301).bind fun bt307 => ((spec_DrawNearCodes.f k l0).bind fun t310 => ((impl_NearCodes.f k t310).bind fun bt311 => ((spec_NearCodes.f k t310).bind fun bt315 => (if bt297.2 = bt299.2 then (if bt297.1 = bt299.1 then (if bt304.2.2 = bt307.2.2 then (if bt304.1 = bt307.1 then (if bt304.2.1 = bt307.2.1 then (if bt311.2 = bt315.2 then ((laws_likeInts.f k bt311.1 bt315.1).bind fun t319 => (laws_FnReads.j0 k bt292.1 bt292.2.1 bt292.2.2 bt297.1 bt297.2 t301 bt304.1 bt304.2.1 bt304.2.2 t310 bt311.1 (!t319))) else (laws_FnReads.j0 k bt292.1 bt292.2.1 bt292.2.2 bt297.1 bt297.2 t301 bt304.1 bt304.2.1 bt304.2.2 t310 bt311.1 true)) else (laws_FnReads.j0 k bt292.1 bt292.2.1 bt292.2.2 bt297.1 bt297.2 t301 bt304.1 bt304.2.1 bt304.2.2 t310 bt311.1 true)) else (laws_FnReads.j0 k bt292.1 bt292.2.1 bt292.2.2 bt297.1 bt297.2 t301 bt304.1 bt304.2.1 bt304.2.2 t310 bt311.1 true)) else (laws_FnReads.j0 k bt292.1 bt292.2.1 bt292.2.2 bt297.1 bt297.2 t301 bt304.1 bt304.2.1 bt304.2.2 t310 bt311.1 true)) else (laws_FnReads.j0 k bt292.1 bt292.2.1 bt292.2.2 bt297.1 bt297.2 t301 bt304.1 bt304.2.1 bt304.2.2 t310 bt311.1 true)) else (laws_FnReads.j0 k bt292.1 bt292.2.1 bt292.2.2 bt297.1 bt297.2 t301 bt304.1 bt304.2.1 bt304.2.2 t310 bt311.1 true))))))))))))
theorem laws_FnReads.mono_l : ∀ k, (∀ y0 y1 y2 y3 y4 y5 y6 y7 y8 y9 y10 y11, LeO (laws_FnReads.j0 k y0 y1 y2 y3 y4 y5 y6 y7 y8 y9 y10 y11) (laws_FnReads.j0 (k + 1) y0 y1 y2 y3 y4 y5 y6 y7 y8 y9 y10 y11)) ∧ (∀ y0 y1 y2 y3 y4 y5 y6 y7 y8 y9 y10 y11, LeO (laws_FnReads.l0 k y0 y1 y2 y3 y4 y5 y6 y7 y8 y9 y10 y11) (laws_FnReads.l0 (k + 1) y0 y1 y2 y3 y4 y5 y6 y7 y8 y9 y10 y11)) ∧ (∀ y0 y1 y2 y3 y4 y5 y6 y7 y8 y9 y10 y11 y12 y13 y14 y15, LeO (laws_FnReads.l1 k y0 y1 y2 y3 y4 y5 y6 y7 y8 y9 y10 y11 y12 y13 y14 y15) (laws_FnReads.l1 (k + 1) y0 y1 y2 y3 y4 y5 y6 y7 y8 y9 y10 y11 y12 y13 y14 y15)) ∧ (∀ y0 y1 y2 y3 y4, LeO (laws_FnReads.j4 k y0 y1 y2 y3 y4) (laws_FnReads.j4 (k + 1) y0 y1 y2 y3 y4)) ∧ (∀ y0 y1 y2 y3, LeO (laws_FnReads.l3 k y0 y1 y2 y3) (laws_FnReads.l3 (k + 1) y0 y1 y2 y3)) ∧ (∀ y0 y1 y2 y3 y4 y5 y6 y7 y8 y9, LeO (laws_FnReads.l2 k y0 y1 y2 y3 y4 y5 y6 y7 y8 y9) (laws_FnReads.l2 (k + 1) y0 y1 y2 y3 y4 y5 y6 y7 y8 y9))
  | 0 => ⟨fun _ _ _ _ _ _ _ _ _ _ _ _ r h => by simp [laws_FnReads.j0] at h, fun _ _ _ _ _ _ _ _ _ _ _ _ r h => by simp [laws_FnReads.l0] at h, fun _ _ _ _ _ _ _ _ _ _ _ _ _ _ _ _ r h => by simp [laws_FnReads.l1] at h, fun _ _ _ _ _ r h => by simp [laws_FnReads.j4] at h, fun _ _ _ _ r h => by simp [laws_FnReads.l3] at h, fun _ _ _ _ _ _ _ _ _ _ r h => by simp [laws_FnReads.l2] at h⟩
  | k + 1 => by
    obtain ⟨ih0, ih1, ih2, ih3, ih4, ih5⟩ := laws_FnReads.mono_l k
    refine ⟨?_, ?_, ?_, ?_, ?_, ?_⟩
    · intro y0 y1 y2 y3 y4 y5 y6 y7 y8 y9 y10 y11
      unfold laws_FnReads.j0
      repeat' first
      | (with_reducible exact ih0 _ _ _ _ _ _ _ _ _ _ _ _)
      | (with_reducible exact ih1 _ _ _ _ _ _ _ _ _ _ _ _)
      | (with_reducible exact ih2 _ _ _ _ _ _ _ _ _ _ _ _ _ _ _ _)
      | (with_reducible exact ih3 _ _ _ _ _)
      | (with_reducible exact ih4 _ _ _ _)
      | (with_reducible exact ih5 _ _ _ _ _ _ _ _ _ _)
      | (with_reducible exact impl_NearCodes.mono _ _)
      | (with_reducible exact impl_StopAfter.mono _ _ _ _)
      | (with_reducible exact laws_likeInts.mono _ _ _)
      | (with_reducible exact spec_BestCode.mono _ _)
      | (with_reducible exact spec_DrawBestCode.mono _ _)
      | (with_reducible exact spec_DrawNearCodes.mono _ _)
      | (with_reducible exact spec_DrawStopAfter.mono _ _)
      | (with_reducible exact spec_NearCodes.mono _ _)
      | (with_reducible exact spec_StopAfter.mono _ _ _ _)
      | (with_reducible exact LeO.refl _)
      | (with_reducible exact LeO.none _)
      | (with_reducible refine LeO.ite ?_ ?_)
      | (with_reducible refine LeO.bind ?_ (fun _ => ?_))
      | exact ih0 _ _ _ _ _ _ _ _ _ _ _ _
      | exact ih1 _ _ _ _ _ _ _ _ _ _ _ _
      | exact ih2 _ _ _ _ _ _ _ _ _ _ _ _ _ _ _ _
      | exact ih3 _ _ _ _ _
      | exact ih4 _ _ _ _
      | exact ih5 _ _ _ _ _ _ _ _ _ _
      | exact impl_NearCodes.mono _ _
      | exact impl_StopAfter.mono _ _ _ _
      | exact laws_likeInts.mono _ _ _
      | exact spec_BestCode.mono _ _
      | exact spec_DrawBestCode.mono _ _
      | exact spec_DrawNearCodes.mono _ _
      | exact spec_DrawStopAfter.mono _ _
      | exact spec_NearCodes.mono _ _
      | exact spec_StopAfter.mono _ _ _ _
      | exact LeO.none _
      | refine LeO.ite ?_ ?_
      | refine LeO.bind ?_ (fun _ => ?_)
    · intro y0 y1 y2 y3 y4 y5 y6 y7 y8 y9 y10 y11
      unfold laws_FnReads.l0
      repeat' first
      | (with_reducible exact ih0 _ _ _ _ _ _ _ _ _ _ _ _)
      | (with_reducible exact ih1 _ _ _ _ _ _ _ _ _ _ _ _)
      | (with_reducible exact ih2 _ _ _ _ _ _ _ _ _ _ _ _ _ _ _ _)
      | (with_reducible exact ih3 _ _ _ _ _)
      | (with_reducible exact ih4 _ _ _ _)
      | (with_reducible exact ih5 _ _ _ _ _ _ _ _ _ _)
      | (with_reducible exact impl_NearCodes.mono _ _)
      | (with_reducible exact impl_StopAfter.mono _ _ _ _)
      | (with_reducible exact laws_likeInts.mono _ _ _)
      | (with_reducible exact spec_BestCode.mono _ _)
      | (with_reducible exact spec_DrawBestCode.mono _ _)
      | (with_reducible exact spec_DrawNearCodes.mono _ _)
      | (with_reducible exact spec_DrawStopAfter.mono _ _)
      | (with_reducible exact spec_NearCodes.mono _ _)
      | (with_reducible exact spec_StopAfter.mono _ _ _ _)
      | (with_reducible exact LeO.refl _)
      | (with_reducible exact LeO.none _)
      | (with_reducible refine LeO.ite ?_ ?_)
      | (with_reducible refine LeO.bind ?_ (fun _ => ?_))
      | exact ih0 _ _ _ _ _ _ _ _ _ _ _ _
      | exact ih1 _ _ _ _ _ _ _ _ _ _ _ _
      | exact ih2 _ _ _ _ _ _ _ _ _ _ _ _ _ _ _ _
      | exact ih3 _ _ _ _ _
      | exact ih4 _ _ _ _
      | exact ih5 _ _ _ _ _ _ _ _ _ _
      | exact impl_NearCodes.mono _ _
      | exact impl_StopAfter.mono _ _ _ _
      | exact laws_likeInts.mono _ _ _
      | exact spec_BestCode.mono _ _
      | exact spec_DrawBestCode.mono _ _
      | exact spec_DrawNearCodes.mono _ _
      | exact spec_DrawStopAfter.mono _ _
      | exact spec_NearCodes.mono _ _
      | exact spec_StopAfter.mono _ _ _ _
      | exact LeO.none _
      | refine LeO.ite ?_ ?_
      | refine LeO.bind ?_ (fun _ => ?_)
    · intro y0 y1 y2 y3 y4 y5 y6 y7 y8 y9 y10 y11 y12 y13 y14 y15
      unfold laws_FnReads.l1
      repeat' first
      | (with_reducible exact ih0 _ _ _ _ _ _ _ _ _ _ _ _)
      | (with_reducible exact ih1 _ _ _ _ _ _ _ _ _ _ _ _)
      | (with_reducible exact ih2 _ _ _ _ _ _ _ _ _ _ _ _ _ _ _ _)
      | (with_reducible exact ih3 _ _ _ _ _)
      | (with_reducible exact ih4 _ _ _ _)
      | (with_reducible exact ih5 _ _ _ _ _ _ _ _ _ _)
      | (with_reducible exact impl_NearCodes.mono _ _)
      | (with_reducible exact impl_StopAfter.mono _ _ _ _)
      | (with_reducible exact laws_likeInts.mono _ _ _)
      | (with_reducible exact spec_BestCode.mono _ _)
      | (with_reducible exact spec_DrawBestCode.mono _ _)
      | (with_reducible exact spec_DrawNearCodes.mono _ _)
      | (with_reducible exact spec_DrawStopAfter.mono _ _)
      | (with_reducible exact spec_NearCodes.mono _ _)
      | (with_reducible exact spec_StopAfter.mono _ _ _ _)
      | (with_reducible exact LeO.refl _)
      | (with_reducible exact LeO.none _)
      | (with_reducible refine LeO.ite ?_ ?_)
      | (with_reducible refine LeO.bind ?_ (fun _ => ?_))
      | exact ih0 _ _ _ _ _ _ _ _ _ _ _ _
      | exact ih1 _ _ _ _ _ _ _ _ _ _ _ _
      | exact ih2 _ _ _ _ _ _ _ _ _ _ _ _ _ _ _ _
      | exact ih3 _ _ _ _ _
      | exact ih4 _ _ _ _
      | exact ih5 _ _ _ _ _ _ _ _ _ _
      | exact impl_NearCodes.mono _ _
      | exact impl_StopAfter.mono _ _ _ _
      | exact laws_likeInts.mono _ _ _
      | exact spec_BestCode.mono _ _
      | exact spec_DrawBestCode.mono _ _
      | exact spec_DrawNearCodes.mono _ _
      | exact spec_DrawStopAfter.mono _ _
      | exact spec_NearCodes.mono _ _
      | exact spec_StopAfter.mono _ _ _ _
      | exact LeO.none _
      | refine LeO.ite ?_ ?_
      | refine LeO.bind ?_ (fun _ => ?_)
    · intro y0 y1 y2 y3 y4
      unfold laws_FnReads.j4
      repeat' first
      | (with_reducible exact ih0 _ _ _ _ _ _ _ _ _ _ _ _)
      | (with_reducible exact ih1 _ _ _ _ _ _ _ _ _ _ _ _)
      | (with_reducible exact ih2 _ _ _ _ _ _ _ _ _ _ _ _ _ _ _ _)
      | (with_reducible exact ih3 _ _ _ _ _)
      | (with_reducible exact ih4 _ _ _ _)
      | (with_reducible exact ih5 _ _ _ _ _ _ _ _ _ _)
      | (with_reducible exact impl_NearCodes.mono _ _)
      | (with_reducible exact impl_StopAfter.mono _ _ _ _)
      | (with_reducible exact laws_likeInts.mono _ _ _)
      | (with_reducible exact spec_BestCode.mono _ _)
      | (with_reducible exact spec_DrawBestCode.mono _ _)
      | (with_reducible exact spec_DrawNearCodes.mono _ _)
      | (with_reducible exact spec_DrawStopAfter.mono _ _)
      | (with_reducible exact spec_NearCodes.mono _ _)
      | (with_reducible exact spec_StopAfter.mono _ _ _ _)
      | (with_reducible exact LeO.refl _)
      | (with_reducible exact LeO.none _)
      | (with_reducible refine LeO.ite ?_ ?_)
      | (with_reducible refine LeO.bind ?_ (fun _ => ?_))
      | exact ih0 _ _ _ _ _ _ _ _ _ _ _ _
      | exact ih1 _ _ _ _ _ _ _ _ _ _ _ _
      | exact ih2 _ _ _ _ _ _ _ _ _ _ _ _ _ _ _ _
      | exact ih3 _ _ _ _ _
      | exact ih4 _ _ _ _
      | exact ih5 _ _ _ _ _ _ _ _ _ _
      | exact impl_NearCodes.mono _ _
      | exact impl_StopAfter.mono _ _ _ _
      | exact laws_likeInts.mono _ _ _
      | exact spec_BestCode.mono _ _
      | exact spec_DrawBestCode.mono _ _
      | exact spec_DrawNearCodes.mono _ _
      | exact spec_DrawStopAfter.mono _ _
      | exact spec_NearCodes.mono _ _
      | exact spec_StopAfter.mono _ _ _ _
      | exact LeO.none _
      | refine LeO.ite ?_ ?_
      | refine LeO.bind ?_ (fun _ => ?_)
    · intro y0 y1 y2 y3
      unfold laws_FnReads.l3
      repeat' first
      | (with_reducible exact ih0 _ _ _ _ _ _ _ _ _ _ _ _)
      | (with_reducible exact ih1 _ _ _ _ _ _ _ _ _ _ _ _)
      | (with_reducible exact ih2 _ _ _ _ _ _ _ _ _ _ _ _ _ _ _ _)
      | (with_reducible exact ih3 _ _ _ _ _)
      | (with_reducible exact ih4 _ _ _ _)
      | (with_reducible exact ih5 _ _ _ _ _ _ _ _ _ _)
      | (with_reducible exact impl_NearCodes.mono _ _)
      | (with_reducible exact impl_StopAfter.mono _ _ _ _)
      | (with_reducible exact laws_likeInts.mono _ _ _)
      | (with_reducible exact spec_BestCode.mono _ _)
      | (with_reducible exact spec_DrawBestCode.mono _ _)
      | (with_reducible exact spec_DrawNearCodes.mono _ _)
      | (with_reducible exact spec_DrawStopAfter.mono _ _)
      | (with_reducible exact spec_NearCodes.mono _ _)
      | (with_reducible exact spec_StopAfter.mono _ _ _ _)
      | (with_reducible exact LeO.refl _)
      | (with_reducible exact LeO.none _)
      | (with_reducible refine LeO.ite ?_ ?_)
      | (with_reducible refine LeO.bind ?_ (fun _ => ?_))
      | exact ih0 _ _ _ _ _ _ _ _ _ _ _ _
      | exact ih1 _ _ _ _ _ _ _ _ _ _ _ _
      | exact ih2 _ _ _ _ _ _ _ _ _ _ _ _ _ _ _ _
      | exact ih3 _ _ _ _ _
      | exact ih4 _ _ _ _
      | exact ih5 _ _ _ _ _ _ _ _ _ _
      | exact impl_NearCodes.mono _ _
      | exact impl_StopAfter.mono _ _ _ _
      | exact laws_likeInts.mono _ _ _
      | exact spec_BestCode.mono _ _
      | exact spec_DrawBestCode.mono _ _
      | exact spec_DrawNearCodes.mono _ _
      | exact spec_DrawStopAfter.mono _ _
      | exact spec_NearCodes.mono _ _
      | exact spec_StopAfter.mono _ _ _ _
      | exact LeO.none _
      | refine LeO.ite ?_ ?_
      | refine LeO.bind ?_ (fun _ => ?_)
    · intro y0 y1 y2 y3 y4 y5 y6 y7 y8 y9
      unfold laws_FnReads.l2
      repeat' first
      | (with_reducible exact ih0 _ _ _ _ _ _ _ _ _ _ _ _)
      | (with_reducible exact ih1 _ _ _ _ _ _ _ _ _ _ _ _)
      | (with_reducible exact ih2 _ _ _ _ _ _ _ _ _ _ _ _ _ _ _ _)
      | (with_reducible exact ih3 _ _ _ _ _)
      | (with_reducible exact ih4 _ _ _ _)
      | (with_reducible exact ih5 _ _ _ _ _ _ _ _ _ _)
      | (with_reducible exact impl_NearCodes.mono _ _)
      | (with_reducible exact impl_StopAfter.mono _ _ _ _)
      | (with_reducible exact laws_likeInts.mono _ _ _)
      | (with_reducible exact spec_BestCode.mono _ _)
      | (with_reducible exact spec_DrawBestCode.mono _ _)
      | (with_reducible exact spec_DrawNearCodes.mono _ _)
      | (with_reducible exact spec_DrawStopAfter.mono _ _)
      | (with_reducible exact spec_NearCodes.mono _ _)
      | (with_reducible exact spec_StopAfter.mono _ _ _ _)
      | (with_reducible exact LeO.refl _)
      | (with_reducible exact LeO.none _)
      | (with_reducible refine LeO.ite ?_ ?_)
      | (with_reducible refine LeO.bind ?_ (fun _ => ?_))
      | exact ih0 _ _ _ _ _ _ _ _ _ _ _ _
      | exact ih1 _ _ _ _ _ _ _ _ _ _ _ _
      | exact ih2 _ _ _ _ _ _ _ _ _ _ _ _ _ _ _ _
      | exact ih3 _ _ _ _ _
      | exact ih4 _ _ _ _
      | exact ih5 _ _ _ _ _ _ _ _ _ _
      | exact impl_NearCodes.mono _ _
      | exact impl_StopAfter.mono _ _ _ _
      | exact laws_likeInts.mono _ _ _
      | exact spec_BestCode.mono _ _
      | exact spec_DrawBestCode.mono _ _
      | exact spec_DrawNearCodes.mono _ _
      | exact spec_DrawStopAfter.mono _ _
      | exact spec_NearCodes.mono _ _
      | exact spec_StopAfter.mono _ _ _ _
      | exact LeO.none _
      | refine LeO.ite ?_ ?_
      | refine LeO.bind ?_ (fun _ => ?_)
theorem laws_FnReads.mono : ∀ a0 k, LeO (laws_FnReads.f k a0) (laws_FnReads.f (k + 1) a0) := by
  intro a0 k
  obtain ⟨ih0, ih1, ih2, ih3, ih4, ih5⟩ := laws_FnReads.mono_l k
  unfold laws_FnReads.f
  repeat' first
      | (with_reducible exact ih0 _ _ _ _ _ _ _ _ _ _ _ _)
      | (with_reducible exact ih1 _ _ _ _ _ _ _ _ _ _ _ _)
      | (with_reducible exact ih2 _ _ _ _ _ _ _ _ _ _ _ _ _ _ _ _)
      | (with_reducible exact ih3 _ _ _ _ _)
      | (with_reducible exact ih4 _ _ _ _)
      | (with_reducible exact ih5 _ _ _ _ _ _ _ _ _ _)
      | (with_reducible exact impl_NearCodes.mono _ _)
      | (with_reducible exact impl_StopAfter.mono _ _ _ _)
      | (with_reducible exact laws_likeInts.mono _ _ _)
      | (with_reducible exact spec_BestCode.mono _ _)
      | (with_reducible exact spec_DrawBestCode.mono _ _)
      | (with_reducible exact spec_DrawNearCodes.mono _ _)
      | (with_reducible exact spec_DrawStopAfter.mono _ _)
      | (with_reducible exact spec_NearCodes.mono _ _)
      | (with_reducible exact spec_StopAfter.mono _ _ _ _)
      | (with_reducible exact LeO.refl _)
      | (with_reducible exact LeO.none _)
      | (with_reducible refine LeO.ite ?_ ?_)
      | (with_reducible refine LeO.bind ?_ (fun _ => ?_))
      | exact ih0 _ _ _ _ _ _ _ _ _ _ _ _
      | exact ih1 _ _ _ _ _ _ _ _ _ _ _ _
      | exact ih2 _ _ _ _ _ _ _ _ _ _ _ _ _ _ _ _
      | exact ih3 _ _ _ _ _
      | exact ih4 _ _ _ _
      | exact ih5 _ _ _ _ _ _ _ _ _ _
      | exact impl_NearCodes.mono _ _
      | exact impl_StopAfter.mono _ _ _ _
      | exact laws_likeInts.mono _ _ _
      | exact spec_BestCode.mono _ _
      | exact spec_DrawBestCode.mono _ _
      | exact spec_DrawNearCodes.mono _ _
      | exact spec_DrawStopAfter.mono _ _
      | exact spec_NearCodes.mono _ _
      | exact spec_StopAfter.mono _ _ _ _
      | exact LeO.none _
      | refine LeO.ite ?_ ?_
      | refine LeO.bind ?_ (fun _ => ?_)
set_option maxHeartbeats 8000000 in
set_option maxRecDepth 100000 in
theorem laws_FnReads.calls (k : Nat) (A0 : Option Addr) (c0 : Nat) (l0 : List Int) (r : Bool) (w : World) (hr0 : Kd.C (Kd.int .u8) w A0 l0.length l0) (hc0 : l0.length ≤ c0) (hr_ : Aside0 (r = true)) (h : laws_FnReads.f k l0 = some r) :
    Calls Try.prog 6 #[.slice A0 l0.length c0] w fun e w' => e = .returned (.bool r) ∧ Below w.heap.size w w' := by
  have HR0 := Aside0.mk hr0
  have HC0 := Aside0.mk hc0
  clear hr0 hc0
  have HB := Aside0.mk (Below.refl w.heap.size w)
  have H : ((laws_big.f l0).bind fun t291 => (if t291 = true then (some true) else ((spec_DrawStopAfter.f k l0).bind fun bt292 => ((impl_StopAfter.f k bt292.1 bt292.2.1 bt292.2.2).bind fun bt297 => ((spec_StopAfter.f k bt292.1 bt292.2.1 bt292.2.2).bind fun bt299 => ((spec_DrawBestCode.f k l0).bind fun t301 => ((impl_BestCode.f t301).bind fun bt304 => ((spec_BestCode.f k t301).bind fun bt307 => ((spec_DrawNearCodes.f k l0).bind fun t310 => ((impl_NearCodes.f k t310).bind fun bt311 => ((spec_NearCodes.f k t310).bind fun bt315 => (if bt297.2 = bt299.2 then (if bt297.1 = bt299.1 then (if bt304.2.2 = bt307.2.2 then (if bt304.1 = bt307.1 then (if bt304.2.1 = bt307.2.1 then (if bt311.2 = bt315.2 then ((laws_likeInts.f k bt311.1 bt315.1).bind fun t319 => (laws_FnReads.j0 k bt292.1 bt292.2.1 bt292.2.2 bt297.1 bt297.2 t301 bt304.1 bt304.2.1 bt304.2.2 t310 bt311.1 (!t319))) else (laws_FnReads.j0 k bt292.1 bt292.2.1 bt292.2.2 bt297.1 bt297.2 t301 bt304.1 bt304.2.1 bt304.2.2 t310 bt311.1 true)) else (laws_FnReads.j0 k bt292.1 bt292.2.1 bt292.2.2 bt297.1 bt297.2 t301 bt304.1 bt304.2.1 bt304.2.2 t310 bt311.1 true)) else (laws_FnReads.j0 k bt292.1 bt292.2.1 bt292.2.2 bt297.1 bt297.2 t301 bt304.1 bt304.2.1 bt304.2.2 t310 bt311.1 true)) else (laws_FnReads.j0 k bt292.1 bt292.2.1 bt292.2.2 bt297.1 bt297.2 t301 bt304.1 bt304.2.1 bt304.2.2 t310 bt311.1 true)) else (laws_FnReads.j0 k bt292.1 bt292.2.1 bt292.2.2 bt297.1 bt297.2 t301 bt304.1 bt304.2.1 bt304.2.2 t310 bt311.1 true)) else (laws_FnReads.j0 k bt292.1 bt292.2.1 bt292.2.2 bt297.1 bt297.2 t301 bt304.1 bt304.2.1 bt304.2.2 t310 bt311.1 true))))))))))))) = some r := h
  clear h
  replace H := Option.bind_eq_some_iff.mp H
  obtain ⟨t291, A20, H⟩ := H
  replace H : (if t291 = true then (some true) else ((spec_DrawStopAfter.f k l0).bind fun bt292 => ((impl_StopAfter.f k bt292.1 bt292.2.1 bt292.2.2).bind fun bt297 => ((spec_StopAfter.f k bt292.1 bt292.2.1 bt292.2.2).bind fun bt299 => ((spec_DrawBestCode.f k l0).bind fun t301 => ((impl_BestCode.f t301).bind fun bt304 => ((spec_BestCode.f k t301).bind fun bt307 => ((spec_DrawNearCodes.f k l0).bind fun t310 => ((impl_NearCodes.f k t310).bind fun bt311 => ((spec_NearCodes.f k t310).bind fun bt315 => (if bt297.2 = bt299.2 then (if bt297.1 = bt299.1 then (if bt304.2.2 = bt307.2.2 then (if bt304.1 = bt307.1 then (if bt304.2.1 = bt307.2.1 then (if bt311.2 = bt315.2 then ((laws_likeInts.f k bt311.1 bt315.1).bind fun t319 => (laws_FnReads.j0 k bt292.1 bt292.2.1 bt292.2.2 bt297.1 bt297.2 t301 bt304.1 bt304.2.1 bt304.2.2 t310 bt311.1 (!t319))) else (laws_FnReads.j0 k bt292.1 bt292.2.1 bt292.2.2 bt297.1 bt297.2 t301 bt304.1 bt304.2.1 bt304.2.2 t310 bt311.1 true)) else (laws_FnReads.j0 k bt292.1 bt292.2.1 bt292.2.2 bt297.1 bt297.2 t301 bt304.1 bt304.2.1 bt304.2.2 t310 bt311.1 true)) else (laws_FnReads.j0 k bt292.1 bt292.2.1 bt292.2.2 bt297.1 bt297.2 t301 bt304.1 bt304.2.1 bt304.2.2 t310 bt311.1 true)) else (laws_FnReads.j0 k bt292.1 bt292.2.1 bt292.2.2 bt297.1 bt297.2 t301 bt304.1 bt304.2.1 bt304.2.2 t310 bt311.1 true)) else (laws_FnReads.j0 k bt292.1 bt292.2.1 bt292.2.2 bt297.1 bt297.2 t301 bt304.1 bt304.2.1 bt304.2.2 t310 bt311.1 true)) else (laws_FnReads.j0 k bt292.1 bt292.2.1 bt292.2.2 bt297.1 bt297.2 t301 bt304.1 bt304.2.1 bt304.2.2 t310 bt311.1 true)))))))))))) = some r := H
  have A2 := Aside0.mk A20
  clear A20
  by_cases c3 : t291 = true
  · subst c3
    have H1 : (some true) = some r := by rw [if_pos rfl] at H; exact H
    clear H
    have H := H1
    clear H1
    obtain rfl := Option.some.inj H
    go_enter Try.func6, Try.ntmps6
    go_wp2_with (first | (go_at_call 17; (with_reducible refine (laws_big.calls _ _ l0 true _ ?side1 ?side2 A2.out).mono ?_); (case side1 => repeat (first | exact HR0.out | (with_reducible refine Kd.C_alloc ?_ _) | (with_reducible refine Kd.C_drewN ?_ _) | (with_reducible refine Kd.C_drew ?_))); (case side2 => exact HC0.out); rintro e w' ⟨rfl, ⟨nd, rfl⟩⟩; (try first | exact ⟨rfl, _, World.drewN_drewN _ _ _⟩ | exact ⟨rfl, _, Eq.trans (World.drewN_drewN _ _ _) (congrArg (World.drewN _) (Nat.add_assoc _ _ _))⟩)))
    repeat (go_quiet (first | (go_at_call 17; (with_reducible refine (laws_big.calls _ _ l0 true _ ?side1 ?side2 A2.out).mono ?_); (case side1 => repeat (first | exact HR0.out | (with_reducible refine Kd.C_alloc ?_ _) | (with_reducible refine Kd.C_drewN ?_ _) | (with_reducible refine Kd.C_drew ?_))); (case side2 => exact HC0.out); rintro e w' ⟨rfl, ⟨nd, rfl⟩⟩; (try first | exact ⟨rfl, _, World.drewN_drewN _ _ _⟩ | exact ⟨rfl, _, Eq.trans (World.drewN_drewN _ _ _) (congrArg (World.drewN _) (Nat.add_assoc _ _ _))⟩))); try go_wp2_with (first | (go_at_call 17; (with_reducible refine (laws_big.calls _ _ l0 true _ ?side1 ?side2 A2.out).mono ?_); (case side1 => repeat (first | exact HR0.out | (with_reducible refine Kd.C_alloc ?_ _) | (with_reducible refine Kd.C_drewN ?_ _) | (with_reducible refine Kd.C_drew ?_))); (case side2 => exact HC0.out); rintro e w' ⟨rfl, ⟨nd, rfl⟩⟩; (try first | exact ⟨rfl, _, World.drewN_drewN _ _ _⟩ | exact ⟨rfl, _, Eq.trans (World.drewN_drewN _ _ _) (congrArg (World.drewN _) (Nat.add_assoc _ _ _))⟩))))
    go_ret
    exact ⟨by first | rfl | (simp [errW_none, errW_some] <;> rfl) | (simp [*, errW_none, errW_some] <;> rfl), by repeat (first | (with_reducible first | exact HB.out | apply below_alloc | apply pw_below_drewN | apply below_drew1) | exact HB.out)⟩
  · replace c3 := Bool.eq_false_iff.mpr c3
    subst c3
    have H1 : ((spec_DrawStopAfter.f k l0).bind fun bt292 => ((impl_StopAfter.f k bt292.1 bt292.2.1 bt292.2.2).bind fun bt297 => ((spec_StopAfter.f k bt292.1 bt292.2.1 bt292.2.2).bind fun bt299 => ((spec_DrawBestCode.f k l0).bind fun t301 => ((impl_BestCode.f t301).bind fun bt304 => ((spec_BestCode.f k t301).bind fun bt307 => ((spec_DrawNearCodes.f k l0).bind fun t310 => ((impl_NearCodes.f k t310).bind fun bt311 => ((spec_NearCodes.f k t310).bind fun bt315 => (if bt297.2 = bt299.2 then (if bt297.1 = bt299.1 then (if bt304.2.2 = bt307.2.2 then (if bt304.1 = bt307.1 then (if bt304.2.1 = bt307.2.1 then (if bt311.2 = bt315.2 then ((laws_likeInts.f k bt311.1 bt315.1).bind fun t319 => (laws_FnReads.j0 k bt292.1 bt292.2.1 bt292.2.2 bt297.1 bt297.2 t301 bt304.1 bt304.2.1 bt304.2.2 t310 bt311.1 (!t319))) else (laws_FnReads.j0 k bt292.1 bt292.2.1 bt292.2.2 bt297.1 bt297.2 t301 bt304.1 bt304.2.1 bt304.2.2 t310 bt311.1 true)) else (laws_FnReads.j0 k bt292.1 bt292.2.1 bt292.2.2 bt297.1 bt297.2 t301 bt304.1 bt304.2.1 bt304.2.2 t310 bt311.1 true)) else (laws_FnReads.j0 k bt292.1 bt292.2.1 bt292.2.2 bt297.1 bt297.2 t301 bt304.1 bt304.2.1 bt304.2.2 t310 bt311.1 true)) else (laws_FnReads.j0 k bt292.1 bt292.2.1 bt292.2.2 bt297.1 bt297.2 t301 bt304.1 bt304.2.1 bt304.2.2 t310 bt311.1 true)) else (laws_FnReads.j0 k bt292.1 bt292.2.1 bt292.2.2 bt297.1 bt297.2 t301 bt304.1 bt304.2.1 bt304.2.2 t310 bt311.1 true)) else (laws_FnReads.j0 k bt292.1 bt292.2.1 bt292.2.2 bt297.1 bt297.2 t301 bt304.1 bt304.2.1 bt304.2.2 t310 bt311.1 true))))))))))) = some r := by rw [if_neg (show ¬ (false = true) by decide)] at H; exact H
    clear H
    have H := H1
    clear H1
    replace H := Option.bind_eq_some_iff.mp H
    obtain ⟨⟨t292, t293, t294⟩, A40, H⟩ := H
    replace H : ((impl_StopAfter.f k t292 t293 t294).bind fun bt297 => ((spec_StopAfter.f k t292 t293 t294).bind fun bt299 => ((spec_DrawBestCode.f k l0).bind fun t301 => ((impl_BestCode.f t301).bind fun bt304 => ((spec_BestCode.f k t301).bind fun bt307 => ((spec_DrawNearCodes.f k l0).bind fun t310 => ((impl_NearCodes.f k t310).bind fun bt311 => ((spec_NearCodes.f k t310).bind fun bt315 => (if bt297.2 = bt299.2 then (if bt297.1 = bt299.1 then (if bt304.2.2 = bt307.2.2 then (if bt304.1 = bt307.1 then (if bt304.2.1 = bt307.2.1 then (if bt311.2 = bt315.2 then ((laws_likeInts.f k bt311.1 bt315.1).bind fun t319 => (laws_FnReads.j0 k t292 t293 t294 bt297.1 bt297.2 t301 bt304.1 bt304.2.1 bt304.2.2 t310 bt311.1 (!t319))) else (laws_FnReads.j0 k t292 t293 t294 bt297.1 bt297.2 t301 bt304.1 bt304.2.1 bt304.2.2 t310 bt311.1 true)) else (laws_FnReads.j0 k t292 t293 t294 bt297.1 bt297.2 t301 bt304.1 bt304.2.1 bt304.2.2 t310 bt311.1 true)) else (laws_FnReads.j0 k t292 t293 t294 bt297.1 bt297.2 t301 bt304.1 bt304.2.1 bt304.2.2 t310 bt311.1 true)) else (laws_FnReads.j0 k t292 t293 t294 bt297.1 bt297.2 t301 bt304.1 bt304.2.1 bt304.2.2 t310 bt311.1 true)) else (laws_FnReads.j0 k t292 t293 t294 bt297.1 bt297.2 t301 bt304.1 bt304.2.1 bt304.2.2 t310 bt311.1 true)) else (laws_FnReads.j0 k t292 t293 t294 bt297.1 bt297.2 t301 bt304.1 bt304.2.1 bt304.2.2 t310 bt311.1 true)))))))))) = some r := H
    have A4 := Aside0.mk A40
    clear A40
    replace H := Option.bind_eq_some_iff.mp H
    obtain ⟨⟨t297, t298⟩, A50, H⟩ := H
    replace H : ((spec_StopAfter.f k t292 t293 t294).bind fun bt299 => ((spec_DrawBestCode.f k l0).bind fun t301 => ((impl_BestCode.f t301).bind fun bt304 => ((spec_BestCode.f k t301).bind fun bt307 => ((spec_DrawNearCodes.f k l0).bind fun t310 => ((impl_NearCodes.f k t310).bind fun bt311 => ((spec_NearCodes.f k t310).bind fun bt315 => (if t298 = bt299.2 then (if t297 = bt299.1 then (if bt304.2.2 = bt307.2.2 then (if bt304.1 = bt307.1 then (if bt304.2.1 = bt307.2.1 then (if bt311.2 = bt315.2 then ((laws_likeInts.f k bt311.1 bt315.1).bind fun t319 => (laws_FnReads.j0 k t292 t293 t294 t297 t298 t301 bt304.1 bt304.2.1 bt304.2.2 t310 bt311.1 (!t319))) else (laws_FnReads.j0 k t292 t293 t294 t297 t298 t301 bt304.1 bt304.2.1 bt304.2.2 t310 bt311.1 true)) else (laws_FnReads.j0 k t292 t293 t294 t297 t298 t301 bt304.1 bt304.2.1 bt304.2.2 t310 bt311.1 true)) else (laws_FnReads.j0 k t292 t293 t294 t297 t298 t301 bt304.1 bt304.2.1 bt304.2.2 t310 bt311.1 true)) else (laws_FnReads.j0 k t292 t293 t294 t297 t298 t301 bt304.1 bt304.2.1 bt304.2.2 t310 bt311.1 true)) else (laws_FnReads.j0 k t292 t293 t294 t297 t298 t301 bt304.1 bt304.2.1 bt304.2.2 t310 bt311.1 true)) else (laws_FnReads.j0 k t292 t293 t294 t297 t298 t301 bt304.1 bt304.2.1 bt304.2.2 t310 bt311.1 true))))))))) = some r := H
    have A5 := Aside0.mk A50
    clear A50
    replace H := Option.bind_eq_some_iff.mp H
    obtain ⟨⟨t299, t300⟩, A60, H⟩ := H
    replace H : ((spec_DrawBestCode.f k l0).bind fun t301 => ((impl_BestCode.f t301).bind fun bt304 => ((spec_BestCode.f k t301).bind fun bt307 => ((spec_DrawNearCodes.f k l0).bind fun t310 => ((impl_NearCodes.f k t310).bind fun bt311 => ((spec_NearCodes.f k t310).bind fun bt315 => (if t298 = t300 then (if t297 = t299 then (if bt304.2.2 = bt307.2.2 then (if bt304.1 = bt307.1 then (if bt304.2.1 = bt307.2.1 then (if bt311.2 = bt315.2 then ((laws_likeInts.f k bt311.1 bt315.1).bind fun t319 => (laws_FnReads.j0 k t292 t293 t294 t297 t298 t301 bt304.1 bt304.2.1 bt304.2.2 t310 bt311.1 (!t319))) else (laws_FnReads.j0 k t292 t293 t294 t297 t298 t301 bt304.1 bt304.2.1 bt304.2.2 t310 bt311.1 true)) else (laws_FnReads.j0 k t292 t293 t294 t297 t298 t301 bt304.1 bt304.2.1 bt304.2.2 t310 bt311.1 true)) else (laws_FnReads.j0 k t292 t293 t294 t297 t298 t301 bt304.1 bt304.2.1 bt304.2.2 t310 bt311.1 true)) else (laws_FnReads.j0 k t292 t293 t294 t297 t298 t301 bt304.1 bt304.2.1 bt304.2.2 t310 bt311.1 true)) else (laws_FnReads.j0 k t292 t293 t294 t297 t298 t301 bt304.1 bt304.2.1 bt304.2.2 t310 bt311.1 true)) else (laws_FnReads.j0 k t292 t293 t294 t297 t298 t301 bt304.1 bt304.2.1 bt304.2.2 t310 bt311.1 true)))))))) = some r := H
    have A6 := Aside0.mk A60
    clear A60
    replace H := Option.bind_eq_some_iff.mp H
    obtain ⟨t301, A70, H⟩ := H
    replace H : ((impl_BestCode.f t301).bind fun bt304 => ((spec_BestCode.f k t301).bind fun bt307 => ((spec_DrawNearCodes.f k l0).bind fun t310 => ((impl_NearCodes.f k t310).bind fun bt311 => ((spec_NearCodes.f k t310).bind fun bt315 => (if t298 = t300 then (if t297 = t299 then (if bt304.2.2 = bt307.2.2 then (if bt304.1 = bt307.1 then (if bt304.2.1 = bt307.2.1 then (if bt311.2 = bt315.2 then ((laws_likeInts.f k bt311.1 bt315.1).bind fun t319 => (laws_FnReads.j0 k t292 t293 t294 t297 t298 t301 bt304.1 bt304.2.1 bt304.2.2 t310 bt311.1 (!t319))) else (laws_FnReads.j0 k t292 t293 t294 t297 t298 t301 bt304.1 bt304.2.1 bt304.2.2 t310 bt311.1 true)) else (laws_FnReads.j0 k t292 t293 t294 t297 t298 t301 bt304.1 bt304.2.1 bt304.2.2 t310 bt311.1 true)) else (laws_FnReads.j0 k t292 t293 t294 t297 t298 t301 bt304.1 bt304.2.1 bt304.2.2 t310 bt311.1 true)) else (laws_FnReads.j0 k t292 t293 t294 t297 t298 t301 bt304.1 bt304.2.1 bt304.2.2 t310 bt311.1 true)) else (laws_FnReads.j0 k t292 t293 t294 t297 t298 t301 bt304.1 bt304.2.1 bt304.2.2 t310 bt311.1 true)) else (laws_FnReads.j0 k t292 t293 t294 t297 t298 t301 bt304.1 bt304.2.1 bt304.2.2 t310 bt311.1 true))))))) = some r := H
    have A7 := Aside0.mk A70
    clear A70
    replace H := Option.bind_eq_some_iff.mp H
    obtain ⟨⟨t304, t305, t306⟩, A80, H⟩ := H
    replace H : ((spec_BestCode.f k t301).bind fun bt307 => ((spec_DrawNearCodes.f k l0).bind fun t310 => ((impl_NearCodes.f k t310).bind fun bt311 => ((spec_NearCodes.f k t310).bind fun bt315 => (if t298 = t300 then (if t297 = t299 then (if t306 = bt307.2.2 then (if t304 = bt307.1 then (if t305 = bt307.2.1 then (if bt311.2 = bt315.2 then ((laws_likeInts.f k bt311.1 bt315.1).bind fun t319 => (laws_FnReads.j0 k t292 t293 t294 t297 t298 t301 t304 t305 t306 t310 bt311.1 (!t319))) else (laws_FnReads.j0 k t292 t293 t294 t297 t298 t301 t304 t305 t306 t310 bt311.1 true)) else (laws_FnReads.j0 k t292 t293 t294 t297 t298 t301 t304 t305 t306 t310 bt311.1 true)) else (laws_FnReads.j0 k t292 t293 t294 t297 t298 t301 t304 t305 t306 t310 bt311.1 true)) else (laws_FnReads.j0 k t292 t293 t294 t297 t298 t301 t304 t305 t306 t310 bt311.1 true)) else (laws_FnReads.j0 k t292 t293 t294 t297 t298 t301 t304 t305 t306 t310 bt311.1 true)) else (laws_FnReads.j0 k t292 t293 t294 t297 t298 t301 t304 t305 t306 t310 bt311.1 true)))))) = some r := H
    have A8 := Aside0.mk A80
    clear A80
    replace H := Option.bind_eq_some_iff.mp H
    obtain ⟨⟨t307, t308, t309⟩, A90, H⟩ := H
    replace H : ((spec_DrawNearCodes.f k l0).bind fun t310 => ((impl_NearCodes.f k t310).bind fun bt311 => ((spec_NearCodes.f k t310).bind fun bt315 => (if t298 = t300 then (if t297 = t299 then (if t306 = t309 then (if t304 = t307 then (if t305 = t308 then (if bt311.2 = bt315.2 then ((laws_likeInts.f k bt311.1 bt315.1).bind fun t319 => (laws_FnReads.j0 k t292 t293 t294 t297 t298 t301 t304 t305 t306 t310 bt311.1 (!t319))) else (laws_FnReads.j0 k t292 t293 t294 t297 t298 t301 t304 t305 t306 t310 bt311.1 true)) else (laws_FnReads.j0 k t292 t293 t294 t297 t298 t301 t304 t305 t306 t310 bt311.1 true)) else (laws_FnReads.j0 k t292 t293 t294 t297 t298 t301 t304 t305 t306 t310 bt311.1 true)) else (laws_FnReads.j0 k t292 t293 t294 t297 t298 t301 t304 t305 t306 t310 bt311.1 true)) else (laws_FnReads.j0 k t292 t293 t294 t297 t298 t301 t304 t305 t306 t310 bt311.1 true)) else (laws_FnReads.j0 k t292 t293 t294 t297 t298 t301 t304 t305 t306 t310 bt311.1 true))))) = some r := H
    have A9 := Aside0.mk A90
    clear A90
    replace H := Option.bind_eq_some_iff.mp H
    obtain ⟨t310, A100, H⟩ := H
    replace H : ((impl_NearCodes.f k t310).bind fun bt311 => ((spec_NearCodes.f k t310).bind fun bt315 => (if t298 = t300 then (if t297 = t299 then (if t306 = t309 then (if t304 = t307 then (if t305 = t308 then (if bt311.2 = bt315.2 then ((laws_likeInts.f k bt311.1 bt315.1).bind fun t319 => (laws_FnReads.j0 k t292 t293 t294 t297 t298 t301 t304 t305 t306 t310 bt311.1 (!t319))) else (laws_FnReads.j0 k t292 t293 t294 t297 t298 t301 t304 t305 t306 t310 bt311.1 true)) else (laws_FnReads.j0 k t292 t293 t294 t297 t298 t301 t304 t305 t306 t310 bt311.1 true)) else (laws_FnReads.j0 k t292 t293 t294 t297 t298 t301 t304 t305 t306 t310 bt311.1 true)) else (laws_FnReads.j0 k t292 t293 t294 t297 t298 t301 t304 t305 t306 t310 bt311.1 true)) else (laws_FnReads.j0 k t292 t293 t294 t297 t298 t301 t304 t305 t306 t310 bt311.1 true)) else (laws_FnReads.j0 k t292 t293 t294 t297 t298 t301 t304 t305 t306 t310 bt311.1 true)))) = some r := H
    have A10 := Aside0.mk A100
    clear A100
    replace H := Option.bind_eq_some_iff.mp H
    obtain ⟨⟨t311, t312⟩, A110, H⟩ := H
    replace H : ((spec_NearCodes.f k t310).bind fun bt315 => (if t298 = t300 then (if t297 = t299 then (if t306 = t309 then (if t304 = t307 then (if t305 = t308 then (if t312 = bt315.2 then ((laws_likeInts.f k t311 bt315.1).bind fun t319 => (laws_FnReads.j0 k t292 t293 t294 t297 t298 t301 t304 t305 t306 t310 t311 (!t319))) else (laws_FnReads.j0 k t292 t293 t294 t297 t298 t301 t304 t305 t306 t310 t311 true)) else (laws_FnReads.j0 k t292 t293 t294 t297 t298 t301 t304 t305 t306 t310 t311 true)) else (laws_FnReads.j0 k t292 t293 t294 t297 t298 t301 t304 t305 t306 t310 t311 true)) else (laws_FnReads.j0 k t292 t293 t294 t297 t298 t301 t304 t305 t306 t310 t311 true)) else (laws_FnReads.j0 k t292 t293 t294 t297 t298 t301 t304 t305 t306 t310 t311 true)) else (laws_FnReads.j0 k t292 t293 t294 t297 t298 t301 t304 t305 t306 t310 t311 true))) = some r := H
    have A11 := Aside0.mk A110
    clear A110
    replace H := Option.bind_eq_some_iff.mp H
    obtain ⟨⟨t315, t316⟩, A120, H⟩ := H
    replace H : (if t298 = t300 then (if t297 = t299 then (if t306 = t309 then (if t304 = t307 then (if t305 = t308 then (if t312 = t316 then ((laws_likeInts.f k t311 t315).bind fun t319 => (laws_FnReads.j0 k t292 t293 t294 t297 t298 t301 t304 t305 t306 t310 t311 (!t319))) else (laws_FnReads.j0 k t292 t293 t294 t297 t298 t301 t304 t305 t306 t310 t311 true)) else (laws_FnReads.j0 k t292 t293 t294 t297 t298 t301 t304 t305 t306 t310 t311 true)) else (laws_FnReads.j0 k t292 t293 t294 t297 t298 t301 t304 t305 t306 t310 t311 true)) else (laws_FnReads.j0 k t292 t293 t294 t297 t298 t301 t304 t305 t306 t310 t311 true)) else (laws_FnReads.j0 k t292 t293 t294 t297 t298 t301 t304 t305 t306 t310 t311 true)) else (laws_FnReads.j0 k t292 t293 t294 t297 t298 t301 t304 t305 t306 t310 t311 true)) = some r := H
    have A12 := Aside0.mk A120
    clear A120
    have HC13 := Aside0.mk H
    clear H
    go_enter Try.func6, Try.ntmps6
    go_upto_region 12 with (first | (go_at_call 17; (with_reducible refine (laws_big.calls _ _ l0 false _ ?side1 ?side2 A2.out).mono ?_); (case side1 => repeat (first | exact HR0.out | (with_reducible refine Kd.C_alloc ?_ _) | (with_reducible refine Kd.C_drewN ?_ _) | (with_reducible refine Kd.C_drew ?_))); (case side2 => exact HC0.out); rintro e w' ⟨rfl, ⟨nd, rfl⟩⟩; (try first | exact ⟨rfl, _, World.drewN_drewN _ _ _⟩ | exact ⟨rfl, _, Eq.trans (World.drewN_drewN _ _ _) (congrArg (World.drewN _) (Nat.add_assoc _ _ _))⟩)) | (go_at_call 18; (with_reducible refine (spec_DrawStopAfter.calls k _ _ l0 t292 t293 t294 _ ?side1 ?side2 A4.out).mono ?_); (case side1 => repeat (first | exact HR0.out | (with_reducible refine Kd.C_alloc ?_ _) | (with_reducible refine Kd.C_drewN ?_ _) | (with_reducible refine Kd.C_drew ?_))); (case side2 => exact HC0.out); rintro e w14 ⟨v295, rfl, ho0, hb⟩; have n0_ := Aside0.mk (Kd.R_lower ho0 (below_size (by repeat (first | (with_reducible first | exact HB.out | apply below_alloc | apply pw_below_drewN | apply below_drew1) | exact HB.out)))); have n1_ := Aside0.mk (below_step (by repeat (first | (with_reducible first | exact HB.out | apply below_alloc | apply pw_below_drewN | apply below_drew1) | exact HB.out)) hb); clear HB; have HO296 := n0_; have HB := n1_; clear n0_ n1_; (try clear hb); (try clear hb2); (try clear hk); (try clear hi); (try clear ho0); obtain ⟨Ao15, co15, eo15⟩ := Kd.R_slice HO296.out; subst eo15) | (go_at_call 9; (with_reducible refine (impl_StopAfter.calls k _ _ t292 t293 t294 t297 t298 _ ?side1 ?side2 A5.out).mono ?_); (case side1 => repeat (first | exact (Kd.R_reads' HO296.out).2.2 | (with_reducible refine Kd.C_alloc ?_ _) | (with_reducible refine Kd.C_drewN ?_ _) | (with_reducible refine Kd.C_drew ?_))); (case side2 => exact (Kd.R_reads' HO296.out).2.1); rintro e w16 ⟨rfl, hb⟩; have n0_ := Aside0.mk (Kd.R_below (by (with_reducible repeat (first | apply Kd.R_alloc | apply Kd.R_drewN | apply Kd.R_drew)); exact HO296.out) hb); have n1_ := Aside0.mk (below_step (by repeat (first | (with_reducible first | exact HB.out | apply below_alloc | apply pw_below_drewN | apply below_drew1) | exact HB.out)) hb); clear HO296; clear HB; have HO296 := n0_; have HB := n1_; clear n0_ n1_; (try clear hb); (try clear hb2); (try clear hk); (try clear hi)) | (go_at_call 7; (with_reducible refine (spec_StopAfter.calls k _ _ t292 t293 t294 t299 t300 _ ?side1 ?side2 A6.out).mono ?_); (case side1 => repeat (first | exact (Kd.R_reads' HO296.out).2.2 | (with_reducible refine Kd.C_alloc ?_ _) | (with_reducible refine Kd.C_drewN ?_ _) | (with_reducible refine Kd.C_drew ?_))); (case side2 => exact (Kd.R_reads' HO296.out).2.1); rintro e w' ⟨rfl, ⟨nd, rfl⟩⟩; (try first | exact ⟨rfl, _, World.drewN_drewN _ _ _⟩ | exact ⟨rfl, _, Eq.trans (World.drewN_drewN _ _ _) (congrArg (World.drewN _) (Nat.add_assoc _ _ _))⟩)) | (go_at_call 19; (with_reducible refine (spec_DrawBestCode.calls k _ _ l0 t301 _ ?side1 ?side2 A7.out).mono ?_); (case side1 => repeat (first | exact (Kd.C_below HR0.out (by repeat (first | (with_reducible first | exact HB.out | apply below_alloc | apply pw_below_drewN | apply below_drew1) | exact HB.out))) | (with_reducible refine Kd.C_alloc ?_ _) | (with_reducible refine Kd.C_drewN ?_ _) | (with_reducible refine Kd.C_drew ?_))); (case side2 => exact HC0.out); rintro e w17 ⟨v302, rfl, ho0, hb⟩; have n0_ := Aside0.mk (Kd.R_elder' (by (with_reducible repeat (first | apply Kd.R_alloc | apply Kd.R_drewN | apply Kd.R_drew)); exact HO296.out) (Kd.R_base ho0) hb); have n1_ := Aside0.mk (Kd.R_lower (Kd.R_new' ho0 (Kd.R_lt (by (with_reducible repeat (first | apply Kd.R_alloc | apply Kd.R_drewN | apply Kd.R_drew)); exact HO296.out))) (below_size (by repeat (first | (with_reducible first | exact HB.out | apply below_alloc | apply pw_below_drewN | apply below_drew1) | exact HB.out)))); have n2_ := Aside0.mk (below_step (by repeat (first | (with_reducible first | exact HB.out | apply below_alloc | apply pw_below_drewN | apply below_drew1) | exact HB.out)) hb); clear HO296; clear HB; have HO296 := n0_; have HO303 := n1_; have HB := n2_; clear n0_ n1_ n2_; (try clear hb); (try clear hb2); (try clear hk); (try clear hi); (try clear ho0); obtain ⟨Ao18, co18, eo18⟩ := Kd.R_slice HO303.out; subst eo18) | (go_at_call 12; (with_reducible refine (impl_BestCode.calls _ _ t301 t304 t305 t306 _ ?side1 ?side2 A8.out).mono ?_); (case side1 => repeat (first | exact (Kd.R_reads' HO303.out).2.2 | (with_reducible refine Kd.C_alloc ?_ _) | (with_reducible refine Kd.C_drewN ?_ _) | (with_reducible refine Kd.C_drew ?_))); (case side2 => exact (Kd.R_reads' HO303.out).2.1); rintro e w19 ⟨rfl, hb⟩; have n0_ := Aside0.mk (Kd.R_below (by (with_reducible repeat (first | apply Kd.R_alloc | apply Kd.R_drewN | apply Kd.R_drew)); exact HO296.out) hb); have n1_ := Aside0.mk (Kd.R_below (by (with_reducible repeat (first | apply Kd.R_alloc | apply Kd.R_drewN | apply Kd.R_drew)); exact HO303.out) hb); have n2_ := Aside0.mk (below_step (by repeat (first | (with_reducible first | exact HB.out | apply below_alloc | apply pw_below_drewN | apply below_drew1) | exact HB.out)) hb); clear HO296; clear HO303; clear HB; have HO296 := n0_; have HO303 := n1_; have HB := n2_; clear n0_ n1_ n2_; (try clear hb); (try clear hb2); (try clear hk); (try clear hi)) | (go_at_call 11; (with_reducible refine (spec_BestCode.calls k _ _ t301 t307 t308 t309 _ ?side1 ?side2 A9.out).mono ?_); (case side1 => repeat (first | exact (Kd.R_reads' HO303.out).2.2 | (with_reducible refine Kd.C_alloc ?_ _) | (with_reducible refine Kd.C_drewN ?_ _) | (with_reducible refine Kd.C_drew ?_))); (case side2 => exact (Kd.R_reads' HO303.out).2.1); rintro e w' ⟨rfl, ⟨nd, rfl⟩⟩; (try first | exact ⟨rfl, _, World.drewN_drewN _ _ _⟩ | exact ⟨rfl, _, Eq.trans (World.drewN_drewN _ _ _) (congrArg (World.drewN _) (Nat.add_assoc _ _ _))⟩)) | (go_at_call 20; (with_reducible refine (spec_DrawNearCodes.calls k _ _ l0 t310 _ ?side1 ?side2 A10.out).mono ?_); (case side1 => repeat (first | exact (Kd.C_below HR0.out (by repeat (first | (with_reducible first | exact HB.out | apply below_alloc | apply pw_below_drewN | apply below_drew1) | exact HB.out))) | (with_reducible refine Kd.C_alloc ?_ _) | (with_reducible refine Kd.C_drewN ?_ _) | (with_reducible refine Kd.C_drew ?_))); (case side2 => exact HC0.out); rintro e w20 ⟨rfl, hb⟩; have n0_ := Aside0.mk (Kd.R_below (by (with_reducible repeat (first | apply Kd.R_alloc | apply Kd.R_drewN | apply Kd.R_drew)); exact HO296.out) hb); have n1_ := Aside0.mk (Kd.R_below (by (with_reducible repeat (first | apply Kd.R_alloc | apply Kd.R_drewN | apply Kd.R_drew)); exact HO303.out) hb); have n2_ := Aside0.mk (below_step (by repeat (first | (with_reducible first | exact HB.out | apply below_alloc | apply pw_below_drewN | apply below_drew1) | exact HB.out)) hb); clear HO296; clear HO303; clear HB; have HO296 := n0_; have HO303 := n1_; have HB := n2_; clear n0_ n1_ n2_; (try clear hb); (try clear hb2); (try clear hk); (try clear hi)) | (go_at_call 14; (with_reducible refine (impl_NearCodes.calls k t310 t311 t312 _ A11.out).mono ?_); rintro e w21 ⟨v313, rfl, ho0, hb⟩; have n0_ := Aside0.mk (Kd.R_elder' (by (with_reducible repeat (first | apply Kd.R_alloc | apply Kd.R_drewN | apply Kd.R_drew)); exact HO296.out) (Kd.R_base ho0) hb); have n1_ := Aside0.mk (Kd.R_elder' (by (with_reducible repeat (first | apply Kd.R_alloc | apply Kd.R_drewN | apply Kd.R_drew)); exact HO303.out) (Kd.R_base ho0) hb); have n2_ := Aside0.mk (Kd.R_lower (Kd.R_new' (Kd.R_new' ho0 (Kd.R_lt (by (with_reducible repeat (first | apply Kd.R_alloc | apply Kd.R_drewN | apply Kd.R_drew)); exact HO296.out))) (Kd.R_lt (by (with_reducible repeat (first | apply Kd.R_alloc | apply Kd.R_drewN | apply Kd.R_drew)); exact HO303.out))) (below_size (by repeat (first | (with_reducible first | exact HB.out | apply below_alloc | apply pw_below_drewN | apply below_drew1) | exact HB.out)))); have n3_ := Aside0.mk (below_step (by repeat (first | (with_reducible first | exact HB.out | apply below_alloc | apply pw_below_drewN | apply below_drew1) | exact HB.out)) hb); clear HO296; clear HO303; clear HB; have HO296 := n0_; have HO303 := n1_; have HO314 := n2_; have HB := n3_; clear n0_ n1_ n2_ n3_; (try clear hb); (try clear hb2); (try clear hk); (try clear hi); (try clear ho0)) | (go_at_call 13; (with_reducible refine (spec_NearCodes.calls k t310 t315 t316 _ A12.out).mono ?_); rintro e w22 ⟨v317, rfl, ho0, hb⟩; have n0_ := Aside0.mk (Kd.R_elder' (by (with_reducible repeat (first | apply Kd.R_alloc | apply Kd.R_drewN | apply Kd.R_drew)); exact HO296.out) (Kd.R_base ho0) hb); have n1_ := Aside0.mk (Kd.R_elder' (by (with_reducible repeat (first | apply Kd.R_alloc | apply Kd.R_drewN | apply Kd.R_drew)); exact HO303.out) (Kd.R_base ho0) hb); have n2_ := Aside0.mk (Kd.R_elder' (by (with_reducible repeat (first | apply Kd.R_alloc | apply Kd.R_drewN | apply Kd.R_drew)); exact HO314.out) (Kd.R_base ho0) hb); have n3_ := Aside0.mk (Kd.R_lower (Kd.R_new' (Kd.R_new' (Kd.R_new' ho0 (Kd.R_lt (by (with_reducible repeat (first | apply Kd.R_alloc | apply Kd.R_drewN | apply Kd.R_drew)); exact HO296.out))) (Kd.R_lt (by (with_reducible repeat (first | apply Kd.R_alloc | apply Kd.R_drewN | apply Kd.R_drew)); exact HO303.out))) (Kd.R_lt (by (with_reducible repeat (first | apply Kd.R_alloc | apply Kd.R_drewN | apply Kd.R_drew)); exact HO314.out))) (below_size (by repeat (first | (with_reducible first | exact HB.out | apply below_alloc | apply pw_below_drewN | apply below_drew1) | exact HB.out)))); have n4_ := Aside0.mk (below_step (by repeat (first | (with_reducible first | exact HB.out | apply below_alloc | apply pw_below_drewN | apply below_drew1) | exact HB.out)) hb); clear HO296; clear HO303; clear HO314; clear HB; have HO296 := n0_; have HO303 := n1_; have HO314 := n2_; have HO318 := n3_; have HB := n4_; clear n0_ n1_ n2_ n3_ n4_; (try clear hb); (try clear hb2); (try clear hk); (try clear hi); (try clear ho0)))
    repeat (go_quiet (first | (go_at_call 17; (with_reducible refine (laws_big.calls _ _ l0 false _ ?side1 ?side2 A2.out).mono ?_); (case side1 => repeat (first | exact HR0.out | (with_reducible refine Kd.C_alloc ?_ _) | (with_reducible refine Kd.C_drewN ?_ _) | (with_reducible refine Kd.C_drew ?_))); (case side2 => exact HC0.out); rintro e w' ⟨rfl, ⟨nd, rfl⟩⟩; (try first | exact ⟨rfl, _, World.drewN_drewN _ _ _⟩ | exact ⟨rfl, _, Eq.trans (World.drewN_drewN _ _ _) (congrArg (World.drewN _) (Nat.add_assoc _ _ _))⟩)) | (go_at_call 18; (with_reducible refine (spec_DrawStopAfter.calls k _ _ l0 t292 t293 t294 _ ?side1 ?side2 A4.out).mono ?_); (case side1 => repeat (first | exact HR0.out | (with_reducible refine Kd.C_alloc ?_ _) | (with_reducible refine Kd.C_drewN ?_ _) | (with_reducible refine Kd.C_drew ?_))); (case side2 => exact HC0.out); rintro e w14 ⟨v295, rfl, ho0, hb⟩; have n0_ := Aside0.mk (Kd.R_lower ho0 (below_size (by repeat (first | (with_reducible first | exact HB.out | apply below_alloc | apply pw_below_drewN | apply below_drew1) | exact HB.out)))); have n1_ := Aside0.mk (below_step (by repeat (first | (with_reducible first | exact HB.out | apply below_alloc | apply pw_below_drewN | apply below_drew1) | exact HB.out)) hb); clear HB; have HO296 := n0_; have HB := n1_; clear n0_ n1_; (try clear hb); (try clear hb2); (try clear hk); (try clear hi); (try clear ho0); obtain ⟨Ao15, co15, eo15⟩ := Kd.R_slice HO296.out; subst eo15) | (go_at_call 9; (with_reducible refine (impl_StopAfter.calls k _ _ t292 t293 t294 t297 t298 _ ?side1 ?side2 A5.out).mono ?_); (case side1 => repeat (first | exact (Kd.R_reads' HO296.out).2.2 | (with_reducible refine Kd.C_alloc ?_ _) | (with_reducible refine Kd.C_drewN ?_ _) | (with_reducible refine Kd.C_drew ?_))); (case side2 => exact (Kd.R_reads' HO296.out).2.1); rintro e w16 ⟨rfl, hb⟩; have n0_ := Aside0.mk (Kd.R_below (by (with_reducible repeat (first | apply Kd.R_alloc | apply Kd.R_drewN | apply Kd.R_drew)); exact HO296.out) hb); have n1_ := Aside0.mk (below_step (by repeat (first | (with_reducible first | exact HB.out | apply below_alloc | apply pw_below_drewN | apply below_drew1) | exact HB.out)) hb); clear HO296; clear HB; have HO296 := n0_; have HB := n1_; clear n0_ n1_; (try clear hb); (try clear hb2); (try clear hk); (try clear hi)) | (go_at_call 7; (with_reducible refine (spec_StopAfter.calls k _ _ t292 t293 t294 t299 t300 _ ?side1 ?side2 A6.out).mono ?_); (case side1 => repeat (first | exact (Kd.R_reads' HO296.out).2.2 | (with_reducible refine Kd.C_alloc ?_ _) | (with_reducible refine Kd.C_drewN ?_ _) | (with_reducible refine Kd.C_drew ?_))); (case side2 => exact (Kd.R_reads' HO296.out).2.1); rintro e w' ⟨rfl, ⟨nd, rfl⟩⟩; (try first | exact ⟨rfl, _, World.drewN_drewN _ _ _⟩ | exact ⟨rfl, _, Eq.trans (World.drewN_drewN _ _ _) (congrArg (World.drewN _) (Nat.add_assoc _ _ _))⟩)) | (go_at_call 19; (with_reducible refine (spec_DrawBestCode.calls k _ _ l0 t301 _ ?side1 ?side2 A7.out).mono ?_); (case side1 => repeat (first | exact (Kd.C_below HR0.out (by repeat (first | (with_reducible first | exact HB.out | apply below_alloc | apply pw_below_drewN | apply below_drew1) | exact HB.out))) | (with_reducible refine Kd.C_alloc ?_ _) | (with_reducible refine Kd.C_drewN ?_ _) | (with_reducible refine Kd.C_drew ?_))); (case side2 => exact HC0.out); rintro e w17 ⟨v302, rfl, ho0, hb⟩; have n0_ := Aside0.mk (Kd.R_elder' (by (with_reducible repeat (first | apply Kd.R_alloc | apply Kd.R_drewN | apply Kd.R_drew)); exact HO296.out) (Kd.R_base ho0) hb); have n1_ := Aside0.mk (Kd.R_lower (Kd.R_new' ho0 (Kd.R_lt (by (with_reducible repeat (first | apply Kd.R_alloc | apply Kd.R_drewN | apply Kd.R_drew)); exact HO296.out))) (below_size (by repeat (first | (with_reducible first | exact HB.out | apply below_alloc | apply pw_below_drewN | apply below_drew1) | exact HB.out)))); have n2_ := Aside0.mk (below_step (by repeat (first | (with_reducible first | exact HB.out | apply below_alloc | apply pw_below_drewN | apply below_drew1) | exact HB.out)) hb); clear HO296; clear HB; have HO296 := n0_; have HO303 := n1_; have HB := n2_; clear n0_ n1_ n2_; (try clear hb); (try clear hb2); (try clear hk); (try clear hi); (try clear ho0); obtain ⟨Ao18, co18, eo18⟩ := Kd.R_slice HO303.out; subst eo18) | (go_at_call 12; (with_reducible refine (impl_BestCode.calls _ _ t301 t304 t305 t306 _ ?side1 ?side2 A8.out).mono ?_); (case side1 => repeat (first | exact (Kd.R_reads' HO303.out).2.2 | (with_reducible refine Kd.C_alloc ?_ _) | (with_reducible refine Kd.C_drewN ?_ _) | (with_reducible refine Kd.C_drew ?_))); (case side2 => exact (Kd.R_reads' HO303.out).2.1); rintro e w19 ⟨rfl, hb⟩; have n0_ := Aside0.mk (Kd.R_below (by (with_reducible repeat (first | apply Kd.R_alloc | apply Kd.R_drewN | apply Kd.R_drew)); exact HO296.out) hb); have n1_ := Aside0.mk (Kd.R_below (by (with_reducible repeat (first | apply Kd.R_alloc | apply Kd.R_drewN | apply Kd.R_drew)); exact HO303.out) hb); have n2_ := Aside0.mk (below_step (by repeat (first | (with_reducible first | exact HB.out | apply below_alloc | apply pw_below_drewN | apply below_drew1) | exact HB.out)) hb); clear HO296; clear HO303; clear HB; have HO296 := n0_; have HO303 := n1_; have HB := n2_; clear n0_ n1_ n2_; (try clear hb); (try clear hb2); (try clear hk); (try clear hi)) | (go_at_call 11; (with_reducible refine (spec_BestCode.calls k _ _ t301 t307 t308 t309 _ ?side1 ?side2 A9.out).mono ?_); (case side1 => repeat (first | exact (Kd.R_reads' HO303.out).2.2 | (with_reducible refine Kd.C_alloc ?_ _) | (with_reducible refine Kd.C_drewN ?_ _) | (with_reducible refine Kd.C_drew ?_))); (case side2 => exact (Kd.R_reads' HO303.out).2.1); rintro e w' ⟨rfl, ⟨nd, rfl⟩⟩; (try first | exact ⟨rfl, _, World.drewN_drewN _ _ _⟩ | exact ⟨rfl, _, Eq.trans (World.drewN_drewN _ _ _) (congrArg (World.drewN _) (Nat.add_assoc _ _ _))⟩)) | (go_at_call 20; (with_reducible refine (spec_DrawNearCodes.calls k _ _ l0 t310 _ ?side1 ?side2 A10.out).mono ?_); (case side1 => repeat (first | exact (Kd.C_below HR0.out (by repeat (first | (with_reducible first | exact HB.out | apply below_alloc | apply pw_below_drewN | apply below_drew1) | exact HB.out))) | (with_reducible refine Kd.C_alloc ?_ _) | (with_reducible refine Kd.C_drewN ?_ _) | (with_reducible refine Kd.C_drew ?_))); (case side2 => exact HC0.out); rintro e w20 ⟨rfl, hb⟩; have n0_ := Aside0.mk (Kd.R_below (by (with_reducible repeat (first | apply Kd.R_alloc | apply Kd.R_drewN | apply Kd.R_drew)); exact HO296.out) hb); have n1_ := Aside0.mk (Kd.R_below (by (with_reducible repeat (first | apply Kd.R_alloc | apply Kd.R_drewN | apply Kd.R_drew)); exact HO303.out) hb); have n2_ := Aside0.mk (below_step (by repeat (first | (with_reducible first | exact HB.out | apply below_alloc | apply pw_below_drewN | apply below_drew1) | exact HB.out)) hb); clear HO296; clear HO303; clear HB; have HO296 := n0_; have HO303 := n1_; have HB := n2_; clear n0_ n1_ n2_; (try clear hb); (try clear hb2); (try clear hk); (try clear hi)) | (go_at_call 14; (with_reducible refine (impl_NearCodes.calls k t310 t311 t312 _ A11.out).mono ?_); rintro e w21 ⟨v313, rfl, ho0, hb⟩; have n0_ := Aside0.mk (Kd.R_elder' (by (with_reducible repeat (first | apply Kd.R_alloc | apply Kd.R_drewN | apply Kd.R_drew)); exact HO296.out) (Kd.R_base ho0) hb); have n1_ := Aside0.mk (Kd.R_elder' (by (with_reducible repeat (first | apply Kd.R_alloc | apply Kd.R_drewN | apply Kd.R_drew)); exact HO303.out) (Kd.R_base ho0) hb); have n2_ := Aside0.mk (Kd.R_lower (Kd.R_new' (Kd.R_new' ho0 (Kd.R_lt (by (with_reducible repeat (first | apply Kd.R_alloc | apply Kd.R_drewN | apply Kd.R_drew)); exact HO296.out))) (Kd.R_lt (by (with_reducible repeat (first | apply Kd.R_alloc | apply Kd.R_drewN | apply Kd.R_drew)); exact HO303.out))) (below_size (by repeat (first | (with_reducible first | exact HB.out | apply below_alloc | apply pw_below_drewN | apply below_drew1) | exact HB.out)))); have n3_ := Aside0.mk (below_step (by repeat (first | (with_reducible first | exact HB.out | apply below_alloc | apply pw_below_drewN | apply below_drew1) | exact HB.out)) hb); clear HO296; clear HO303; clear HB; have HO296 := n0_; have HO303 := n1_; have HO314 := n2_; have HB := n3_; clear n0_ n1_ n2_ n3_; (try clear hb); (try clear hb2); (try clear hk); (try clear hi); (try clear ho0)) | (go_at_call 13; (with_reducible refine (spec_NearCodes.calls k t310 t315 t316 _ A12.out).mono ?_); rintro e w22 ⟨v317, rfl, ho0, hb⟩; have n0_ := Aside0.mk (Kd.R_elder' (by (with_reducible repeat (first | apply Kd.R_alloc | apply Kd.R_drewN | apply Kd.R_drew)); exact HO296.out) (Kd.R_base ho0) hb); have n1_ := Aside0.mk (Kd.R_elder' (by (with_reducible repeat (first | apply Kd.R_alloc | apply Kd.R_drewN | apply Kd.R_drew)); exact HO303.out) (Kd.R_base ho0) hb); have n2_ := Aside0.mk (Kd.R_elder' (by (with_reducible repeat (first | apply Kd.R_alloc | apply Kd.R_drewN | apply Kd.R_drew)); exact HO314.out) (Kd.R_base ho0) hb); have n3_ := Aside0.mk (Kd.R_lower (Kd.R_new' (Kd.R_new' (Kd.R_new' ho0 (Kd.R_lt (by (with_reducible repeat (first | apply Kd.R_alloc | apply Kd.R_drewN | apply Kd.R_drew)); exact HO296.out))) (Kd.R_lt (by (with_reducible repeat (first | apply Kd.R_alloc | apply Kd.R_drewN | apply Kd.R_drew)); exact HO303.out))) (Kd.R_lt (by (with_reducible repeat (first | apply Kd.R_alloc | apply Kd.R_drewN | apply Kd.R_drew)); exact HO314.out))) (below_size (by repeat (first | (with_reducible first | exact HB.out | apply below_alloc | apply pw_below_drewN | apply below_drew1) | exact HB.out)))); have n4_ := Aside0.mk (below_step (by repeat (first | (with_reducible first | exact HB.out | apply below_alloc | apply pw_below_drewN | apply below_drew1) | exact HB.out)) hb); clear HO296; clear HO303; clear HO314; clear HB; have HO296 := n0_; have HO303 := n1_; have HO314 := n2_; have HO318 := n3_; have HB := n4_; clear n0_ n1_ n2_ n3_ n4_; (try clear hb); (try clear hb2); (try clear hk); (try clear hi); (try clear ho0))); go_upto_region 12 with (first | (go_at_call 17; (with_reducible refine (laws_big.calls _ _ l0 false _ ?side1 ?side2 A2.out).mono ?_); (case side1 => repeat (first | exact HR0.out | (with_reducible refine Kd.C_alloc ?_ _) | (with_reducible refine Kd.C_drewN ?_ _) | (with_reducible refine Kd.C_drew ?_))); (case side2 => exact HC0.out); rintro e w' ⟨rfl, ⟨nd, rfl⟩⟩; (try first | exact ⟨rfl, _, World.drewN_drewN _ _ _⟩ | exact ⟨rfl, _, Eq.trans (World.drewN_drewN _ _ _) (congrArg (World.drewN _) (Nat.add_assoc _ _ _))⟩)) | (go_at_call 18; (with_reducible refine (spec_DrawStopAfter.calls k _ _ l0 t292 t293 t294 _ ?side1 ?side2 A4.out).mono ?_); (case side1 => repeat (first | exact HR0.out | (with_reducible refine Kd.C_alloc ?_ _) | (with_reducible refine Kd.C_drewN ?_ _) | (with_reducible refine Kd.C_drew ?_))); (case side2 => exact HC0.out); rintro e w14 ⟨v295, rfl, ho0, hb⟩; have n0_ := Aside0.mk (Kd.R_lower ho0 (below_size (by repeat (first | (with_reducible first | exact HB.out | apply below_alloc | apply pw_below_drewN | apply below_drew1) | exact HB.out)))); have n1_ := Aside0.mk (below_step (by repeat (first | (with_reducible first | exact HB.out | apply below_alloc | apply pw_below_drewN | apply below_drew1) | exact HB.out)) hb); clear HB; have HO296 := n0_; have HB := n1_; clear n0_ n1_; (try clear hb); (try clear hb2); (try clear hk); (try clear hi); (try clear ho0); obtain ⟨Ao15, co15, eo15⟩ := Kd.R_slice HO296.out; subst eo15) | (go_at_call 9; (with_reducible refine (impl_StopAfter.calls k _ _ t292 t293 t294 t297 t298 _ ?side1 ?side2 A5.out).mono ?_); (case side1 => repeat (first | exact (Kd.R_reads' HO296.out).2.2 | (with_reducible refine Kd.C_alloc ?_ _) | (with_reducible refine Kd.C_drewN ?_ _) | (with_reducible refine Kd.C_drew ?_))); (case side2 => exact (Kd.R_reads' HO296.out).2.1); rintro e w16 ⟨rfl, hb⟩; have n0_ := Aside0.mk (Kd.R_below (by (with_reducible repeat (first | apply Kd.R_alloc | apply Kd.R_drewN | apply Kd.R_drew)); exact HO296.out) hb); have n1_ := Aside0.mk (below_step (by repeat (first | (with_reducible first | exact HB.out | apply below_alloc | apply pw_below_drewN | apply below_drew1) | exact HB.out)) hb); clear HO296; clear HB; have HO296 := n0_; have HB := n1_; clear n0_ n1_; (try clear hb); (try clear hb2); (try clear hk); (try clear hi)) | (go_at_call 7; (with_reducible refine (spec_StopAfter.calls k _ _ t292 t293 t294 t299 t300 _ ?side1 ?side2 A6.out).mono ?_); (case side1 => repeat (first | exact (Kd.R_reads' HO296.out).2.2 | (with_reducible refine Kd.C_alloc ?_ _) | (with_reducible refine Kd.C_drewN ?_ _) | (with_reducible refine Kd.C_drew ?_))); (case side2 => exact (Kd.R_reads' HO296.out).2.1); rintro e w' ⟨rfl, ⟨nd, rfl⟩⟩; (try first | exact ⟨rfl, _, World.drewN_drewN _ _ _⟩ | exact ⟨rfl, _, Eq.trans (World.drewN_drewN _ _ _) (congrArg (World.drewN _) (Nat.add_assoc _ _ _))⟩)) | (go_at_call 19; (with_reducible refine (spec_DrawBestCode.calls k _ _ l0 t301 _ ?side1 ?side2 A7.out).mono ?_); (case side1 => repeat (first | exact (Kd.C_below HR0.out (by repeat (first | (with_reducible first | exact HB.out | apply below_alloc | apply pw_below_drewN | apply below_drew1) | exact HB.out))) | (with_reducible refine Kd.C_alloc ?_ _) | (with_reducible refine Kd.C_drewN ?_ _) | (with_reducible refine Kd.C_drew ?_))); (case side2 => exact HC0.out); rintro e w17 ⟨v302, rfl, ho0, hb⟩; have n0_ := Aside0.mk (Kd.R_elder' (by (with_reducible repeat (first | apply Kd.R_alloc | apply Kd.R_drewN | apply Kd.R_drew)); exact HO296.out) (Kd.R_base ho0) hb); have n1_ := Aside0.mk (Kd.R_lower (Kd.R_new' ho0 (Kd.R_lt (by (with_reducible repeat (first | apply Kd.R_alloc | apply Kd.R_drewN | apply Kd.R_drew)); exact HO296.out))) (below_size (by repeat (first | (with_reducible first | exact HB.out | apply below_alloc | apply pw_below_drewN | apply below_drew1) | exact HB.out)))); have n2_ := Aside0.mk (below_step (by repeat (first | (with_reducible first | exact HB.out | apply below_alloc | apply pw_below_drewN | apply below_drew1) | exact HB.out)) hb); clear HO296; clear HB; have HO296 := n0_; have HO303 := n1_; have HB := n2_; clear n0_ n1_ n2_; (try clear hb); (try clear hb2); (try clear hk); (try clear hi); (try clear ho0); obtain ⟨Ao18, co18, eo18⟩ := Kd.R_slice HO303.out; subst eo18) | (go_at_call 12; (with_reducible refine (impl_BestCode.calls _ _ t301 t304 t305 t306 _ ?side1 ?side2 A8.out).mono ?_); (case side1 => repeat (first | exact (Kd.R_reads' HO303.out).2.2 | (with_reducible refine Kd.C_alloc ?_ _) | (with_reducible refine Kd.C_drewN ?_ _) | (with_reducible refine Kd.C_drew ?_))); (case side2 => exact (Kd.R_reads' HO303.out).2.1); rintro e w19 ⟨rfl, hb⟩; have n0_ := Aside0.mk (Kd.R_below (by (with_reducible repeat (first | apply Kd.R_alloc | apply Kd.R_drewN | apply Kd.R_drew)); exact HO296.out) hb); have n1_ := Aside0.mk (Kd.R_below (by (with_reducible repeat (first | apply Kd.R_alloc | apply Kd.R_drewN | apply Kd.R_drew)); exact HO303.out) hb); have n2_ := Aside0.mk (below_step (by repeat (first | (with_reducible first | exact HB.out | apply below_alloc | apply pw_below_drewN | apply below_drew1) | exact HB.out)) hb); clear HO296; clear HO303; clear HB; have HO296 := n0_; have HO303 := n1_; have HB := n2_; clear n0_ n1_ n2_; (try clear hb); (try clear hb2); (try clear hk); (try clear hi)) | (go_at_call 11; (with_reducible refine (spec_BestCode.calls k _ _ t301 t307 t308 t309 _ ?side1 ?side2 A9.out).mono ?_); (case side1 => repeat (first | exact (Kd.R_reads' HO303.out).2.2 | (with_reducible refine Kd.C_alloc ?_ _) | (with_reducible refine Kd.C_drewN ?_ _) | (with_reducible refine Kd.C_drew ?_))); (case side2 => exact (Kd.R_reads' HO303.out).2.1); rintro e w' ⟨rfl, ⟨nd, rfl⟩⟩; (try first | exact ⟨rfl, _, World.drewN_drewN _ _ _⟩ | exact ⟨rfl, _, Eq.trans (World.drewN_drewN _ _ _) (congrArg (World.drewN _) (Nat.add_assoc _ _ _))⟩)) | (go_at_call 20; (with_reducible refine (spec_DrawNearCodes.calls k _ _ l0 t310 _ ?side1 ?side2 A10.out).mono ?_); (case side1 => repeat (first | exact (Kd.C_below HR0.out (by repeat (first | (with_reducible first | exact HB.out | apply below_alloc | apply pw_below_drewN | apply below_drew1) | exact HB.out))) | (with_reducible refine Kd.C_alloc ?_ _) | (with_reducible refine Kd.C_drewN ?_ _) | (with_reducible refine Kd.C_drew ?_))); (case side2 => exact HC0.out); rintro e w20 ⟨rfl, hb⟩; have n0_ := Aside0.mk (Kd.R_below (by (with_reducible repeat (first | apply Kd.R_alloc | apply Kd.R_drewN | apply Kd.R_drew)); exact HO296.out) hb); have n1_ := Aside0.mk (Kd.R_below (by (with_reducible repeat (first | apply Kd.R_alloc | apply Kd.R_drewN | apply Kd.R_drew)); exact HO303.out) hb); have n2_ := Aside0.mk (below_step (by repeat (first | (with_reducible first | exact HB.out | apply below_alloc | apply pw_below_drewN | apply below_drew1) | exact HB.out)) hb); clear HO296; clear HO303; clear HB; have HO296 := n0_; have HO303 := n1_; have HB := n2_; clear n0_ n1_ n2_; (try clear hb); (try clear hb2); (try clear hk); (try clear hi)) | (go_at_call 14; (with_reducible refine (impl_NearCodes.calls k t310 t311 t312 _ A11.out).mono ?_); rintro e w21 ⟨v313, rfl, ho0, hb⟩; have n0_ := Aside0.mk (Kd.R_elder' (by (with_reducible repeat (first | apply Kd.R_alloc | apply Kd.R_drewN | apply Kd.R_drew)); exact HO296.out) (Kd.R_base ho0) hb); have n1_ := Aside0.mk (Kd.R_elder' (by (with_reducible repeat (first | apply Kd.R_alloc | apply Kd.R_drewN | apply Kd.R_drew)); exact HO303.out) (Kd.R_base ho0) hb); have n2_ := Aside0.mk (Kd.R_lower (Kd.R_new' (Kd.R_new' ho0 (Kd.R_lt (by (with_reducible repeat (first | apply Kd.R_alloc | apply Kd.R_drewN | apply Kd.R_drew)); exact HO296.out))) (Kd.R_lt (by (with_reducible repeat (first | apply Kd.R_alloc | apply Kd.R_drewN | apply Kd.R_drew)); exact HO303.out))) (below_size (by repeat (first | (with_reducible first | exact HB.out | apply below_alloc | apply pw_below_drewN | apply below_drew1) | exact HB.out)))); have n3_ := Aside0.mk (below_step (by repeat (first | (with_reducible first | exact HB.out | apply below_alloc | apply pw_below_drewN | apply below_drew1) | exact HB.out)) hb); clear HO296; clear HO303; clear HB; have HO296 := n0_; have HO303 := n1_; have HO314 := n2_; have HB := n3_; clear n0_ n1_ n2_ n3_; (try clear hb); (try clear hb2); (try clear hk); (try clear hi); (try clear ho0)) | (go_at_call 13; (with_reducible refine (spec_NearCodes.calls k t310 t315 t316 _ A12.out).mono ?_); rintro e w22 ⟨v317, rfl, ho0, hb⟩; have n0_ := Aside0.mk (Kd.R_elder' (by (with_reducible repeat (first | apply Kd.R_alloc | apply Kd.R_drewN | apply Kd.R_drew)); exact HO296.out) (Kd.R_base ho0) hb); have n1_ := Aside0.mk (Kd.R_elder' (by (with_reducible repeat (first | apply Kd.R_alloc | apply Kd.R_drewN | apply Kd.R_drew)); exact HO303.out) (Kd.R_base ho0) hb); have n2_ := Aside0.mk (Kd.R_elder' (by (with_reducible repeat (first | apply Kd.R_alloc | apply Kd.R_drewN | apply Kd.R_drew)); exact HO314.out) (Kd.R_base ho0) hb); have n3_ := Aside0.mk (Kd.R_lower (Kd.R_new' (Kd.R_new' (Kd.R_new' ho0 (Kd.R_lt (by (with_reducible repeat (first | apply Kd.R_alloc | apply Kd.R_drewN | apply Kd.R_drew)); exact HO296.out))) (Kd.R_lt (by (with_reducible repeat (first | apply Kd.R_alloc | apply Kd.R_drewN | apply Kd.R_drew)); exact HO303.out))) (Kd.R_lt (by (with_reducible repeat (first | apply Kd.R_alloc | apply Kd.R_drewN | apply Kd.R_drew)); exact HO314.out))) (below_size (by repeat (first | (with_reducible first | exact HB.out | apply below_alloc | apply pw_below_drewN | apply below_drew1) | exact HB.out)))); have n4_ := Aside0.mk (below_step (by repeat (first | (with_reducible first | exact HB.out | apply below_alloc | apply pw_below_drewN | apply below_drew1) | exact HB.out)) hb); clear HO296; clear HO303; clear HO314; clear HB; have HO296 := n0_; have HO303 := n1_; have HO314 := n2_; have HO318 := n3_; have HB := n4_; clear n0_ n1_ n2_ n3_ n4_; (try clear hb); (try clear hb2); (try clear hk); (try clear hi); (try clear ho0))))
    (try simp only [Act.put, List.setIfInBounds_toArray, List.set_cons_zero, List.set_cons_succ])
    go_cut [111] (fun v111 wc => ∃ (kq : Nat) (x111_12 : Bool), v111 = .bool x111_12 ∧ Aside0 (laws_FnReads.j0 kq t292 t293 t294 t297 t298 t301 t304 t305 t306 t310 t311 x111_12 = some r) ∧ Aside0 (kq ≤ k) ∧ Aside0 (Kd.R (Kd.int .i64) 2 wc w.heap.size (fun k_ => some k_ ≠ ((.slice Ao18 t301.length co18) : Value).ownBlock ∧ some k_ ≠ (v313 : Value).ownBlock) (.slice Ao15 t292.length co15) t292) ∧ Aside0 (Kd.R (Kd.int .i64) 2 wc w.heap.size (fun k_ => some k_ ≠ ((.slice Ao15 t292.length co15) : Value).ownBlock ∧ some k_ ≠ (v313 : Value).ownBlock) (.slice Ao18 t301.length co18) t301) ∧ Aside0 (Kd.R (Kd.int .i64) 2 wc w.heap.size (fun k_ => some k_ ≠ ((.slice Ao15 t292.length co15) : Value).ownBlock ∧ some k_ ≠ ((.slice Ao18 t301.length co18) : Value).ownBlock) v313 t311) ∧ Aside0 (Below w.heap.size w wc))
    case first =>
      have H := HC13.out
      clear HC13
      by_cases c23 : t298 = t300
      · rw [if_pos c23] at H
        have c23b0 : (t298 == t300) = true := beq_iff_eq.mpr c23
        have c23b1 : (t298 != t300) = false := bne_eq_false_iff_eq.mpr c23
        clear c23
        (first | rw [c23b0] | (simp only [i64_w, i32_w]; rw [c23b0]) | skip)
        by_cases c24 : t297 = t299
        · rw [if_pos c24] at H
          have c24b0 : (t297 == t299) = true := beq_iff_eq.mpr c24
          have c24b1 : (t297 != t299) = false := bne_eq_false_iff_eq.mpr c24
          clear c24
          by_cases c25 : t306 = t309
          · rw [if_pos c25] at H
            have c25b0 : (t306 == t309) = true := beq_iff_eq.mpr c25
            have c25b1 : (t306 != t309) = false := bne_eq_false_iff_eq.mpr c25
            clear c25
            by_cases c26 : t304 = t307
            · rw [if_pos c26] at H
              have c26b0 : (t304 == t307) = true := beq_iff_eq.mpr c26
              have c26b1 : (t304 != t307) = false := bne_eq_false_iff_eq.mpr c26
              clear c26
              by_cases c27 : t305 = t308
              · rw [if_pos c27] at H
                have c27b0 : (t305 == t308) = true := beq_iff_eq.mpr c27
                have c27b1 : (t305 != t308) = false := bne_eq_false_iff_eq.mpr c27
                clear c27
                by_cases c28 : t312 = t316
                · rw [if_pos c28] at H
                  have c28b0 : (t312 == t316) = true := beq_iff_eq.mpr c28
                  have c28b1 : (t312 != t316) = false := bne_eq_false_iff_eq.mpr c28
                  clear c28
                  replace H := Option.bind_eq_some_iff.mp H
                  obtain ⟨t319, A290, H⟩ := H
                  replace H : (laws_FnReads.j0 k t292 t293 t294 t297 t298 t301 t304 t305 t306 t310 t311 (!t319)) = some r := H
                  have A29 := Aside0.mk A290
                  clear A290
                  have H' := Aside0.mk H
                  clear H
                  obtain ⟨Ao30, co30, eo30⟩ := Kd.R_slice HO314.out
                  subst eo30
                  obtain ⟨Ao31, co31, eo31⟩ := Kd.R_slice HO318.out
                  subst eo31
                  go_wp2_with (first | (go_at_call 21; (with_reducible refine (laws_likeInts.calls k _ _ t311 _ _ t315 t319 _ ?side1 ?side2 ?side3 ?side4 A29.out).mono ?_); (case side1 => repeat (first | exact (Kd.R_reads' HO314.out).2.2 | (with_reducible refine Kd.C_alloc ?_ _) | (with_reducible refine Kd.C_drewN ?_ _) | (with_reducible refine Kd.C_drew ?_))); (case side2 => exact (Kd.R_reads' HO314.out).2.1); (case side3 => repeat (first | exact (Kd.R_reads' HO318.out).2.2 | (with_reducible refine Kd.C_alloc ?_ _) | (with_reducible refine Kd.C_drewN ?_ _) | (with_reducible refine Kd.C_drew ?_))); (case side4 => exact (Kd.R_reads' HO318.out).2.1); rintro e w' ⟨rfl, ⟨nd, rfl⟩⟩; (try first | exact ⟨rfl, _, World.drewN_drewN _ _ _⟩ | exact ⟨rfl, _, Eq.trans (World.drewN_drewN _ _ _) (congrArg (World.drewN _) (Nat.add_assoc _ _ _))⟩)))
                  repeat (go_quiet (first | (go_at_call 21; (with_reducible refine (laws_likeInts.calls k _ _ t311 _ _ t315 t319 _ ?side1 ?side2 ?side3 ?side4 A29.out).mono ?_); (case side1 => repeat (first | exact (Kd.R_reads' HO314.out).2.2 | (with_reducible refine Kd.C_alloc ?_ _) | (with_reducible refine Kd.C_drewN ?_ _) | (with_reducible refine Kd.C_drew ?_))); (case side2 => exact (Kd.R_reads' HO314.out).2.1); (case side3 => repeat (first | exact (Kd.R_reads' HO318.out).2.2 | (with_reducible refine Kd.C_alloc ?_ _) | (with_reducible refine Kd.C_drewN ?_ _) | (with_reducible refine Kd.C_drew ?_))); (case side4 => exact (Kd.R_reads' HO318.out).2.1); rintro e w' ⟨rfl, ⟨nd, rfl⟩⟩; (try first | exact ⟨rfl, _, World.drewN_drewN _ _ _⟩ | exact ⟨rfl, _, Eq.trans (World.drewN_drewN _ _ _) (congrArg (World.drewN _) (Nat.add_assoc _ _ _))⟩))); try go_wp2_with (first | (go_at_call 21; (with_reducible refine (laws_likeInts.calls k _ _ t311 _ _ t315 t319 _ ?side1 ?side2 ?side3 ?side4 A29.out).mono ?_); (case side1 => repeat (first | exact (Kd.R_reads' HO314.out).2.2 | (with_reducible refine Kd.C_alloc ?_ _) | (with_reducible refine Kd.C_drewN ?_ _) | (with_reducible refine Kd.C_drew ?_))); (case side2 => exact (Kd.R_reads' HO314.out).2.1); (case side3 => repeat (first | exact (Kd.R_reads' HO318.out).2.2 | (with_reducible refine Kd.C_alloc ?_ _) | (with_reducible refine Kd.C_drewN ?_ _) | (with_reducible refine Kd.C_drew ?_))); (case side4 => exact (Kd.R_reads' HO318.out).2.1); rintro e w' ⟨rfl, ⟨nd, rfl⟩⟩; (try first | exact ⟨rfl, _, World.drewN_drewN _ _ _⟩ | exact ⟨rfl, _, Eq.trans (World.drewN_drewN _ _ _) (congrArg (World.drewN _) (Nat.add_assoc _ _ _))⟩))))
                  go_meet
                  case rel => exact ⟨_, (!t319), (by first | rfl | (simp; done) | (simp [*]; done)), H', ⟨by first | omega | exact Nat.le_refl _⟩, ⟨by (with_reducible repeat (first | apply Kd.R_alloc | apply Kd.R_drewN | apply Kd.R_drew)); exact Kd.R_mono HO296.out (fun _ hk => ⟨hk.1.1.2, hk.1.2⟩)⟩, ⟨by (with_reducible repeat (first | apply Kd.R_alloc | apply Kd.R_drewN | apply Kd.R_drew)); exact Kd.R_mono HO303.out (fun _ hk => ⟨hk.1.1.2, hk.1.2⟩)⟩, ⟨by (with_reducible repeat (first | apply Kd.R_alloc | apply Kd.R_drewN | apply Kd.R_drew)); exact Kd.R_mono HO314.out (fun _ hk => ⟨hk.1.1.2, hk.1.2⟩)⟩, ⟨by repeat (first | (with_reducible first | exact HB.out | apply below_alloc | apply pw_below_drewN | apply below_drew1) | exact HB.out)⟩⟩
                · rw [if_neg c28] at H
                  have c28b0 : (t312 == t316) = false := beq_eq_false_iff_ne.mpr c28
                  have c28b1 : (t312 != t316) = true := bne_iff_ne.mpr c28
                  have H' := Aside0.mk H
                  clear H
                  go_wp2
                  repeat (go_quiet (fail); try go_wp2)
                  go_meet
                  case rel => exact ⟨_, (true), (by first | rfl | (simp; done) | (simp [*]; done)), H', ⟨by first | omega | exact Nat.le_refl _⟩, ⟨by (with_reducible repeat (first | apply Kd.R_alloc | apply Kd.R_drewN | apply Kd.R_drew)); exact Kd.R_mono HO296.out (fun _ hk => ⟨hk.1.1.2, hk.1.2⟩)⟩, ⟨by (with_reducible repeat (first | apply Kd.R_alloc | apply Kd.R_drewN | apply Kd.R_drew)); exact Kd.R_mono HO303.out (fun _ hk => ⟨hk.1.1.2, hk.1.2⟩)⟩, ⟨by (with_reducible repeat (first | apply Kd.R_alloc | apply Kd.R_drewN | apply Kd.R_drew)); exact Kd.R_mono HO314.out (fun _ hk => ⟨hk.1.1.2, hk.1.2⟩)⟩, ⟨by repeat (first | (with_reducible first | exact HB.out | apply below_alloc | apply pw_below_drewN | apply below_drew1) | exact HB.out)⟩⟩
              · rw [if_neg c27] at H
                have c27b0 : (t305 == t308) = false := beq_eq_false_iff_ne.mpr c27
                have c27b1 : (t305 != t308) = true := bne_iff_ne.mpr c27
                have H' := Aside0.mk H
                clear H
                go_wp2
                repeat (go_quiet (fail); try go_wp2)
                go_meet
                case rel => exact ⟨_, (true), (by first | rfl | (simp; done) | (simp [*]; done)), H', ⟨by first | omega | exact Nat.le_refl _⟩, ⟨by (with_reducible repeat (first | apply Kd.R_alloc | apply Kd.R_drewN | apply Kd.R_drew)); exact Kd.R_mono HO296.out (fun _ hk => ⟨hk.1.1.2, hk.1.2⟩)⟩, ⟨by (with_reducible repeat (first | apply Kd.R_alloc | apply Kd.R_drewN | apply Kd.R_drew)); exact Kd.R_mono HO303.out (fun _ hk => ⟨hk.1.1.2, hk.1.2⟩)⟩, ⟨by (with_reducible repeat (first | apply Kd.R_alloc | apply Kd.R_drewN | apply Kd.R_drew)); exact Kd.R_mono HO314.out (fun _ hk => ⟨hk.1.1.2, hk.1.2⟩)⟩, ⟨by repeat (first | (with_reducible first | exact HB.out | apply below_alloc | apply pw_below_drewN | apply below_drew1) | exact HB.out)⟩⟩
            · rw [if_neg c26] at H
              have c26b0 : (t304 == t307) = false := beq_eq_false_iff_ne.mpr c26
              have c26b1 : (t304 != t307) = true := bne_iff_ne.mpr c26
              have H' := Aside0.mk H
              clear H
              go_wp2
              repeat (go_quiet (fail); try go_wp2)
              go_meet
              case rel => exact ⟨_, (true), (by first | rfl | (simp; done) | (simp [*]; done)), H', ⟨by first | omega | exact Nat.le_refl _⟩, ⟨by (with_reducible repeat (first | apply Kd.R_alloc | apply Kd.R_drewN | apply Kd.R_drew)); exact Kd.R_mono HO296.out (fun _ hk => ⟨hk.1.1.2, hk.1.2⟩)⟩, ⟨by (with_reducible repeat (first | apply Kd.R_alloc | apply Kd.R_drewN | apply Kd.R_drew)); exact Kd.R_mono HO303.out (fun _ hk => ⟨hk.1.1.2, hk.1.2⟩)⟩, ⟨by (with_reducible repeat (first | apply Kd.R_alloc | apply Kd.R_drewN | apply Kd.R_drew)); exact Kd.R_mono HO314.out (fun _ hk => ⟨hk.1.1.2, hk.1.2⟩)⟩, ⟨by repeat (first | (with_reducible first | exact HB.out | apply below_alloc | apply pw_below_drewN | apply below_drew1) | exact HB.out)⟩⟩
          · rw [if_neg c25] at H
            have c25b0 : (t306 == t309) = false := beq_eq_false_iff_ne.mpr c25
            have c25b1 : (t306 != t309) = true := bne_iff_ne.mpr c25
            have H' := Aside0.mk H
            clear H
            go_wp2
            repeat (go_quiet (fail); try go_wp2)
            go_meet
            case rel => exact ⟨_, (true), (by first | rfl | (simp; done) | (simp [*]; done)), H', ⟨by first | omega | exact Nat.le_refl _⟩, ⟨by (with_reducible repeat (first | apply Kd.R_alloc | apply Kd.R_drewN | apply Kd.R_drew)); exact Kd.R_mono HO296.out (fun _ hk => ⟨hk.1.1.2, hk.1.2⟩)⟩, ⟨by (with_reducible repeat (first | apply Kd.R_alloc | apply Kd.R_drewN | apply Kd.R_drew)); exact Kd.R_mono HO303.out (fun _ hk => ⟨hk.1.1.2, hk.1.2⟩)⟩, ⟨by (with_reducible repeat (first | apply Kd.R_alloc | apply Kd.R_drewN | apply Kd.R_drew)); exact Kd.R_mono HO314.out (fun _ hk => ⟨hk.1.1.2, hk.1.2⟩)⟩, ⟨by repeat (first | (with_reducible first | exact HB.out | apply below_alloc | apply pw_below_drewN | apply below_drew1) | exact HB.out)⟩⟩
        · rw [if_neg c24] at H
          have c24b0 : (t297 == t299) = false := beq_eq_false_iff_ne.mpr c24
          have c24b1 : (t297 != t299) = true := bne_iff_ne.mpr c24
          have H' := Aside0.mk H
          clear H
          go_wp2
          repeat (go_quiet (fail); try go_wp2)
          go_meet
          case rel => exact ⟨_, (true), (by first | rfl | (simp; done) | (simp [*]; done)), H', ⟨by first | omega | exact Nat.le_refl _⟩, ⟨by (with_reducible repeat (first | apply Kd.R_alloc | apply Kd.R_drewN | apply Kd.R_drew)); exact Kd.R_mono HO296.out (fun _ hk => ⟨hk.1.1.2, hk.1.2⟩)⟩, ⟨by (with_reducible repeat (first | apply Kd.R_alloc | apply Kd.R_drewN | apply Kd.R_drew)); exact Kd.R_mono HO303.out (fun _ hk => ⟨hk.1.1.2, hk.1.2⟩)⟩, ⟨by (with_reducible repeat (first | apply Kd.R_alloc | apply Kd.R_drewN | apply Kd.R_drew)); exact Kd.R_mono HO314.out (fun _ hk => ⟨hk.1.1.2, hk.1.2⟩)⟩, ⟨by repeat (first | (with_reducible first | exact HB.out | apply below_alloc | apply pw_below_drewN | apply below_drew1) | exact HB.out)⟩⟩
      · rw [if_neg c23] at H
        have c23b0 : (t298 == t300) = false := beq_eq_false_iff_ne.mpr c23
        have c23b1 : (t298 != t300) = true := bne_iff_ne.mpr c23
        (first | rw [c23b0] | (simp only [i64_w, i32_w]; rw [c23b0]) | skip)
        have H' := Aside0.mk H
        clear H
        go_wp2
        repeat (go_quiet (fail); try go_wp2)
        go_meet
        case rel => exact ⟨_, (true), (by first | rfl | (simp; done) | (simp [*]; done)), H', ⟨by first | omega | exact Nat.le_refl _⟩, ⟨by (with_reducible repeat (first | apply Kd.R_alloc | apply Kd.R_drewN | apply Kd.R_drew)); exact Kd.R_mono HO296.out (fun _ hk => ⟨hk.1.1.2, hk.1.2⟩)⟩, ⟨by (with_reducible repeat (first | apply Kd.R_alloc | apply Kd.R_drewN | apply Kd.R_drew)); exact Kd.R_mono HO303.out (fun _ hk => ⟨hk.1.1.2, hk.1.2⟩)⟩, ⟨by (with_reducible repeat (first | apply Kd.R_alloc | apply Kd.R_drewN | apply Kd.R_drew)); exact Kd.R_mono HO314.out (fun _ hk => ⟨hk.1.1.2, hk.1.2⟩)⟩, ⟨by repeat (first | (with_reducible first | exact HB.out | apply below_alloc | apply pw_below_drewN | apply below_drew1) | exact HB.out)⟩⟩
    case rest =>
      clear HC13
      try clear c2
      try clear p2
      try clear c3
      try clear c6
      try clear c23
      try clear c23b0
      try clear c23b1
      try clear c24
      try clear c24b0
      try clear c24b1
      try clear c25
      try clear c25b0
      try clear c25b1
      try clear c26
      try clear c26b0
      try clear c26b1
      try clear c27
      try clear c27b0
      try clear c27b1
      try clear c28
      try clear c28b0
      try clear c28b1
      obtain ⟨kq, x111_12, rfl, HA, HJ12, HO_3, HO_10, HO_18, HB⟩ := hcut
      cases kq with
      | zero => exact absurd HA.out (by simp [laws_FnReads.j0])
      | succ kj12 =>
        have H := HA.out
        clear HA
        simp only [laws_FnReads.j0] at H
        by_cases c32 : x111_12 = true
        · subst c32
          have H1 : (some false) = some r := by rw [if_pos rfl] at H; exact H
          clear H
          have H := H1
          clear H1
          exact absurd ((Option.some.inj H).trans hr_.out) (by decide)
        · replace c32 := Bool.eq_false_iff.mpr c32
          subst c32
          have H1 : (laws_FnReads.l0 kj12 t292 t293 t294 t297 t298 t301 t304 t305 t306 t310 t311 0) = some r := by rw [if_neg (show ¬ (false = true) by decide)] at H; exact H
          clear H
          have H := H1
          clear H1
          have H' := Aside0.mk H
          clear H
          go_wp2
          repeat (go_quiet (fail); try go_wp2)
          go_loopg [22] kj12 (fun kq v22 w' => ∃ (x22_2 : Int), v22 = .int .i64 x22_2 ∧ Aside0 (laws_FnReads.l0 kq t292 t293 t294 t297 t298 t301 t304 t305 t306 t310 t311 x22_2 = some r) ∧ Aside0 (kq ≤ kj12) ∧ Aside0 (Kd.R (Kd.int .i64) 2 w' w.heap.size (fun k_ => some k_ ≠ ((.slice Ao18 t301.length co18) : Value).ownBlock ∧ some k_ ≠ (v313 : Value).ownBlock) (.slice Ao15 t292.length co15) t292) ∧ Aside0 (Kd.R (Kd.int .i64) 2 w' w.heap.size (fun k_ => some k_ ≠ ((.slice Ao15 t292.length co15) : Value).ownBlock ∧ some k_ ≠ (v313 : Value).ownBlock) (.slice Ao18 t301.length co18) t301) ∧ Aside0 (Kd.R (Kd.int .i64) 2 w' w.heap.size (fun k_ => some k_ ≠ ((.slice Ao15 t292.length co15) : Value).ownBlock ∧ some k_ ≠ ((.slice Ao18 t301.length co18) : Value).ownBlock) v313 t311) ∧ Aside0 (Below w.heap.size w w'))
          case atStart => exact ⟨(0), (by first | rfl | (simp; done) | (simp [*]; done)), H', ⟨Nat.le_refl _⟩, ⟨by (with_reducible repeat (first | apply Kd.R_alloc | apply Kd.R_drewN | apply Kd.R_drew)); exact HO_3.out⟩, ⟨by (with_reducible repeat (first | apply Kd.R_alloc | apply Kd.R_drewN | apply Kd.R_drew)); exact HO_10.out⟩, ⟨by (with_reducible repeat (first | apply Kd.R_alloc | apply Kd.R_drewN | apply Kd.R_drew)); exact HO_18.out⟩, ⟨by repeat (first | (with_reducible first | exact HB.out | apply below_alloc | apply pw_below_drewN | apply below_drew1) | exact HB.out)⟩⟩
          case round =>
            clear H'
            try clear c2
            try clear p2
            try clear c3
            try clear c6
            try clear c23
            try clear c23b0
            try clear c23b1
            try clear c24
            try clear c24b0
            try clear c24b1
            try clear c25
            try clear c25b0
            try clear c25b1
            try clear c26
            try clear c26b0
            try clear c26b1
            try clear c27
            try clear c27b0
            try clear c27b1
            try clear c28
            try clear c28b0
            try clear c28b1
            try clear c32
            try clear p2
            obtain ⟨x22_2, rfl, HA, HK2, HO_3, HO_10, HO_18, HB⟩ := hrel
            cases gk with
            | zero => exact absurd HA.out (by simp [laws_FnReads.l0])
            | succ k2 =>
              have H := HA.out
              clear HA
              simp only [laws_FnReads.l0] at H
              by_cases c33 : x22_2 < (t311.length : Int)
              · rw [if_pos c33] at H
                have c33b0 : decide (x22_2 < (t311.length : Int)) = true := decide_eq_true c33
                clear c33
                by_cases c34 : 0 ≤ x22_2
                · rw [if_pos c34] at H
                  have c34b0 : decide (0 ≤ x22_2) = true := decide_eq_true c34
                  clear c34
                  have H' := Aside0.mk H
                  clear H
                  obtain ⟨Ao35, co35, eo35⟩ := Kd.R_slice HO_18.out
                  subst eo35
                  have p320 : 0 ≤ (x22_2 : Int) := of_decide_eq_true (by first | (with_reducible assumption) | assumption)
                  have q320 : x22_2 < (t311.length : Int) := of_decide_eq_true (by first | (with_reducible assumption) | assumption)
                  obtain ⟨ad320, e320, hx320_0⟩ := Kd.at_int (Kd.R_reads' HO_18.out).2.2 x22_2 p320 q320
                  cases e320
                  replace p320 := eq_true p320
                  replace q320 := eq_true q320
                  go_wp2
                  repeat (go_quiet (fail); try go_wp2)
                  go_loopg [23, 24, 25, 26] k2 (fun kq v23 v24 v25 v26 w' => ∃ (x23_3 : Int) (x24_3 : Int) (x25_3 : Int) (x26_3 : Int), v23 = .int .i64 x23_3 ∧ v24 = .int .i64 x24_3 ∧ v25 = .int .i64 x25_3 ∧ v26 = .int .i64 x26_3 ∧ Aside0 (laws_FnReads.l1 kq t292 t293 t294 t297 t298 t301 t304 t305 t306 t310 t311 x22_2 x23_3 x24_3 x25_3 x26_3 = some r) ∧ Aside0 (kq ≤ k2) ∧ Aside0 (Kd.R (Kd.int .i64) 2 w' w.heap.size (fun k_ => some k_ ≠ ((.slice Ao18 t301.length co18) : Value).ownBlock ∧ some k_ ≠ ((.slice (some ad320) t311.length co35) : Value).ownBlock) (.slice Ao15 t292.length co15) t292) ∧ Aside0 (Kd.R (Kd.int .i64) 2 w' w.heap.size (fun k_ => some k_ ≠ ((.slice Ao15 t292.length co15) : Value).ownBlock ∧ some k_ ≠ ((.slice (some ad320) t311.length co35) : Value).ownBlock) (.slice Ao18 t301.length co18) t301) ∧ Aside0 (Kd.R (Kd.int .i64) 2 w' w.heap.size (fun k_ => some k_ ≠ ((.slice Ao15 t292.length co15) : Value).ownBlock ∧ some k_ ≠ ((.slice Ao18 t301.length co18) : Value).ownBlock) (.slice (some ad320) t311.length co35) t311) ∧ Aside0 (Below w.heap.size w w'))
                  case atStart => exact ⟨(0), (rd t311 x22_2), (t310), (0), (by first | rfl | (simp; done) | (simp [*]; done)), (by first | rfl | (simp; done) | (simp [*]; done)), (by first | rfl | (simp; done) | (simp [*]; done)), (by first | rfl | (simp; done) | (simp [*]; done)), H', ⟨Nat.le_refl _⟩, ⟨by (with_reducible repeat (first | apply Kd.R_alloc | apply Kd.R_drewN | apply Kd.R_drew)); exact HO_3.out⟩, ⟨by (with_reducible repeat (first | apply Kd.R_alloc | apply Kd.R_drewN | apply Kd.R_drew)); exact HO_10.out⟩, ⟨by (with_reducible repeat (first | apply Kd.R_alloc | apply Kd.R_drewN | apply Kd.R_drew)); exact HO_18.out⟩, ⟨by repeat (first | (with_reducible first | exact HB.out | apply below_alloc | apply pw_below_drewN | apply below_drew1) | exact HB.out)⟩⟩
                  case round =>
                    clear H'
                    try clear c2
                    try clear p2
                    try clear c3
                    try clear p3
                    try clear q3
                    try clear hx3
                    try clear c6
                    try clear c23
                    try clear c23b0
                    try clear c23b1
                    try clear c24
                    try clear c24b0
                    try clear c24b1
                    try clear c25
                    try clear c25b0
                    try clear c25b1
                    try clear c26
                    try clear c26b0
                    try clear c26b1
                    try clear c27
                    try clear c27b0
                    try clear c27b1
                    try clear c28
                    try clear c28b0
                    try clear c28b1
                    try clear c32
                    try clear p32
                    try clear q32
                    try clear hx32
                    try clear c33
                    try clear c33b0
                    try clear c34
                    try clear c34b0
                    try clear hx320_0
                    try clear p2
                    try clear p320
                    try clear q320
                    obtain ⟨x23_3, x24_3, x25_3, x26_3, rfl, rfl, rfl, rfl, HA, HK3, HO_3, HO_10, HO_18, HB⟩ := hrel
                    cases gk with
                    | zero => exact absurd HA.out (by simp [laws_FnReads.l1])
                    | succ k3 =>
                      have H := HA.out
                      clear HA
                      simp only [laws_FnReads.l1] at H
                      by_cases c36 : x26_3 < 7
                      · rw [if_pos c36] at H
                        have c36b0 : decide (x26_3 < 7) = true := decide_eq_true c36
                        clear c36
                        by_cases c37 : (Int.tmod x24_3 10) = (Int.tmod x25_3 10)
                        · rw [if_pos c37] at H
                          have c37b0 : ((Int.tmod x24_3 10) == (Int.tmod x25_3 10)) = true := beq_iff_eq.mpr c37
                          have c37b1 : ((Int.tmod x24_3 10) != (Int.tmod x25_3 10)) = false := bne_eq_false_iff_eq.mpr c37
                          clear c37
                          have H' := Aside0.mk H
                          clear H
                          go_wp2
                          repeat (go_quiet (fail); try go_wp2)
                          go_roundg k3
                          case measure => have := HJ12.out; have := HK2.out; have := HK3.out; omega
                          case rel => exact ⟨(x23_3), (wrap64 (Int.tdiv x24_3 10)), (wrap64 (Int.tdiv x25_3 10)), (wrap64 (x26_3 + 1)), (by first | rfl | (simp; done) | (simp [*]; done)), (by first | rfl | (simp; done) | (simp [*]; done)), (by first | rfl | (simp; done) | (simp [*]; done)), (by first | rfl | (simp; done) | (simp [*]; done)), H', ⟨by have := HJ12.out; have := HK2.out; have := HK3.out; omega⟩, ⟨by (with_reducible repeat (first | apply Kd.R_alloc | apply Kd.R_drewN | apply Kd.R_drew)); exact HO_3.out⟩, ⟨by (with_reducible repeat (first | apply Kd.R_alloc | apply Kd.R_drewN | apply Kd.R_drew)); exact HO_10.out⟩, ⟨by (with_reducible repeat (first | apply Kd.R_alloc | apply Kd.R_drewN | apply Kd.R_drew)); exact HO_18.out⟩, ⟨by repeat (first | (with_reducible first | exact HB.out | apply below_alloc | apply pw_below_drewN | apply below_drew1) | exact HB.out)⟩⟩
                        · rw [if_neg c37] at H
                          have c37b0 : ((Int.tmod x24_3 10) == (Int.tmod x25_3 10)) = false := beq_eq_false_iff_ne.mpr c37
                          have c37b1 : ((Int.tmod x24_3 10) != (Int.tmod x25_3 10)) = true := bne_iff_ne.mpr c37
                          have H' := Aside0.mk H
                          clear H
                          go_wp2
                          repeat (go_quiet (fail); try go_wp2)
                          go_roundg k3
                          case measure => have := HJ12.out; have := HK2.out; have := HK3.out; omega
                          case rel => exact ⟨(wrap64 (x23_3 + 1)), (wrap64 (Int.tdiv x24_3 10)), (wrap64 (Int.tdiv x25_3 10)), (wrap64 (x26_3 + 1)), (by first | rfl | (simp; done) | (simp [*]; done)), (by first | rfl | (simp; done) | (simp [*]; done)), (by first | rfl | (simp; done) | (simp [*]; done)), (by first | rfl | (simp; done) | (simp [*]; done)), H', ⟨by have := HJ12.out; have := HK2.out; have := HK3.out; omega⟩, ⟨by (with_reducible repeat (first | apply Kd.R_alloc | apply Kd.R_drewN | apply Kd.R_drew)); exact HO_3.out⟩, ⟨by (with_reducible repeat (first | apply Kd.R_alloc | apply Kd.R_drewN | apply Kd.R_drew)); exact HO_10.out⟩, ⟨by (with_reducible repeat (first | apply Kd.R_alloc | apply Kd.R_drewN | apply Kd.R_drew)); exact HO_18.out⟩, ⟨by repeat (first | (with_reducible first | exact HB.out | apply below_alloc | apply pw_below_drewN | apply below_drew1) | exact HB.out)⟩⟩
                      · rw [if_neg c36] at H
                        have c36b0 : decide (x26_3 < 7) = false := decide_eq_false c36
                        clear c36
                        by_cases c38 : x23_3 = 1
                        · rw [if_pos c38] at H
                          have c38b0 : (x23_3 == 1) = true := beq_iff_eq.mpr c38
                          have c38b1 : (x23_3 != 1) = false := bne_eq_false_iff_eq.mpr c38
                          clear c38
                          by_cases c39 : 0 ≤ x22_2
                          · rw [if_pos c39] at H
                            have c39b0 : decide (0 ≤ x22_2) = true := decide_eq_true c39
                            clear c39
                            by_cases c40 : x22_2 < (t311.length : Int)
                            · rw [if_pos c40] at H
                              have c40b0 : decide (x22_2 < (t311.length : Int)) = true := decide_eq_true c40
                              clear c40
                              replace H := Option.bind_eq_some_iff.mp H
                              obtain ⟨t322, A410, H⟩ := H
                              replace H : (if t322 = true then (laws_FnReads.l0 k3 t292 t293 t294 t297 t298 t301 t304 t305 t306 t310 t311 (wrap64 (x22_2 + 1))) else (some false)) = some r := H
                              have A41 := Aside0.mk A410
                              clear A410
                              by_cases c42 : t322 = true
                              · subst c42
                                have H1 : (laws_FnReads.l0 k3 t292 t293 t294 t297 t298 t301 t304 t305 t306 t310 t311 (wrap64 (x22_2 + 1))) = some r := by rw [if_pos rfl] at H; exact H
                                clear H
                                have H := H1
                                clear H1
                                have H' := Aside0.mk H
                                clear H
                                have p321 : 0 ≤ (x22_2 : Int) := of_decide_eq_true (by first | (with_reducible assumption) | assumption)
                                have q321 : x22_2 < (t311.length : Int) := of_decide_eq_true (by first | (with_reducible assumption) | assumption)
                                obtain ⟨ad321, e321, hx321_0⟩ := Kd.at_int (Kd.R_reads' HO_18.out).2.2 x22_2 p321 q321
                                obtain rfl : ad320 = ad321 := (by injection e321)
                                replace p321 := eq_true p321
                                replace q321 := eq_true q321
                                go_wp2_with (first | (go_at_call 22; (with_reducible refine (impl_IsCode.calls (rd t311 x22_2) true _ A41.out).mono ?_); rintro e w' ⟨rfl, ⟨nd, rfl⟩⟩; (try first | exact ⟨rfl, _, World.drewN_drewN _ _ _⟩ | exact ⟨rfl, _, Eq.trans (World.drewN_drewN _ _ _) (congrArg (World.drewN _) (Nat.add_assoc _ _ _))⟩)))
                                repeat (go_quiet (first | (go_at_call 22; (with_reducible refine (impl_IsCode.calls (rd t311 x22_2) true _ A41.out).mono ?_); rintro e w' ⟨rfl, ⟨nd, rfl⟩⟩; (try first | exact ⟨rfl, _, World.drewN_drewN _ _ _⟩ | exact ⟨rfl, _, Eq.trans (World.drewN_drewN _ _ _) (congrArg (World.drewN _) (Nat.add_assoc _ _ _))⟩))); try go_wp2_with (first | (go_at_call 22; (with_reducible refine (impl_IsCode.calls (rd t311 x22_2) true _ A41.out).mono ?_); rintro e w' ⟨rfl, ⟨nd, rfl⟩⟩; (try first | exact ⟨rfl, _, World.drewN_drewN _ _ _⟩ | exact ⟨rfl, _, Eq.trans (World.drewN_drewN _ _ _) (congrArg (World.drewN _) (Nat.add_assoc _ _ _))⟩))))
                                go_roundg k3
                                case measure => have := HJ12.out; have := HK2.out; have := HK3.out; omega
                                case rel => exact ⟨(wrap64 (x22_2 + 1)), (by first | rfl | (simp; done) | (simp [*]; done)), H', ⟨by have := HJ12.out; have := HK2.out; have := HK3.out; omega⟩, ⟨by (with_reducible repeat (first | apply Kd.R_alloc | apply Kd.R_drewN | apply Kd.R_drew)); exact HO_3.out⟩, ⟨by (with_reducible repeat (first | apply Kd.R_alloc | apply Kd.R_drewN | apply Kd.R_drew)); exact HO_10.out⟩, ⟨by (with_reducible repeat (first | apply Kd.R_alloc | apply Kd.R_drewN | apply Kd.R_drew)); exact HO_18.out⟩, ⟨by repeat (first | (with_reducible first | exact HB.out | apply below_alloc | apply pw_below_drewN | apply below_drew1) | exact HB.out)⟩⟩
                              · replace c42 := Bool.eq_false_iff.mpr c42
                                subst c42
                                have H1 : (some false) = some r := by rw [if_neg (show ¬ (false = true) by decide)] at H; exact H
                                clear H
                                have H := H1
                                clear H1
                                exact absurd ((Option.some.inj H).trans hr_.out) (by decide)
                            · rw [if_neg c40] at H
                              exact absurd H (by simp)
                          · rw [if_neg c39] at H
                            exact absurd H (by simp)
                        · rw [if_neg c38] at H
                          have c38b0 : (x23_3 == 1) = false := beq_eq_false_iff_ne.mpr c38
                          have c38b1 : (x23_3 != 1) = true := bne_iff_ne.mpr c38
                          exact absurd ((Option.some.inj H).trans hr_.out) (by decide)
                · rw [if_neg c34] at H
                  exact absurd H (by simp)
              · rw [if_neg c33] at H
                have c33b0 : decide (x22_2 < (t311.length : Int)) = false := decide_eq_false c33
                clear c33
                have HC43 := Aside0.mk H
                clear H
                obtain ⟨Ao44, co44, eo44⟩ := Kd.R_slice HO_18.out
                subst eo44
                go_upto_if 149 with (fail)
                repeat (go_quiet (fail); go_upto_if 149 with (fail))
                go_cut [] (fun wc => ∃ (kq : Nat), Aside0 (laws_FnReads.j4 kq t292 t293 t294 t297 t298 = some r) ∧ Aside0 (kq ≤ k2) ∧ Aside0 (Kd.R (Kd.int .i64) 2 wc w.heap.size (fun _ => True) (.slice Ao15 t292.length co15) t292) ∧ Aside0 (Below w.heap.size w wc))
                case first =>
                  have H := HC43.out
                  clear HC43
                  by_cases c45 : t306 = 0
                  · rw [if_pos c45] at H
                    have c45b0 : (t306 == 0) = true := beq_iff_eq.mpr c45
                    have c45b1 : (t306 != 0) = false := bne_eq_false_iff_eq.mpr c45
                    clear c45
                    (first | rw [c45b0] | (simp only [i64_w, i32_w]; rw [c45b0]) | skip)
                    have H' := Aside0.mk H
                    clear H
                    go_wp2
                    repeat (go_quiet (fail); try go_wp2)
                    go_loopg [27, 28] k2 (fun kq v27 v28 w' => ∃ (x27_3 : Int) (x28_3 : Int), v27 = .int .i64 x27_3 ∧ v28 = .int .i64 x28_3 ∧ Aside0 (laws_FnReads.l2 kq t292 t293 t294 t297 t298 t301 t304 t305 x27_3 x28_3 = some r) ∧ Aside0 (kq ≤ k2) ∧ Aside0 (Kd.R (Kd.int .i64) 2 w' w.heap.size (fun k_ => some k_ ≠ ((.slice Ao18 t301.length co18) : Value).ownBlock) (.slice Ao15 t292.length co15) t292) ∧ Aside0 (Kd.R (Kd.int .i64) 2 w' w.heap.size (fun k_ => some k_ ≠ ((.slice Ao15 t292.length co15) : Value).ownBlock) (.slice Ao18 t301.length co18) t301) ∧ Aside0 (Below w.heap.size w w'))
                    case atStart => exact ⟨(0), (0), (by first | rfl | (simp; done) | (simp [*]; done)), (by first | rfl | (simp; done) | (simp [*]; done)), H', ⟨Nat.le_refl _⟩, ⟨by (with_reducible repeat (first | apply Kd.R_alloc | apply Kd.R_drewN | apply Kd.R_drew)); exact Kd.R_mono HO_3.out (fun _ hk => hk.1)⟩, ⟨by (with_reducible repeat (first | apply Kd.R_alloc | apply Kd.R_drewN | apply Kd.R_drew)); exact Kd.R_mono HO_10.out (fun _ hk => hk.1)⟩, ⟨by repeat (first | (with_reducible first | exact HB.out | apply below_alloc | apply pw_below_drewN | apply below_drew1) | exact HB.out)⟩⟩
                    case round =>
                      clear H'
                      try clear c2
                      try clear p2
                      try clear c3
                      try clear p3
                      try clear q3
                      try clear hx3
                      try clear c4
                      try clear c6
                      try clear p6
                      try clear c23
                      try clear c23b0
                      try clear c23b1
                      try clear c24
                      try clear c24b0
                      try clear c24b1
                      try clear c25
                      try clear c25b0
                      try clear c25b1
                      try clear c26
                      try clear c26b0
                      try clear c26b1
                      try clear c27
                      try clear c27b0
                      try clear c27b1
                      try clear c28
                      try clear c28b0
                      try clear c28b1
                      try clear c32
                      try clear p32
                      try clear q32
                      try clear hx32
                      try clear c33
                      try clear c33b0
                      try clear c34
                      try clear c34b0
                      try clear c36
                      try clear c36b0
                      try clear c37
                      try clear c37b0
                      try clear c37b1
                      try clear c38
                      try clear c38b0
                      try clear c38b1
                      try clear c39
                      try clear c39b0
                      try clear c40
                      try clear c40b0
                      try clear c42
                      try clear c45
                      try clear c45b0
                      try clear c45b1
                      try clear hx320_0
                      try clear hx321_0
                      try clear p2
                      try clear p3
                      try clear p32
                      try clear p320
                      try clear p321
                      try clear q3
                      try clear q32
                      try clear q320
                      try clear q321
                      obtain ⟨x27_3, x28_3, rfl, rfl, HA, HK3, HO_3, HO_10, HB⟩ := hrel
                      cases gk with
                      | zero => exact absurd HA.out (by simp [laws_FnReads.l2])
                      | succ k3 =>
                        have H := HA.out
                        clear HA
                        simp only [laws_FnReads.l2] at H
                        by_cases c46 : x28_3 < (t301.length : Int)
                        · rw [if_pos c46] at H
                          have c46b0 : decide (x28_3 < (t301.length : Int)) = true := decide_eq_true c46
                          clear c46
                          by_cases c47 : 0 ≤ x28_3
                          · rw [if_pos c47] at H
                            have c47b0 : decide (0 ≤ x28_3) = true := decide_eq_true c47
                            clear c47
                            by_cases c48 : (rd t301 x28_3) = t304
                            · rw [if_pos c48] at H
                              have c48b0 : ((rd t301 x28_3) == t304) = true := beq_iff_eq.mpr c48
                              have c48b1 : ((rd t301 x28_3) != t304) = false := bne_eq_false_iff_eq.mpr c48
                              clear c48
                              have H' := Aside0.mk H
                              clear H
                              have p323 : 0 ≤ (x28_3 : Int) := of_decide_eq_true (by first | (with_reducible assumption) | assumption)
                              have q323 : x28_3 < (t301.length : Int) := of_decide_eq_true (by first | (with_reducible assumption) | assumption)
                              obtain ⟨ad323, e323, hx323_0⟩ := Kd.at_int (Kd.R_reads' HO_10.out).2.2 x28_3 p323 q323
                              cases e323
                              replace p323 := eq_true p323
                              replace q323 := eq_true q323
                              go_wp2
                              repeat (go_quiet (fail); try go_wp2)
                              go_roundg k3
                              case measure => have := HJ12.out; have := HK2.out; have := HK3.out; omega
                              case rel => exact ⟨(wrap64 (x27_3 + 1)), (wrap64 (x28_3 + 1)), (by first | rfl | (simp; done) | (simp [*]; done)), (by first | rfl | (simp; done) | (simp [*]; done)), H', ⟨by have := HJ12.out; have := HK2.out; have := HK3.out; omega⟩, ⟨by (with_reducible repeat (first | apply Kd.R_alloc | apply Kd.R_drewN | apply Kd.R_drew)); exact HO_3.out⟩, ⟨by (with_reducible repeat (first | apply Kd.R_alloc | apply Kd.R_drewN | apply Kd.R_drew)); exact HO_10.out⟩, ⟨by repeat (first | (with_reducible first | exact HB.out | apply below_alloc | apply pw_below_drewN | apply below_drew1) | exact HB.out)⟩⟩
                            · rw [if_neg c48] at H
                              have c48b0 : ((rd t301 x28_3) == t304) = false := beq_eq_false_iff_ne.mpr c48
                              have c48b1 : ((rd t301 x28_3) != t304) = true := bne_iff_ne.mpr c48
                              have H' := Aside0.mk H
                              clear H
                              have p323 : 0 ≤ (x28_3 : Int) := of_decide_eq_true (by first | (with_reducible assumption) | assumption)
                              have q323 : x28_3 < (t301.length : Int) := of_decide_eq_true (by first | (with_reducible assumption) | assumption)
                              obtain ⟨ad323, e323, hx323_0⟩ := Kd.at_int (Kd.R_reads' HO_10.out).2.2 x28_3 p323 q323
                              cases e323
                              replace p323 := eq_true p323
                              replace q323 := eq_true q323
                              go_wp2
                              repeat (go_quiet (fail); try go_wp2)
                              go_roundg k3
                              case measure => have := HJ12.out; have := HK2.out; have := HK3.out; omega
                              case rel => exact ⟨(x27_3), (wrap64 (x28_3 + 1)), (by first | rfl | (simp; done) | (simp [*]; done)), (by first | rfl | (simp; done) | (simp [*]; done)), H', ⟨by have := HJ12.out; have := HK2.out; have := HK3.out; omega⟩, ⟨by (with_reducible repeat (first | apply Kd.R_alloc | apply Kd.R_drewN | apply Kd.R_drew)); exact HO_3.out⟩, ⟨by (with_reducible repeat (first | apply Kd.R_alloc | apply Kd.R_drewN | apply Kd.R_drew)); exact HO_10.out⟩, ⟨by repeat (first | (with_reducible first | exact HB.out | apply below_alloc | apply pw_below_drewN | apply below_drew1) | exact HB.out)⟩⟩
                          · rw [if_neg c47] at H
                            exact absurd H (by simp)
                        · rw [if_neg c46] at H
                          have c46b0 : decide (x28_3 < (t301.length : Int)) = false := decide_eq_false c46
                          clear c46
                          by_cases c49 : x27_3 = t305
                          · rw [if_pos c49] at H
                            have c49b0 : (x27_3 == t305) = true := beq_iff_eq.mpr c49
                            have c49b1 : (x27_3 != t305) = false := bne_eq_false_iff_eq.mpr c49
                            clear c49
                            replace H := Option.bind_eq_some_iff.mp H
                            obtain ⟨t324, A500, H⟩ := H
                            replace H : (if t324 = true then (laws_FnReads.j4 k3 t292 t293 t294 t297 t298) else (some false)) = some r := H
                            have A50 := Aside0.mk A500
                            clear A500
                            by_cases c51 : t324 = true
                            · subst c51
                              have H1 : (laws_FnReads.j4 k3 t292 t293 t294 t297 t298) = some r := by rw [if_pos rfl] at H; exact H
                              clear H
                              have H := H1
                              clear H1
                              have H' := Aside0.mk H
                              clear H
                              go_wp2_with (first | (go_at_call 22; (with_reducible refine (impl_IsCode.calls t304 true _ A50.out).mono ?_); rintro e w' ⟨rfl, ⟨nd, rfl⟩⟩; (try first | exact ⟨rfl, _, World.drewN_drewN _ _ _⟩ | exact ⟨rfl, _, Eq.trans (World.drewN_drewN _ _ _) (congrArg (World.drewN _) (Nat.add_assoc _ _ _))⟩)))
                              repeat (go_quiet (first | (go_at_call 22; (with_reducible refine (impl_IsCode.calls t304 true _ A50.out).mono ?_); rintro e w' ⟨rfl, ⟨nd, rfl⟩⟩; (try first | exact ⟨rfl, _, World.drewN_drewN _ _ _⟩ | exact ⟨rfl, _, Eq.trans (World.drewN_drewN _ _ _) (congrArg (World.drewN _) (Nat.add_assoc _ _ _))⟩))); try go_wp2_with (first | (go_at_call 22; (with_reducible refine (impl_IsCode.calls t304 true _ A50.out).mono ?_); rintro e w' ⟨rfl, ⟨nd, rfl⟩⟩; (try first | exact ⟨rfl, _, World.drewN_drewN _ _ _⟩ | exact ⟨rfl, _, Eq.trans (World.drewN_drewN _ _ _) (congrArg (World.drewN _) (Nat.add_assoc _ _ _))⟩))))
                              go_meet
                              case rel => exact ⟨_, H', ⟨by have := HJ12.out; have := HK2.out; have := HK3.out; first | omega | exact Nat.le_refl _⟩, ⟨by (with_reducible repeat (first | apply Kd.R_alloc | apply Kd.R_drewN | apply Kd.R_drew)); exact Kd.R_mono HO_3.out (fun _ hk => trivial)⟩, ⟨by repeat (first | (with_reducible first | exact HB.out | apply below_alloc | apply pw_below_drewN | apply below_drew1) | exact HB.out)⟩⟩
                            · replace c51 := Bool.eq_false_iff.mpr c51
                              subst c51
                              have H1 : (some false) = some r := by rw [if_neg (show ¬ (false = true) by decide)] at H; exact H
                              clear H
                              have H := H1
                              clear H1
                              exact absurd ((Option.some.inj H).trans hr_.out) (by decide)
                          · rw [if_neg c49] at H
                            have c49b0 : (x27_3 == t305) = false := beq_eq_false_iff_ne.mpr c49
                            have c49b1 : (x27_3 != t305) = true := bne_iff_ne.mpr c49
                            exact absurd ((Option.some.inj H).trans hr_.out) (by decide)
                  · rw [if_neg c45] at H
                    have c45b0 : (t306 == 0) = false := beq_eq_false_iff_ne.mpr c45
                    have c45b1 : (t306 != 0) = true := bne_iff_ne.mpr c45
                    (first | rw [c45b0] | (simp only [i64_w, i32_w]; rw [c45b0]) | skip)
                    have H' := Aside0.mk H
                    clear H
                    go_wp2
                    repeat (go_quiet (fail); try go_wp2)
                    go_meet
                    case rel => exact ⟨_, H', ⟨by have := HJ12.out; have := HK2.out; first | omega | exact Nat.le_refl _⟩, ⟨by (with_reducible repeat (first | apply Kd.R_alloc | apply Kd.R_drewN | apply Kd.R_drew)); exact Kd.R_mono HO_3.out (fun _ hk => trivial)⟩, ⟨by repeat (first | (with_reducible first | exact HB.out | apply below_alloc | apply pw_below_drewN | apply below_drew1) | exact HB.out)⟩⟩
                case rest =>
                  clear HC43
                  try clear c2
                  try clear p2
                  try clear c3
                  try clear p3
                  try clear q3
                  try clear hx3
                  try clear c4
                  try clear c5
                  try clear c6
                  try clear p6
                  try clear c23
                  try clear c23b0
                  try clear c23b1
                  try clear c24
                  try clear c24b0
                  try clear c24b1
                  try clear c25
                  try clear c25b0
                  try clear c25b1
                  try clear c26
                  try clear c26b0
                  try clear c26b1
                  try clear c27
                  try clear c27b0
                  try clear c27b1
                  try clear c28
                  try clear c28b0
                  try clear c28b1
                  try clear c32
                  try clear p32
                  try clear q32
                  try clear hx32
                  try clear c33
                  try clear c33b0
                  try clear c34
                  try clear c34b0
                  try clear c36
                  try clear c36b0
                  try clear c37
                  try clear c37b0
                  try clear c37b1
                  try clear c38
                  try clear c38b0
                  try clear c38b1
                  try clear c39
                  try clear c39b0
                  try clear c40
                  try clear c40b0
                  try clear c42
                  try clear c45
                  try clear c45b0
                  try clear c45b1
                  try clear c46
                  try clear c46b0
                  try clear c47
                  try clear c47b0
                  try clear c48
                  try clear c48b0
                  try clear c48b1
                  try clear c49
                  try clear c49b0
                  try clear c49b1
                  try clear c51
                  try clear hx320_0
                  try clear hx321_0
                  try clear hx323_0
                  try clear p2
                  try clear p3
                  try clear p32
                  try clear p320
                  try clear p321
                  try clear p323
                  try clear p6
                  try clear q3
                  try clear q32
                  try clear q320
                  try clear q321
                  try clear q323
                  obtain ⟨kq, HA, HJ42, HO_3, HB⟩ := hcut
                  cases kq with
                  | zero => exact absurd HA.out (by simp [laws_FnReads.j4])
                  | succ kj42 =>
                    have H := HA.out
                    clear HA
                    simp only [laws_FnReads.j4] at H
                    by_cases c52 : t298 = 0
                    · rw [if_pos c52] at H
                      have c52b0 : (t298 == 0) = true := beq_iff_eq.mpr c52
                      have c52b1 : (t298 != 0) = false := bne_eq_false_iff_eq.mpr c52
                      clear c52
                      have H' := Aside0.mk H
                      clear H
                      go_wp2
                      repeat (go_quiet (fail); try go_wp2)
                      go_loopg [29] kj42 (fun kq v29 w' => ∃ (x29_4 : Int), v29 = .int .i64 x29_4 ∧ Aside0 (laws_FnReads.l3 kq t292 t293 t297 x29_4 = some r) ∧ Aside0 (kq ≤ kj42) ∧ Aside0 (Kd.R (Kd.int .i64) 2 w' w.heap.size (fun _ => True) (.slice Ao15 t292.length co15) t292) ∧ Aside0 (Below w.heap.size w w'))
                      case atStart => exact ⟨(wrap64 ((wrap64 (t297 - t294)) + 1)), (by first | rfl | (simp; done) | (simp [*]; done)), H', ⟨Nat.le_refl _⟩, ⟨by (with_reducible repeat (first | apply Kd.R_alloc | apply Kd.R_drewN | apply Kd.R_drew)); exact HO_3.out⟩, ⟨by repeat (first | (with_reducible first | exact HB.out | apply below_alloc | apply pw_below_drewN | apply below_drew1) | exact HB.out)⟩⟩
                      case round =>
                        clear H'
                        try clear c2
                        try clear p2
                        try clear c3
                        try clear p3
                        try clear q3
                        try clear hx3
                        try clear c4
                        try clear c5
                        try clear c6
                        try clear p6
                        try clear c23
                        try clear c23b0
                        try clear c23b1
                        try clear c24
                        try clear c24b0
                        try clear c24b1
                        try clear c25
                        try clear c25b0
                        try clear c25b1
                        try clear c26
                        try clear c26b0
                        try clear c26b1
                        try clear c27
                        try clear c27b0
                        try clear c27b1
                        try clear c28
                        try clear c28b0
                        try clear c28b1
                        try clear c32
                        try clear p32
                        try clear q32
                        try clear hx32
                        try clear c33
                        try clear c33b0
                        try clear c34
                        try clear c34b0
                        try clear c36
                        try clear c36b0
                        try clear c37
                        try clear c37b0
                        try clear c37b1
                        try clear c38
                        try clear c38b0
                        try clear c38b1
                        try clear c39
                        try clear c39b0
                        try clear c40
                        try clear c40b0
                        try clear c42
                        try clear c45
                        try clear c45b0
                        try clear c45b1
                        try clear c46
                        try clear c46b0
                        try clear c47
                        try clear c47b0
                        try clear c48
                        try clear c48b0
                        try clear c48b1
                        try clear c49
                        try clear c49b0
                        try clear c49b1
                        try clear c51
                        try clear c52
                        try clear c52b0
                        try clear c52b1
                        try clear hx320_0
                        try clear hx321_0
                        try clear hx323_0
                        try clear p2
                        try clear p3
                        try clear p32
                        try clear p320
                        try clear p321
                        try clear p323
                        try clear p6
                        try clear q3
                        try clear q32
                        try clear q320
                        try clear q321
                        try clear q323
                        obtain ⟨x29_4, rfl, HA, HK4, HO_3, HB⟩ := hrel
                        cases gk with
                        | zero => exact absurd HA.out (by simp [laws_FnReads.l3])
                        | succ k4 =>
                          have H := HA.out
                          clear HA
                          simp only [laws_FnReads.l3] at H
                          by_cases c53 : x29_4 ≤ t297
                          · rw [if_pos c53] at H
                            have c53b0 : decide (x29_4 ≤ t297) = true := decide_eq_true c53
                            clear c53
                            by_cases c54 : 0 ≤ x29_4
                            · rw [if_pos c54] at H
                              have c54b0 : decide (0 ≤ x29_4) = true := decide_eq_true c54
                              clear c54
                              by_cases c55 : x29_4 < (t292.length : Int)
                              · rw [if_pos c55] at H
                                have c55b0 : decide (x29_4 < (t292.length : Int)) = true := decide_eq_true c55
                                clear c55
                                by_cases c56 : (rd t292 x29_4) = t293
                                · rw [if_pos c56] at H
                                  have c56b0 : ((rd t292 x29_4) == t293) = true := beq_iff_eq.mpr c56
                                  have c56b1 : ((rd t292 x29_4) != t293) = false := bne_eq_false_iff_eq.mpr c56
                                  clear c56
                                  exact absurd ((Option.some.inj H).trans hr_.out) (by decide)
                                · rw [if_neg c56] at H
                                  have c56b0 : ((rd t292 x29_4) == t293) = false := beq_eq_false_iff_ne.mpr c56
                                  have c56b1 : ((rd t292 x29_4) != t293) = true := bne_iff_ne.mpr c56
                                  have H' := Aside0.mk H
                                  clear H
                                  have p325 : 0 ≤ (x29_4 : Int) := of_decide_eq_true (by first | (with_reducible assumption) | assumption)
                                  have q325 : x29_4 < (t292.length : Int) := of_decide_eq_true (by first | (with_reducible assumption) | assumption)
                                  obtain ⟨ad325, e325, hx325_0⟩ := Kd.at_int (Kd.R_reads' HO_3.out).2.2 x29_4 p325 q325
                                  cases e325
                                  replace p325 := eq_true p325
                                  replace q325 := eq_true q325
                                  go_wp2
                                  repeat (go_quiet (fail); try go_wp2)
                                  go_roundg k4
                                  case measure => have := HJ12.out; have := HK2.out; have := HJ42.out; have := HK4.out; omega
                                  case rel => exact ⟨(wrap64 (x29_4 + 1)), (by first | rfl | (simp; done) | (simp [*]; done)), H', ⟨by have := HJ12.out; have := HK2.out; have := HJ42.out; have := HK4.out; omega⟩, ⟨by (with_reducible repeat (first | apply Kd.R_alloc | apply Kd.R_drewN | apply Kd.R_drew)); exact HO_3.out⟩, ⟨by repeat (first | (with_reducible first | exact HB.out | apply below_alloc | apply pw_below_drewN | apply below_drew1) | exact HB.out)⟩⟩
                              · rw [if_neg c55] at H
                                exact absurd H (by simp)
                            · rw [if_neg c54] at H
                              exact absurd H (by simp)
                          · rw [if_neg c53] at H
                            have c53b0 : decide (x29_4 ≤ t297) = false := decide_eq_false c53
                            clear c53
                            obtain rfl := Option.some.inj H
                            go_wp2
                            repeat (go_quiet (fail); try go_wp2)
                            go_ret
                            exact ⟨by first | rfl | (simp [errW_none, errW_some] <;> rfl) | (simp [*, errW_none, errW_some] <;> rfl), by repeat (first | (with_reducible first | exact HB.out | apply below_alloc | apply pw_below_drewN | apply below_drew1) | exact HB.out)⟩
                    · rw [if_neg c52] at H
                      have c52b0 : (t298 == 0) = false := beq_eq_false_iff_ne.mpr c52
                      have c52b1 : (t298 != 0) = true := bne_iff_ne.mpr c52
                      obtain rfl := Option.some.inj H
                      go_wp2
                      repeat (go_quiet (fail); try go_wp2)
                      go_ret
                      exact ⟨by first | rfl | (simp [errW_none, errW_some] <;> rfl) | (simp [*, errW_none, errW_some] <;> rfl), by repeat (first | (with_reducible first | exact HB.out | apply below_alloc | apply pw_below_drewN | apply below_drew1) | exact HB.out)⟩

end Go.Proofs.Ytnnglnphkbpemaa.PFnReads
