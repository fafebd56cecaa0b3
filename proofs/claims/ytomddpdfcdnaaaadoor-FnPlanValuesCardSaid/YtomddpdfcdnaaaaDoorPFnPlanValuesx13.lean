import Derived.Test.YtomddpdfcdnaaaaDoorPFnPlanValuesx0
import Derived.Test.YtomddpdfcdnaaaaDoorPFnPlanValuesx3
import Derived.Test.YtomddpdfcdnaaaaDoorPFnPlanValuesx4
import Derived.Test.YtomddpdfcdnaaaaDoorPFnPlanValuesx6
import Derived.Test.YtomddpdfcdnaaaaDoorPFnPlanValuesx7
import Derived.Test.YtomddpdfcdnaaaaDoorPFnPlanValuesx12
namespace Go.Proofs.YtomddpdfcdnaaaaDoor.PFnPlanValues
open Go.RowKit Go.Proofs.YtomddpdfcdnaaaaDoorW.PrintWords Go.Proofs.YtomddpdfcdnaaaaDoorW.PrintLast Go.Proofs.YtomddpdfcdnaaaaDoorW.PrintMore
attribute [local go_sem] max2_int min2_int max_two min_two max_three min_three max_four min_four   -- for this text's walks alone
set_option linter.unusedVariables false
set_option linter.unusedSimpArgs false

mutual
def laws_FnPlanValues.j0 : Nat → Int → Int → List (S50) → Int → Int → List Int → Int → Bool → Option (Bool)
 | 0, _, _, _, _, _, _, _, _ => none
 | k + 1, x3, x4, x5, x7, x8, x11, x15, x119 => if x119 = true then (some false) else (if x8 = 0 then (laws_FnPlanValues.l0 k x3 x4 x5 x7 x11 x15 0 x15 0) else (some true))
def laws_FnPlanValues.l0 : Nat → Int → Int → List (S50) → Int → List Int → Int → Int → Int → Int → Option (Bool)
 | 0, _, _, _, _, _, _, _, _, _ => none
 | k + 1, x3, x4, x5, x7, x11, x15, x19, x20, x21 => if x21 < (x11.length : Int) then (if 0 ≤ x21 then (if x21 < (x5.length : Int) then (laws_FnPlanValues.l0 k x3 x4 x5 x7 x11 x15 (wrap64 (x19 + (wrap64 ((rd x11 x21) * ((rd_T50 x5 x21).f2))))) (wrap64 (x20 + (wrap64 ((wrap64 ((rd x11 x21) * ((rd_T50 x5 x21).f0))) * ((rd_T50 x5 x21).f1))))) (wrap64 (x21 + 1))) else (none)) else (none)) else ((impl_BestValue.f x3 x4 x5).bind fun bt429 => (if x19 = x7 then (if x20 = (wrap64 (x3 * x4)) then (if x15 ≥ 0 then (if bt429.2 = 0 then (some (decide (x7 ≤ bt429.1))) else (some false)) else (some false)) else (some false)) else (some false)))
end
def laws_FnPlanValues.f (k : Nat) (l0 : List Int) : Option (Bool) := (laws_big.f l0).bind fun t400 => (if t400 = true then (some true) else ((spec_DrawPlanValue.f k l0).bind fun bt401 => ((impl_PlanValue.f k bt401.1 bt401.2.1 bt401.2.2.1 bt401.2.2.2).bind fun bt407 => ((spec_PlanValue.f k bt401.1 bt401.2.1 bt401.2.2.1 bt401.2.2.2).bind fun bt409 => ((impl_PlanCounts.f k bt401.1 bt401.2.1 bt401.2.2.1 bt401.2.2.2).bind fun bt411 => ((spec_PlanCounts.f k bt401.1 bt401.2.1 bt401.2.2.1 bt401.2.2.2).bind fun bt415 => ((impl_PlanWaste.f k bt401.1 bt401.2.1 bt401.2.2.1 bt401.2.2.2).bind fun bt419 => ((spec_PlanWaste.f k bt401.1 bt401.2.1 bt401.2.2.1 bt401.2.2.2).bind fun bt421 => (if bt407.2 = bt409.2 then (if bt407.1 = bt409.1 then (if bt411.2 = bt415.2 then ((laws_likeInts.f k bt411.1 bt415.1).bind fun t423 => (if t423 = true then (if bt419.2 = bt421.2 then (if bt419.1 = bt421.1 then (if bt411.2 = bt407.2 then (laws_FnPlanValues.j0 k bt401.1 bt401.2.1 bt401.2.2.1 bt407.1 bt407.2 bt411.1 bt419.1 (bt419.2 != bt407.2)) else (laws_FnPlanValues.j0 k bt401.1 bt401.2.1 bt401.2.2.1 bt407.1 bt407.2 bt411.1 bt419.1 true)) else (laws_FnPlanValues.j0 k bt401.1 bt401.2.1 bt401.2.2.1 bt407.1 bt407.2 bt411.1 bt419.1 true)) else (laws_FnPlanValues.j0 k bt401.1 bt401.2.1 bt401.2.2.1 bt407.1 bt407.2 bt411.1 bt419.1 true)) else (laws_FnPlanValues.j0 k bt401.1 bt401.2.1 bt401.2.2.1 bt407.1 bt407.2 bt411.1 bt419.1 true))) else (laws_FnPlanValues.j0 k bt401.1 bt401.2.1 bt401.2.2.1 bt407.1 bt407.2 bt411.1 bt419.1 true)) else (laws_FnPlanValues.j0 k bt401.1 bt401.2.1 bt401.2.2.1 bt407.1 bt407.2 bt411.1 bt419.1 true)) else (laws_FnPlanValues.j0 k bt401.1 bt401.2.1 bt401.2.2.1 bt407.1 bt407.2 bt411.1 bt419.1 true))))))))))
theorem laws_FnPlanValues.mono_l : ∀ k, (∀ y0 y1 y2 y3 y4 y5 y6 y7, LeO (laws_FnPlanValues.j0 k y0 y1 y2 y3 y4 y5 y6 y7) (laws_FnPlanValues.j0 (k + 1) y0 y1 y2 y3 y4 y5 y6 y7)) ∧ (∀ y0 y1 y2 y3 y4 y5 y6 y7 y8, LeO (laws_FnPlanValues.l0 k y0 y1 y2 y3 y4 y5 y6 y7 y8) (laws_FnPlanValues.l0 (k + 1) y0 y1 y2 y3 y4 y5 y6 y7 y8))
 | 0 => ⟨fun _ _ _ _ _ _ _ _ r h => by simp [laws_FnPlanValues.j0] at h, fun _ _ _ _ _ _ _ _ _ r h => by simp [laws_FnPlanValues.l0] at h⟩
 | k + 1 => by
  obtain ⟨ih0, ih1⟩ := laws_FnPlanValues.mono_l k
  refine ⟨?_, ?_⟩
  ·intro y0 y1 y2 y3 y4 y5 y6 y7
   unfold laws_FnPlanValues.j0
   repeat' first
   | (with_reducible exact ih0 _ _ _ _ _ _ _ _)
   | (with_reducible exact ih1 _ _ _ _ _ _ _ _ _)
   | (with_reducible exact impl_PlanCounts.mono _ _ _ _ _)
   | (with_reducible exact impl_PlanValue.mono _ _ _ _ _)
   | (with_reducible exact impl_PlanWaste.mono _ _ _ _ _)
   | (with_reducible exact laws_likeInts.mono _ _ _)
   | (with_reducible exact spec_DrawPlanValue.mono _ _)
   | (with_reducible exact spec_PlanCounts.mono _ _ _ _ _)
   | (with_reducible exact spec_PlanValue.mono _ _ _ _ _)
   | (with_reducible exact spec_PlanWaste.mono _ _ _ _ _)
   | (with_reducible exact LeO.refl _)
   | (with_reducible exact LeO.none _)
   | (with_reducible refine LeO.ite ?_ ?_)
   | (with_reducible refine LeO.bind ?_ (fun _ => ?_))
   | exact ih0 _ _ _ _ _ _ _ _
   | exact ih1 _ _ _ _ _ _ _ _ _
   | exact impl_PlanCounts.mono _ _ _ _ _
   | exact impl_PlanValue.mono _ _ _ _ _
   | exact impl_PlanWaste.mono _ _ _ _ _
   | exact laws_likeInts.mono _ _ _
   | exact spec_DrawPlanValue.mono _ _
   | exact spec_PlanCounts.mono _ _ _ _ _
   | exact spec_PlanValue.mono _ _ _ _ _
   | exact spec_PlanWaste.mono _ _ _ _ _
   | exact LeO.none _
   | refine LeO.ite ?_ ?_
   | refine LeO.bind ?_ (fun _ => ?_)
  ·intro y0 y1 y2 y3 y4 y5 y6 y7 y8
   unfold laws_FnPlanValues.l0
   repeat' first
   | (with_reducible exact ih0 _ _ _ _ _ _ _ _)
   | (with_reducible exact ih1 _ _ _ _ _ _ _ _ _)
   | (with_reducible exact impl_PlanCounts.mono _ _ _ _ _)
   | (with_reducible exact impl_PlanValue.mono _ _ _ _ _)
   | (with_reducible exact impl_PlanWaste.mono _ _ _ _ _)
   | (with_reducible exact laws_likeInts.mono _ _ _)
   | (with_reducible exact spec_DrawPlanValue.mono _ _)
   | (with_reducible exact spec_PlanCounts.mono _ _ _ _ _)
   | (with_reducible exact spec_PlanValue.mono _ _ _ _ _)
   | (with_reducible exact spec_PlanWaste.mono _ _ _ _ _)
   | (with_reducible exact LeO.refl _)
   | (with_reducible exact LeO.none _)
   | (with_reducible refine LeO.ite ?_ ?_)
   | (with_reducible refine LeO.bind ?_ (fun _ => ?_))
   | exact ih0 _ _ _ _ _ _ _ _
   | exact ih1 _ _ _ _ _ _ _ _ _
   | exact impl_PlanCounts.mono _ _ _ _ _
   | exact impl_PlanValue.mono _ _ _ _ _
   | exact impl_PlanWaste.mono _ _ _ _ _
   | exact laws_likeInts.mono _ _ _
   | exact spec_DrawPlanValue.mono _ _
   | exact spec_PlanCounts.mono _ _ _ _ _
   | exact spec_PlanValue.mono _ _ _ _ _
   | exact spec_PlanWaste.mono _ _ _ _ _
   | exact LeO.none _
   | refine LeO.ite ?_ ?_
   | refine LeO.bind ?_ (fun _ => ?_)
theorem laws_FnPlanValues.mono : ∀ a0 k, LeO (laws_FnPlanValues.f k a0) (laws_FnPlanValues.f (k + 1) a0) := by
 intro a0 k
 obtain ⟨ih0, ih1⟩ := laws_FnPlanValues.mono_l k
 unfold laws_FnPlanValues.f
 repeat' first
   | (with_reducible exact ih0 _ _ _ _ _ _ _ _)
   | (with_reducible exact ih1 _ _ _ _ _ _ _ _ _)
   | (with_reducible exact impl_PlanCounts.mono _ _ _ _ _)
   | (with_reducible exact impl_PlanValue.mono _ _ _ _ _)
   | (with_reducible exact impl_PlanWaste.mono _ _ _ _ _)
   | (with_reducible exact laws_likeInts.mono _ _ _)
   | (with_reducible exact spec_DrawPlanValue.mono _ _)
   | (with_reducible exact spec_PlanCounts.mono _ _ _ _ _)
   | (with_reducible exact spec_PlanValue.mono _ _ _ _ _)
   | (with_reducible exact spec_PlanWaste.mono _ _ _ _ _)
   | (with_reducible exact LeO.refl _)
   | (with_reducible exact LeO.none _)
   | (with_reducible refine LeO.ite ?_ ?_)
   | (with_reducible refine LeO.bind ?_ (fun _ => ?_))
   | exact ih0 _ _ _ _ _ _ _ _
   | exact ih1 _ _ _ _ _ _ _ _ _
   | exact impl_PlanCounts.mono _ _ _ _ _
   | exact impl_PlanValue.mono _ _ _ _ _
   | exact impl_PlanWaste.mono _ _ _ _ _
   | exact laws_likeInts.mono _ _ _
   | exact spec_DrawPlanValue.mono _ _
   | exact spec_PlanCounts.mono _ _ _ _ _
   | exact spec_PlanValue.mono _ _ _ _ _
   | exact spec_PlanWaste.mono _ _ _ _ _
   | exact LeO.none _
   | refine LeO.ite ?_ ?_
   | refine LeO.bind ?_ (fun _ => ?_)
theorem laws_FnPlanValues.j0_no {k : Nat} {y0 : Int} {y1 : Int} {y2 : List (S50)} {y3 : Int} {y4 : Int} {y5 : List Int} {y6 : Int} {r : Bool} (h : laws_FnPlanValues.j0 k y0 y1 y2 y3 y4 y5 y6 true = some r) (hr : r = true) : False := by
 cases k with
 | zero => cases h
 | succ k => rw [laws_FnPlanValues.j0, if_pos rfl] at h; exact absurd ((Option.some.inj h).trans hr) (by decide)
set_option maxHeartbeats 8000000 in
set_option maxRecDepth 100000 in
theorem laws_FnPlanValues.calls (k : Nat) (A0 : Option Addr) (c0 : Nat) (l0 : List Int) (r : Bool) (w : World) (hT_ : TabL w) (hr0 : Kd.C (Kd.int .u8) w A0 l0.length l0) (hc0 : l0.length ≤ c0) (hr_ : Aside0 (r = true)) (h : laws_FnPlanValues.f k l0 = some r) :
  Calls Tryd.prog 8 #[.slice A0 l0.length c0] w fun e w' => e = .returned (.bool r) ∧ Below w.heap.size w w' := by
 have HR0 := Aside0.mk hr0
 have HC0 := Aside0.mk hc0
 clear hr0 hc0
 have HTL_ := Aside0.mk hT_
 clear hT_
 have HB := Aside0.mk (Below.refl w.heap.size w)
 have H : ((laws_big.f l0).bind fun t400 => (if t400 = true then (some true) else ((spec_DrawPlanValue.f k l0).bind fun bt401 => ((impl_PlanValue.f k bt401.1 bt401.2.1 bt401.2.2.1 bt401.2.2.2).bind fun bt407 => ((spec_PlanValue.f k bt401.1 bt401.2.1 bt401.2.2.1 bt401.2.2.2).bind fun bt409 => ((impl_PlanCounts.f k bt401.1 bt401.2.1 bt401.2.2.1 bt401.2.2.2).bind fun bt411 => ((spec_PlanCounts.f k bt401.1 bt401.2.1 bt401.2.2.1 bt401.2.2.2).bind fun bt415 => ((impl_PlanWaste.f k bt401.1 bt401.2.1 bt401.2.2.1 bt401.2.2.2).bind fun bt419 => ((spec_PlanWaste.f k bt401.1 bt401.2.1 bt401.2.2.1 bt401.2.2.2).bind fun bt421 => (if bt407.2 = bt409.2 then (if bt407.1 = bt409.1 then (if bt411.2 = bt415.2 then ((laws_likeInts.f k bt411.1 bt415.1).bind fun t423 => (if t423 = true then (if bt419.2 = bt421.2 then (if bt419.1 = bt421.1 then (if bt411.2 = bt407.2 then (laws_FnPlanValues.j0 k bt401.1 bt401.2.1 bt401.2.2.1 bt407.1 bt407.2 bt411.1 bt419.1 (bt419.2 != bt407.2)) else (laws_FnPlanValues.j0 k bt401.1 bt401.2.1 bt401.2.2.1 bt407.1 bt407.2 bt411.1 bt419.1 true)) else (laws_FnPlanValues.j0 k bt401.1 bt401.2.1 bt401.2.2.1 bt407.1 bt407.2 bt411.1 bt419.1 true)) else (laws_FnPlanValues.j0 k bt401.1 bt401.2.1 bt401.2.2.1 bt407.1 bt407.2 bt411.1 bt419.1 true)) else (laws_FnPlanValues.j0 k bt401.1 bt401.2.1 bt401.2.2.1 bt407.1 bt407.2 bt411.1 bt419.1 true))) else (laws_FnPlanValues.j0 k bt401.1 bt401.2.1 bt401.2.2.1 bt407.1 bt407.2 bt411.1 bt419.1 true)) else (laws_FnPlanValues.j0 k bt401.1 bt401.2.1 bt401.2.2.1 bt407.1 bt407.2 bt411.1 bt419.1 true)) else (laws_FnPlanValues.j0 k bt401.1 bt401.2.1 bt401.2.2.1 bt407.1 bt407.2 bt411.1 bt419.1 true))))))))))) = some r := h
 clear h
 replace H := Option.bind_eq_some_iff.mp H
 obtain ⟨t400, A20, H⟩ := H
 replace H : (if t400 = true then (some true) else ((spec_DrawPlanValue.f k l0).bind fun bt401 => ((impl_PlanValue.f k bt401.1 bt401.2.1 bt401.2.2.1 bt401.2.2.2).bind fun bt407 => ((spec_PlanValue.f k bt401.1 bt401.2.1 bt401.2.2.1 bt401.2.2.2).bind fun bt409 => ((impl_PlanCounts.f k bt401.1 bt401.2.1 bt401.2.2.1 bt401.2.2.2).bind fun bt411 => ((spec_PlanCounts.f k bt401.1 bt401.2.1 bt401.2.2.1 bt401.2.2.2).bind fun bt415 => ((impl_PlanWaste.f k bt401.1 bt401.2.1 bt401.2.2.1 bt401.2.2.2).bind fun bt419 => ((spec_PlanWaste.f k bt401.1 bt401.2.1 bt401.2.2.1 bt401.2.2.2).bind fun bt421 => (if bt407.2 = bt409.2 then (if bt407.1 = bt409.1 then (if bt411.2 = bt415.2 then ((laws_likeInts.f k bt411.1 bt415.1).bind fun t423 => (if t423 = true then (if bt419.2 = bt421.2 then (if bt419.1 = bt421.1 then (if bt411.2 = bt407.2 then (laws_FnPlanValues.j0 k bt401.1 bt401.2.1 bt401.2.2.1 bt407.1 bt407.2 bt411.1 bt419.1 (bt419.2 != bt407.2)) else (laws_FnPlanValues.j0 k bt401.1 bt401.2.1 bt401.2.2.1 bt407.1 bt407.2 bt411.1 bt419.1 true)) else (laws_FnPlanValues.j0 k bt401.1 bt401.2.1 bt401.2.2.1 bt407.1 bt407.2 bt411.1 bt419.1 true)) else (laws_FnPlanValues.j0 k bt401.1 bt401.2.1 bt401.2.2.1 bt407.1 bt407.2 bt411.1 bt419.1 true)) else (laws_FnPlanValues.j0 k bt401.1 bt401.2.1 bt401.2.2.1 bt407.1 bt407.2 bt411.1 bt419.1 true))) else (laws_FnPlanValues.j0 k bt401.1 bt401.2.1 bt401.2.2.1 bt407.1 bt407.2 bt411.1 bt419.1 true)) else (laws_FnPlanValues.j0 k bt401.1 bt401.2.1 bt401.2.2.1 bt407.1 bt407.2 bt411.1 bt419.1 true)) else (laws_FnPlanValues.j0 k bt401.1 bt401.2.1 bt401.2.2.1 bt407.1 bt407.2 bt411.1 bt419.1 true)))))))))) = some r := H
 have A2 := Aside0.mk A20
 clear A20
 by_cases c3 : t400 = true
 ·subst c3
  have H1 : (some true) = some r := by rw [if_pos rfl] at H; exact H
  clear H
  have H := H1
  clear H1
  obtain rfl := Option.some.inj H
  go_enter Tryd.func8, Tryd.ntmps8
  go_wp2_with (first | (go_at_call 24; (with_reducible refine (laws_big.calls _ _ l0 true _ ?side1 ?side2 A2.out).mono ?_); (case side1 => repeat (first | exact HR0.out | (with_reducible refine Kd.C_alloc ?_ _) | (with_reducible refine Kd.C_drewN ?_ _) | (with_reducible refine Kd.C_drew ?_))); (case side2 => exact HC0.out); rintro e w' ⟨rfl, ⟨nd, rfl⟩⟩; (try first | exact ⟨rfl, _, World.drewN_drewN _ _ _⟩ | exact ⟨rfl, _, Eq.trans (World.drewN_drewN _ _ _) (congrArg (World.drewN _) (Nat.add_assoc _ _ _))⟩)))
  repeat (go_quiet (first | (go_at_call 24; (with_reducible refine (laws_big.calls _ _ l0 true _ ?side1 ?side2 A2.out).mono ?_); (case side1 => repeat (first | exact HR0.out | (with_reducible refine Kd.C_alloc ?_ _) | (with_reducible refine Kd.C_drewN ?_ _) | (with_reducible refine Kd.C_drew ?_))); (case side2 => exact HC0.out); rintro e w' ⟨rfl, ⟨nd, rfl⟩⟩; (try first | exact ⟨rfl, _, World.drewN_drewN _ _ _⟩ | exact ⟨rfl, _, Eq.trans (World.drewN_drewN _ _ _) (congrArg (World.drewN _) (Nat.add_assoc _ _ _))⟩))); try go_wp2_with (first | (go_at_call 24; (with_reducible refine (laws_big.calls _ _ l0 true _ ?side1 ?side2 A2.out).mono ?_); (case side1 => repeat (first | exact HR0.out | (with_reducible refine Kd.C_alloc ?_ _) | (with_reducible refine Kd.C_drewN ?_ _) | (with_reducible refine Kd.C_drew ?_))); (case side2 => exact HC0.out); rintro e w' ⟨rfl, ⟨nd, rfl⟩⟩; (try first | exact ⟨rfl, _, World.drewN_drewN _ _ _⟩ | exact ⟨rfl, _, Eq.trans (World.drewN_drewN _ _ _) (congrArg (World.drewN _) (Nat.add_assoc _ _ _))⟩))))
  go_ret
  exact ⟨by first | rfl | (simp [errW_none, errW_some] <;> rfl) | (simp [*, errW_none, errW_some] <;> rfl), by repeat (first | (with_reducible first | exact HB.out | apply below_alloc | apply pw_below_drewN | apply below_drew1) | exact HB.out)⟩
 ·replace c3 := Bool.eq_false_iff.mpr c3
  subst c3
  have H1 : ((spec_DrawPlanValue.f k l0).bind fun bt401 => ((impl_PlanValue.f k bt401.1 bt401.2.1 bt401.2.2.1 bt401.2.2.2).bind fun bt407 => ((spec_PlanValue.f k bt401.1 bt401.2.1 bt401.2.2.1 bt401.2.2.2).bind fun bt409 => ((impl_PlanCounts.f k bt401.1 bt401.2.1 bt401.2.2.1 bt401.2.2.2).bind fun bt411 => ((spec_PlanCounts.f k bt401.1 bt401.2.1 bt401.2.2.1 bt401.2.2.2).bind fun bt415 => ((impl_PlanWaste.f k bt401.1 bt401.2.1 bt401.2.2.1 bt401.2.2.2).bind fun bt419 => ((spec_PlanWaste.f k bt401.1 bt401.2.1 bt401.2.2.1 bt401.2.2.2).bind fun bt421 => (if bt407.2 = bt409.2 then (if bt407.1 = bt409.1 then (if bt411.2 = bt415.2 then ((laws_likeInts.f k bt411.1 bt415.1).bind fun t423 => (if t423 = true then (if bt419.2 = bt421.2 then (if bt419.1 = bt421.1 then (if bt411.2 = bt407.2 then (laws_FnPlanValues.j0 k bt401.1 bt401.2.1 bt401.2.2.1 bt407.1 bt407.2 bt411.1 bt419.1 (bt419.2 != bt407.2)) else (laws_FnPlanValues.j0 k bt401.1 bt401.2.1 bt401.2.2.1 bt407.1 bt407.2 bt411.1 bt419.1 true)) else (laws_FnPlanValues.j0 k bt401.1 bt401.2.1 bt401.2.2.1 bt407.1 bt407.2 bt411.1 bt419.1 true)) else (laws_FnPlanValues.j0 k bt401.1 bt401.2.1 bt401.2.2.1 bt407.1 bt407.2 bt411.1 bt419.1 true)) else (laws_FnPlanValues.j0 k bt401.1 bt401.2.1 bt401.2.2.1 bt407.1 bt407.2 bt411.1 bt419.1 true))) else (laws_FnPlanValues.j0 k bt401.1 bt401.2.1 bt401.2.2.1 bt407.1 bt407.2 bt411.1 bt419.1 true)) else (laws_FnPlanValues.j0 k bt401.1 bt401.2.1 bt401.2.2.1 bt407.1 bt407.2 bt411.1 bt419.1 true)) else (laws_FnPlanValues.j0 k bt401.1 bt401.2.1 bt401.2.2.1 bt407.1 bt407.2 bt411.1 bt419.1 true))))))))) = some r := by rw [if_neg (show ¬ (false = true) by decide)] at H; exact H
  clear H
  have H := H1
  clear H1
  replace H := Option.bind_eq_some_iff.mp H
  obtain ⟨⟨t401, t402, t403, t404⟩, A40, H⟩ := H
  replace H : ((impl_PlanValue.f k t401 t402 t403 t404).bind fun bt407 => ((spec_PlanValue.f k t401 t402 t403 t404).bind fun bt409 => ((impl_PlanCounts.f k t401 t402 t403 t404).bind fun bt411 => ((spec_PlanCounts.f k t401 t402 t403 t404).bind fun bt415 => ((impl_PlanWaste.f k t401 t402 t403 t404).bind fun bt419 => ((spec_PlanWaste.f k t401 t402 t403 t404).bind fun bt421 => (if bt407.2 = bt409.2 then (if bt407.1 = bt409.1 then (if bt411.2 = bt415.2 then ((laws_likeInts.f k bt411.1 bt415.1).bind fun t423 => (if t423 = true then (if bt419.2 = bt421.2 then (if bt419.1 = bt421.1 then (if bt411.2 = bt407.2 then (laws_FnPlanValues.j0 k t401 t402 t403 bt407.1 bt407.2 bt411.1 bt419.1 (bt419.2 != bt407.2)) else (laws_FnPlanValues.j0 k t401 t402 t403 bt407.1 bt407.2 bt411.1 bt419.1 true)) else (laws_FnPlanValues.j0 k t401 t402 t403 bt407.1 bt407.2 bt411.1 bt419.1 true)) else (laws_FnPlanValues.j0 k t401 t402 t403 bt407.1 bt407.2 bt411.1 bt419.1 true)) else (laws_FnPlanValues.j0 k t401 t402 t403 bt407.1 bt407.2 bt411.1 bt419.1 true))) else (laws_FnPlanValues.j0 k t401 t402 t403 bt407.1 bt407.2 bt411.1 bt419.1 true)) else (laws_FnPlanValues.j0 k t401 t402 t403 bt407.1 bt407.2 bt411.1 bt419.1 true)) else (laws_FnPlanValues.j0 k t401 t402 t403 bt407.1 bt407.2 bt411.1 bt419.1 true)))))))) = some r := H
  have A4 := Aside0.mk A40
  clear A40
  replace H := Option.bind_eq_some_iff.mp H
  obtain ⟨⟨t407, t408⟩, A50, H⟩ := H
  replace H : ((spec_PlanValue.f k t401 t402 t403 t404).bind fun bt409 => ((impl_PlanCounts.f k t401 t402 t403 t404).bind fun bt411 => ((spec_PlanCounts.f k t401 t402 t403 t404).bind fun bt415 => ((impl_PlanWaste.f k t401 t402 t403 t404).bind fun bt419 => ((spec_PlanWaste.f k t401 t402 t403 t404).bind fun bt421 => (if t408 = bt409.2 then (if t407 = bt409.1 then (if bt411.2 = bt415.2 then ((laws_likeInts.f k bt411.1 bt415.1).bind fun t423 => (if t423 = true then (if bt419.2 = bt421.2 then (if bt419.1 = bt421.1 then (if bt411.2 = t408 then (laws_FnPlanValues.j0 k t401 t402 t403 t407 t408 bt411.1 bt419.1 (bt419.2 != t408)) else (laws_FnPlanValues.j0 k t401 t402 t403 t407 t408 bt411.1 bt419.1 true)) else (laws_FnPlanValues.j0 k t401 t402 t403 t407 t408 bt411.1 bt419.1 true)) else (laws_FnPlanValues.j0 k t401 t402 t403 t407 t408 bt411.1 bt419.1 true)) else (laws_FnPlanValues.j0 k t401 t402 t403 t407 t408 bt411.1 bt419.1 true))) else (laws_FnPlanValues.j0 k t401 t402 t403 t407 t408 bt411.1 bt419.1 true)) else (laws_FnPlanValues.j0 k t401 t402 t403 t407 t408 bt411.1 bt419.1 true)) else (laws_FnPlanValues.j0 k t401 t402 t403 t407 t408 bt411.1 bt419.1 true))))))) = some r := H
  have A5 := Aside0.mk A50
  clear A50
  replace H := Option.bind_eq_some_iff.mp H
  obtain ⟨⟨t409, t410⟩, A60, H⟩ := H
  replace H : ((impl_PlanCounts.f k t401 t402 t403 t404).bind fun bt411 => ((spec_PlanCounts.f k t401 t402 t403 t404).bind fun bt415 => ((impl_PlanWaste.f k t401 t402 t403 t404).bind fun bt419 => ((spec_PlanWaste.f k t401 t402 t403 t404).bind fun bt421 => (if t408 = t410 then (if t407 = t409 then (if bt411.2 = bt415.2 then ((laws_likeInts.f k bt411.1 bt415.1).bind fun t423 => (if t423 = true then (if bt419.2 = bt421.2 then (if bt419.1 = bt421.1 then (if bt411.2 = t408 then (laws_FnPlanValues.j0 k t401 t402 t403 t407 t408 bt411.1 bt419.1 (bt419.2 != t408)) else (laws_FnPlanValues.j0 k t401 t402 t403 t407 t408 bt411.1 bt419.1 true)) else (laws_FnPlanValues.j0 k t401 t402 t403 t407 t408 bt411.1 bt419.1 true)) else (laws_FnPlanValues.j0 k t401 t402 t403 t407 t408 bt411.1 bt419.1 true)) else (laws_FnPlanValues.j0 k t401 t402 t403 t407 t408 bt411.1 bt419.1 true))) else (laws_FnPlanValues.j0 k t401 t402 t403 t407 t408 bt411.1 bt419.1 true)) else (laws_FnPlanValues.j0 k t401 t402 t403 t407 t408 bt411.1 bt419.1 true)) else (laws_FnPlanValues.j0 k t401 t402 t403 t407 t408 bt411.1 bt419.1 true)))))) = some r := H
  have A6 := Aside0.mk A60
  clear A60
  replace H := Option.bind_eq_some_iff.mp H
  obtain ⟨⟨t411, t412⟩, A70, H⟩ := H
  replace H : ((spec_PlanCounts.f k t401 t402 t403 t404).bind fun bt415 => ((impl_PlanWaste.f k t401 t402 t403 t404).bind fun bt419 => ((spec_PlanWaste.f k t401 t402 t403 t404).bind fun bt421 => (if t408 = t410 then (if t407 = t409 then (if t412 = bt415.2 then ((laws_likeInts.f k t411 bt415.1).bind fun t423 => (if t423 = true then (if bt419.2 = bt421.2 then (if bt419.1 = bt421.1 then (if t412 = t408 then (laws_FnPlanValues.j0 k t401 t402 t403 t407 t408 t411 bt419.1 (bt419.2 != t408)) else (laws_FnPlanValues.j0 k t401 t402 t403 t407 t408 t411 bt419.1 true)) else (laws_FnPlanValues.j0 k t401 t402 t403 t407 t408 t411 bt419.1 true)) else (laws_FnPlanValues.j0 k t401 t402 t403 t407 t408 t411 bt419.1 true)) else (laws_FnPlanValues.j0 k t401 t402 t403 t407 t408 t411 bt419.1 true))) else (laws_FnPlanValues.j0 k t401 t402 t403 t407 t408 t411 bt419.1 true)) else (laws_FnPlanValues.j0 k t401 t402 t403 t407 t408 t411 bt419.1 true)) else (laws_FnPlanValues.j0 k t401 t402 t403 t407 t408 t411 bt419.1 true))))) = some r := H
  have A7 := Aside0.mk A70
  clear A70
  replace H := Option.bind_eq_some_iff.mp H
  obtain ⟨⟨t415, t416⟩, A80, H⟩ := H
  replace H : ((impl_PlanWaste.f k t401 t402 t403 t404).bind fun bt419 => ((spec_PlanWaste.f k t401 t402 t403 t404).bind fun bt421 => (if t408 = t410 then (if t407 = t409 then (if t412 = t416 then ((laws_likeInts.f k t411 t415).bind fun t423 => (if t423 = true then (if bt419.2 = bt421.2 then (if bt419.1 = bt421.1 then (if t412 = t408 then (laws_FnPlanValues.j0 k t401 t402 t403 t407 t408 t411 bt419.1 (bt419.2 != t408)) else (laws_FnPlanValues.j0 k t401 t402 t403 t407 t408 t411 bt419.1 true)) else (laws_FnPlanValues.j0 k t401 t402 t403 t407 t408 t411 bt419.1 true)) else (laws_FnPlanValues.j0 k t401 t402 t403 t407 t408 t411 bt419.1 true)) else (laws_FnPlanValues.j0 k t401 t402 t403 t407 t408 t411 bt419.1 true))) else (laws_FnPlanValues.j0 k t401 t402 t403 t407 t408 t411 bt419.1 true)) else (laws_FnPlanValues.j0 k t401 t402 t403 t407 t408 t411 bt419.1 true)) else (laws_FnPlanValues.j0 k t401 t402 t403 t407 t408 t411 bt419.1 true)))) = some r := H
  have A8 := Aside0.mk A80
  clear A80
  replace H := Option.bind_eq_some_iff.mp H
  obtain ⟨⟨t419, t420⟩, A90, H⟩ := H
  replace H : ((spec_PlanWaste.f k t401 t402 t403 t404).bind fun bt421 => (if t408 = t410 then (if t407 = t409 then (if t412 = t416 then ((laws_likeInts.f k t411 t415).bind fun t423 => (if t423 = true then (if t420 = bt421.2 then (if t419 = bt421.1 then (if t412 = t408 then (laws_FnPlanValues.j0 k t401 t402 t403 t407 t408 t411 t419 (t420 != t408)) else (laws_FnPlanValues.j0 k t401 t402 t403 t407 t408 t411 t419 true)) else (laws_FnPlanValues.j0 k t401 t402 t403 t407 t408 t411 t419 true)) else (laws_FnPlanValues.j0 k t401 t402 t403 t407 t408 t411 t419 true)) else (laws_FnPlanValues.j0 k t401 t402 t403 t407 t408 t411 t419 true))) else (laws_FnPlanValues.j0 k t401 t402 t403 t407 t408 t411 t419 true)) else (laws_FnPlanValues.j0 k t401 t402 t403 t407 t408 t411 t419 true)) else (laws_FnPlanValues.j0 k t401 t402 t403 t407 t408 t411 t419 true))) = some r := H
  have A9 := Aside0.mk A90
  clear A90
  replace H := Option.bind_eq_some_iff.mp H
  obtain ⟨⟨t421, t422⟩, A100, H⟩ := H
  replace H : (if t408 = t410 then (if t407 = t409 then (if t412 = t416 then ((laws_likeInts.f k t411 t415).bind fun t423 => (if t423 = true then (if t420 = t422 then (if t419 = t421 then (if t412 = t408 then (laws_FnPlanValues.j0 k t401 t402 t403 t407 t408 t411 t419 (t420 != t408)) else (laws_FnPlanValues.j0 k t401 t402 t403 t407 t408 t411 t419 true)) else (laws_FnPlanValues.j0 k t401 t402 t403 t407 t408 t411 t419 true)) else (laws_FnPlanValues.j0 k t401 t402 t403 t407 t408 t411 t419 true)) else (laws_FnPlanValues.j0 k t401 t402 t403 t407 t408 t411 t419 true))) else (laws_FnPlanValues.j0 k t401 t402 t403 t407 t408 t411 t419 true)) else (laws_FnPlanValues.j0 k t401 t402 t403 t407 t408 t411 t419 true)) else (laws_FnPlanValues.j0 k t401 t402 t403 t407 t408 t411 t419 true)) = some r := H
  have A10 := Aside0.mk A100
  clear A100
  have HC11 := Aside0.mk H
  clear H
  go_enter Tryd.func8, Tryd.ntmps8
  go_upto_region 10 with (first | (go_at_call 24; (with_reducible refine (laws_big.calls _ _ l0 false _ ?side1 ?side2 A2.out).mono ?_); (case side1 => repeat (first | exact HR0.out | (with_reducible refine Kd.C_alloc ?_ _) | (with_reducible refine Kd.C_drewN ?_ _) | (with_reducible refine Kd.C_drew ?_))); (case side2 => exact HC0.out); rintro e w' ⟨rfl, ⟨nd, rfl⟩⟩; (try first | exact ⟨rfl, _, World.drewN_drewN _ _ _⟩ | exact ⟨rfl, _, Eq.trans (World.drewN_drewN _ _ _) (congrArg (World.drewN _) (Nat.add_assoc _ _ _))⟩)) | (go_at_call 34; (with_reducible refine (spec_DrawPlanValue.calls k _ _ l0 t401 t402 t403 t404 _ ?side1 ?side2 A4.out).mono ?_); (case side1 => repeat (first | exact HR0.out | (with_reducible refine Kd.C_alloc ?_ _) | (with_reducible refine Kd.C_drewN ?_ _) | (with_reducible refine Kd.C_drew ?_))); (case side2 => exact HC0.out); rintro e w12 ⟨v405, rfl, ho0, hb⟩; have n0_ := Aside0.mk (Kd.R_lower ho0 (below_size (by repeat (first | (with_reducible first | exact HB.out | apply below_alloc | apply pw_below_drewN | apply below_drew1) | exact HB.out)))); have n1_ := Aside0.mk (below_step (by repeat (first | (with_reducible first | exact HB.out | apply below_alloc | apply pw_below_drewN | apply below_drew1) | exact HB.out)) hb); clear HB; have HO406 := n0_; have HB := n1_; clear n0_ n1_; (try clear hb); (try clear ho0); obtain ⟨Ao13, co13, eo13⟩ := Kd.R_slice HO406.out; subst eo13) | (go_at_call 21; (with_reducible refine (impl_PlanValue.calls k t401 t402 _ _ t403 t404 t407 t408 _ ?side1 ?side2 ?side3 A5.out).mono ?_); (case side1 => first | exact HTL_.out | exact TabL.drewN HTL_.out _ | exact TabL.keep HTL_.out (by repeat (first | (with_reducible first | exact HB.out | apply below_alloc | apply pw_below_drewN | apply below_drew1) | exact HB.out))); (case side2 => repeat (first | exact (Kd.R_reads' HO406.out).2.2 | (with_reducible refine Kd.C_alloc ?_ _) | (with_reducible refine Kd.C_drewN ?_ _) | (with_reducible refine Kd.C_drew ?_))); (case side3 => exact (Kd.R_reads' HO406.out).2.1); rintro e w14 ⟨rfl, hb⟩; have n0_ := Aside0.mk (Kd.R_below (by (with_reducible repeat (first | apply Kd.R_alloc | apply Kd.R_drewN | apply Kd.R_drew)); exact HO406.out) hb); have n1_ := Aside0.mk (below_step (by repeat (first | (with_reducible first | exact HB.out | apply below_alloc | apply pw_below_drewN | apply below_drew1) | exact HB.out)) hb); clear HO406; clear HB; have HO406 := n0_; have HB := n1_; clear n0_ n1_; (try clear hb)) | (go_at_call 20; (with_reducible refine (spec_PlanValue.calls k t401 t402 _ _ t403 t404 t409 t410 _ ?side1 ?side2 A6.out).mono ?_); (case side1 => repeat (first | exact (Kd.R_reads' HO406.out).2.2 | (with_reducible refine Kd.C_alloc ?_ _) | (with_reducible refine Kd.C_drewN ?_ _) | (with_reducible refine Kd.C_drew ?_))); (case side2 => exact (Kd.R_reads' HO406.out).2.1); rintro e w15 ⟨rfl, hb⟩; have n0_ := Aside0.mk (Kd.R_below (by (with_reducible repeat (first | apply Kd.R_alloc | apply Kd.R_drewN | apply Kd.R_drew)); exact HO406.out) hb); have n1_ := Aside0.mk (below_step (by repeat (first | (with_reducible first | exact HB.out | apply below_alloc | apply pw_below_drewN | apply below_drew1) | exact HB.out)) hb); clear HO406; clear HB; have HO406 := n0_; have HB := n1_; clear n0_ n1_; (try clear hb)) | (go_at_call 12; (with_reducible refine (impl_PlanCounts.calls k t401 t402 _ _ t403 t404 t411 t412 _ ?side1 ?side2 ?side3 A7.out).mono ?_); (case side1 => first | exact HTL_.out | exact TabL.drewN HTL_.out _ | exact TabL.keep HTL_.out (by repeat (first | (with_reducible first | exact HB.out | apply below_alloc | apply pw_below_drewN | apply below_drew1) | exact HB.out))); (case side2 => repeat (first | exact (Kd.R_reads' HO406.out).2.2 | (with_reducible refine Kd.C_alloc ?_ _) | (with_reducible refine Kd.C_drewN ?_ _) | (with_reducible refine Kd.C_drew ?_))); (case side3 => exact (Kd.R_reads' HO406.out).2.1); rintro e w16 ⟨v413, rfl, ho0, hb⟩; have n0_ := Aside0.mk (Kd.R_below (by (with_reducible repeat (first | apply Kd.R_alloc | apply Kd.R_drewN | apply Kd.R_drew)); exact HO406.out) hb); have n1_ := Aside0.mk (Kd.R_lower ho0 (below_size (by repeat (first | (with_reducible first | exact HB.out | apply below_alloc | apply pw_below_drewN | apply below_drew1) | exact HB.out)))); have n2_ := Aside0.mk (below_step (by repeat (first | (with_reducible first | exact HB.out | apply below_alloc | apply pw_below_drewN | apply below_drew1) | exact HB.out)) hb); clear HO406; clear HB; have HO406 := n0_; have HO414 := n1_; have HB := n2_; clear n0_ n1_ n2_; (try clear hb); (try clear ho0)) | (go_at_call 10; (with_reducible refine (spec_PlanCounts.calls k t401 t402 _ _ t403 t404 t415 t416 _ ?side1 ?side2 A8.out).mono ?_); (case side1 => repeat (first | exact (Kd.R_reads' HO406.out).2.2 | (with_reducible refine Kd.C_alloc ?_ _) | (with_reducible refine Kd.C_drewN ?_ _) | (with_reducible refine Kd.C_drew ?_))); (case side2 => exact (Kd.R_reads' HO406.out).2.1); rintro e w17 ⟨v417, rfl, ho0, hb⟩; have n0_ := Aside0.mk (Kd.R_below (by (with_reducible repeat (first | apply Kd.R_alloc | apply Kd.R_drewN | apply Kd.R_drew)); exact HO406.out) hb); have n1_ := Aside0.mk (Kd.R_elder' (by (with_reducible repeat (first | apply Kd.R_alloc | apply Kd.R_drewN | apply Kd.R_drew)); exact HO414.out) (Kd.R_base ho0) hb); have n2_ := Aside0.mk (Kd.R_lower (Kd.R_new' ho0 (Kd.R_lt (by (with_reducible repeat (first | apply Kd.R_alloc | apply Kd.R_drewN | apply Kd.R_drew)); exact HO414.out))) (below_size (by repeat (first | (with_reducible first | exact HB.out | apply below_alloc | apply pw_below_drewN | apply below_drew1) | exact HB.out)))); have n3_ := Aside0.mk (below_step (by repeat (first | (with_reducible first | exact HB.out | apply below_alloc | apply pw_below_drewN | apply below_drew1) | exact HB.out)) hb); clear HO406; clear HO414; clear HB; have HO406 := n0_; have HO414 := n1_; have HO418 := n2_; have HB := n3_; clear n0_ n1_ n2_ n3_; (try clear hb); (try clear ho0)) | (go_at_call 23; (with_reducible refine (impl_PlanWaste.calls k t401 t402 _ _ t403 t404 t419 t420 _ ?side1 ?side2 ?side3 A9.out).mono ?_); (case side1 => first | exact HTL_.out | exact TabL.drewN HTL_.out _ | exact TabL.keep HTL_.out (by repeat (first | (with_reducible first | exact HB.out | apply below_alloc | apply pw_below_drewN | apply below_drew1) | exact HB.out))); (case side2 => repeat (first | exact (Kd.R_reads' HO406.out).2.2 | (with_reducible refine Kd.C_alloc ?_ _) | (with_reducible refine Kd.C_drewN ?_ _) | (with_reducible refine Kd.C_drew ?_))); (case side3 => exact (Kd.R_reads' HO406.out).2.1); rintro e w18 ⟨rfl, hb⟩; have n0_ := Aside0.mk (Kd.R_below (by (with_reducible repeat (first | apply Kd.R_alloc | apply Kd.R_drewN | apply Kd.R_drew)); exact HO406.out) hb); have n1_ := Aside0.mk (Kd.R_below (by (with_reducible repeat (first | apply Kd.R_alloc | apply Kd.R_drewN | apply Kd.R_drew)); exact HO414.out) hb); have n2_ := Aside0.mk (Kd.R_below (by (with_reducible repeat (first | apply Kd.R_alloc | apply Kd.R_drewN | apply Kd.R_drew)); exact HO418.out) hb); have n3_ := Aside0.mk (below_step (by repeat (first | (with_reducible first | exact HB.out | apply below_alloc | apply pw_below_drewN | apply below_drew1) | exact HB.out)) hb); clear HO406; clear HO414; clear HO418; clear HB; have HO406 := n0_; have HO414 := n1_; have HO418 := n2_; have HB := n3_; clear n0_ n1_ n2_ n3_; (try clear hb)) | (go_at_call 22; (with_reducible refine (spec_PlanWaste.calls k t401 t402 _ _ t403 t404 t421 t422 _ ?side1 ?side2 A10.out).mono ?_); (case side1 => repeat (first | exact (Kd.R_reads' HO406.out).2.2 | (with_reducible refine Kd.C_alloc ?_ _) | (with_reducible refine Kd.C_drewN ?_ _) | (with_reducible refine Kd.C_drew ?_))); (case side2 => exact (Kd.R_reads' HO406.out).2.1); rintro e w19 ⟨rfl, hb⟩; have n0_ := Aside0.mk (Kd.R_below (by (with_reducible repeat (first | apply Kd.R_alloc | apply Kd.R_drewN | apply Kd.R_drew)); exact HO406.out) hb); have n1_ := Aside0.mk (Kd.R_below (by (with_reducible repeat (first | apply Kd.R_alloc | apply Kd.R_drewN | apply Kd.R_drew)); exact HO414.out) hb); have n2_ := Aside0.mk (Kd.R_below (by (with_reducible repeat (first | apply Kd.R_alloc | apply Kd.R_drewN | apply Kd.R_drew)); exact HO418.out) hb); have n3_ := Aside0.mk (below_step (by repeat (first | (with_reducible first | exact HB.out | apply below_alloc | apply pw_below_drewN | apply below_drew1) | exact HB.out)) hb); clear HO406; clear HO414; clear HO418; clear HB; have HO406 := n0_; have HO414 := n1_; have HO418 := n2_; have HB := n3_; clear n0_ n1_ n2_ n3_; (try clear hb)))
  repeat (go_quiet (first | (go_at_call 24; (with_reducible refine (laws_big.calls _ _ l0 false _ ?side1 ?side2 A2.out).mono ?_); (case side1 => repeat (first | exact HR0.out | (with_reducible refine Kd.C_alloc ?_ _) | (with_reducible refine Kd.C_drewN ?_ _) | (with_reducible refine Kd.C_drew ?_))); (case side2 => exact HC0.out); rintro e w' ⟨rfl, ⟨nd, rfl⟩⟩; (try first | exact ⟨rfl, _, World.drewN_drewN _ _ _⟩ | exact ⟨rfl, _, Eq.trans (World.drewN_drewN _ _ _) (congrArg (World.drewN _) (Nat.add_assoc _ _ _))⟩)) | (go_at_call 34; (with_reducible refine (spec_DrawPlanValue.calls k _ _ l0 t401 t402 t403 t404 _ ?side1 ?side2 A4.out).mono ?_); (case side1 => repeat (first | exact HR0.out | (with_reducible refine Kd.C_alloc ?_ _) | (with_reducible refine Kd.C_drewN ?_ _) | (with_reducible refine Kd.C_drew ?_))); (case side2 => exact HC0.out); rintro e w12 ⟨v405, rfl, ho0, hb⟩; have n0_ := Aside0.mk (Kd.R_lower ho0 (below_size (by repeat (first | (with_reducible first | exact HB.out | apply below_alloc | apply pw_below_drewN | apply below_drew1) | exact HB.out)))); have n1_ := Aside0.mk (below_step (by repeat (first | (with_reducible first | exact HB.out | apply below_alloc | apply pw_below_drewN | apply below_drew1) | exact HB.out)) hb); clear HB; have HO406 := n0_; have HB := n1_; clear n0_ n1_; (try clear hb); (try clear ho0); obtain ⟨Ao13, co13, eo13⟩ := Kd.R_slice HO406.out; subst eo13) | (go_at_call 21; (with_reducible refine (impl_PlanValue.calls k t401 t402 _ _ t403 t404 t407 t408 _ ?side1 ?side2 ?side3 A5.out).mono ?_); (case side1 => first | exact HTL_.out | exact TabL.drewN HTL_.out _ | exact TabL.keep HTL_.out (by repeat (first | (with_reducible first | exact HB.out | apply below_alloc | apply pw_below_drewN | apply below_drew1) | exact HB.out))); (case side2 => repeat (first | exact (Kd.R_reads' HO406.out).2.2 | (with_reducible refine Kd.C_alloc ?_ _) | (with_reducible refine Kd.C_drewN ?_ _) | (with_reducible refine Kd.C_drew ?_))); (case side3 => exact (Kd.R_reads' HO406.out).2.1); rintro e w14 ⟨rfl, hb⟩; have n0_ := Aside0.mk (Kd.R_below (by (with_reducible repeat (first | apply Kd.R_alloc | apply Kd.R_drewN | apply Kd.R_drew)); exact HO406.out) hb); have n1_ := Aside0.mk (below_step (by repeat (first | (with_reducible first | exact HB.out | apply below_alloc | apply pw_below_drewN | apply below_drew1) | exact HB.out)) hb); clear HO406; clear HB; have HO406 := n0_; have HB := n1_; clear n0_ n1_; (try clear hb)) | (go_at_call 20; (with_reducible refine (spec_PlanValue.calls k t401 t402 _ _ t403 t404 t409 t410 _ ?side1 ?side2 A6.out).mono ?_); (case side1 => repeat (first | exact (Kd.R_reads' HO406.out).2.2 | (with_reducible refine Kd.C_alloc ?_ _) | (with_reducible refine Kd.C_drewN ?_ _) | (with_reducible refine Kd.C_drew ?_))); (case side2 => exact (Kd.R_reads' HO406.out).2.1); rintro e w15 ⟨rfl, hb⟩; have n0_ := Aside0.mk (Kd.R_below (by (with_reducible repeat (first | apply Kd.R_alloc | apply Kd.R_drewN | apply Kd.R_drew)); exact HO406.out) hb); have n1_ := Aside0.mk (below_step (by repeat (first | (with_reducible first | exact HB.out | apply below_alloc | apply pw_below_drewN | apply below_drew1) | exact HB.out)) hb); clear HO406; clear HB; have HO406 := n0_; have HB := n1_; clear n0_ n1_; (try clear hb)) | (go_at_call 12; (with_reducible refine (impl_PlanCounts.calls k t401 t402 _ _ t403 t404 t411 t412 _ ?side1 ?side2 ?side3 A7.out).mono ?_); (case side1 => first | exact HTL_.out | exact TabL.drewN HTL_.out _ | exact TabL.keep HTL_.out (by repeat (first | (with_reducible first | exact HB.out | apply below_alloc | apply pw_below_drewN | apply below_drew1) | exact HB.out))); (case side2 => repeat (first | exact (Kd.R_reads' HO406.out).2.2 | (with_reducible refine Kd.C_alloc ?_ _) | (with_reducible refine Kd.C_drewN ?_ _) | (with_reducible refine Kd.C_drew ?_))); (case side3 => exact (Kd.R_reads' HO406.out).2.1); rintro e w16 ⟨v413, rfl, ho0, hb⟩; have n0_ := Aside0.mk (Kd.R_below (by (with_reducible repeat (first | apply Kd.R_alloc | apply Kd.R_drewN | apply Kd.R_drew)); exact HO406.out) hb); have n1_ := Aside0.mk (Kd.R_lower ho0 (below_size (by repeat (first | (with_reducible first | exact HB.out | apply below_alloc | apply pw_below_drewN | apply below_drew1) | exact HB.out)))); have n2_ := Aside0.mk (below_step (by repeat (first | (with_reducible first | exact HB.out | apply below_alloc | apply pw_below_drewN | apply below_drew1) | exact HB.out)) hb); clear HO406; clear HB; have HO406 := n0_; have HO414 := n1_; have HB := n2_; clear n0_ n1_ n2_; (try clear hb); (try clear ho0)) | (go_at_call 10; (with_reducible refine (spec_PlanCounts.calls k t401 t402 _ _ t403 t404 t415 t416 _ ?side1 ?side2 A8.out).mono ?_); (case side1 => repeat (first | exact (Kd.R_reads' HO406.out).2.2 | (with_reducible refine Kd.C_alloc ?_ _) | (with_reducible refine Kd.C_drewN ?_ _) | (with_reducible refine Kd.C_drew ?_))); (case side2 => exact (Kd.R_reads' HO406.out).2.1); rintro e w17 ⟨v417, rfl, ho0, hb⟩; have n0_ := Aside0.mk (Kd.R_below (by (with_reducible repeat (first | apply Kd.R_alloc | apply Kd.R_drewN | apply Kd.R_drew)); exact HO406.out) hb); have n1_ := Aside0.mk (Kd.R_elder' (by (with_reducible repeat (first | apply Kd.R_alloc | apply Kd.R_drewN | apply Kd.R_drew)); exact HO414.out) (Kd.R_base ho0) hb); have n2_ := Aside0.mk (Kd.R_lower (Kd.R_new' ho0 (Kd.R_lt (by (with_reducible repeat (first | apply Kd.R_alloc | apply Kd.R_drewN | apply Kd.R_drew)); exact HO414.out))) (below_size (by repeat (first | (with_reducible first | exact HB.out | apply below_alloc | apply pw_below_drewN | apply below_drew1) | exact HB.out)))); have n3_ := Aside0.mk (below_step (by repeat (first | (with_reducible first | exact HB.out | apply below_alloc | apply pw_below_drewN | apply below_drew1) | exact HB.out)) hb); clear HO406; clear HO414; clear HB; have HO406 := n0_; have HO414 := n1_; have HO418 := n2_; have HB := n3_; clear n0_ n1_ n2_ n3_; (try clear hb); (try clear ho0)) | (go_at_call 23; (with_reducible refine (impl_PlanWaste.calls k t401 t402 _ _ t403 t404 t419 t420 _ ?side1 ?side2 ?side3 A9.out).mono ?_); (case side1 => first | exact HTL_.out | exact TabL.drewN HTL_.out _ | exact TabL.keep HTL_.out (by repeat (first | (with_reducible first | exact HB.out | apply below_alloc | apply pw_below_drewN | apply below_drew1) | exact HB.out))); (case side2 => repeat (first | exact (Kd.R_reads' HO406.out).2.2 | (with_reducible refine Kd.C_alloc ?_ _) | (with_reducible refine Kd.C_drewN ?_ _) | (with_reducible refine Kd.C_drew ?_))); (case side3 => exact (Kd.R_reads' HO406.out).2.1); rintro e w18 ⟨rfl, hb⟩; have n0_ := Aside0.mk (Kd.R_below (by (with_reducible repeat (first | apply Kd.R_alloc | apply Kd.R_drewN | apply Kd.R_drew)); exact HO406.out) hb); have n1_ := Aside0.mk (Kd.R_below (by (with_reducible repeat (first | apply Kd.R_alloc | apply Kd.R_drewN | apply Kd.R_drew)); exact HO414.out) hb); have n2_ := Aside0.mk (Kd.R_below (by (with_reducible repeat (first | apply Kd.R_alloc | apply Kd.R_drewN | apply Kd.R_drew)); exact HO418.out) hb); have n3_ := Aside0.mk (below_step (by repeat (first | (with_reducible first | exact HB.out | apply below_alloc | apply pw_below_drewN | apply below_drew1) | exact HB.out)) hb); clear HO406; clear HO414; clear HO418; clear HB; have HO406 := n0_; have HO414 := n1_; have HO418 := n2_; have HB := n3_; clear n0_ n1_ n2_ n3_; (try clear hb)) | (go_at_call 22; (with_reducible refine (spec_PlanWaste.calls k t401 t402 _ _ t403 t404 t421 t422 _ ?side1 ?side2 A10.out).mono ?_); (case side1 => repeat (first | exact (Kd.R_reads' HO406.out).2.2 | (with_reducible refine Kd.C_alloc ?_ _) | (with_reducible refine Kd.C_drewN ?_ _) | (with_reducible refine Kd.C_drew ?_))); (case side2 => exact (Kd.R_reads' HO406.out).2.1); rintro e w19 ⟨rfl, hb⟩; have n0_ := Aside0.mk (Kd.R_below (by (with_reducible repeat (first | apply Kd.R_alloc | apply Kd.R_drewN | apply Kd.R_drew)); exact HO406.out) hb); have n1_ := Aside0.mk (Kd.R_below (by (with_reducible repeat (first | apply Kd.R_alloc | apply Kd.R_drewN | apply Kd.R_drew)); exact HO414.out) hb); have n2_ := Aside0.mk (Kd.R_below (by (with_reducible repeat (first | apply Kd.R_alloc | apply Kd.R_drewN | apply Kd.R_drew)); exact HO418.out) hb); have n3_ := Aside0.mk (below_step (by repeat (first | (with_reducible first | exact HB.out | apply below_alloc | apply pw_below_drewN | apply below_drew1) | exact HB.out)) hb); clear HO406; clear HO414; clear HO418; clear HB; have HO406 := n0_; have HO414 := n1_; have HO418 := n2_; have HB := n3_; clear n0_ n1_ n2_ n3_; (try clear hb))); go_upto_region 10 with (first | (go_at_call 24; (with_reducible refine (laws_big.calls _ _ l0 false _ ?side1 ?side2 A2.out).mono ?_); (case side1 => repeat (first | exact HR0.out | (with_reducible refine Kd.C_alloc ?_ _) | (with_reducible refine Kd.C_drewN ?_ _) | (with_reducible refine Kd.C_drew ?_))); (case side2 => exact HC0.out); rintro e w' ⟨rfl, ⟨nd, rfl⟩⟩; (try first | exact ⟨rfl, _, World.drewN_drewN _ _ _⟩ | exact ⟨rfl, _, Eq.trans (World.drewN_drewN _ _ _) (congrArg (World.drewN _) (Nat.add_assoc _ _ _))⟩)) | (go_at_call 34; (with_reducible refine (spec_DrawPlanValue.calls k _ _ l0 t401 t402 t403 t404 _ ?side1 ?side2 A4.out).mono ?_); (case side1 => repeat (first | exact HR0.out | (with_reducible refine Kd.C_alloc ?_ _) | (with_reducible refine Kd.C_drewN ?_ _) | (with_reducible refine Kd.C_drew ?_))); (case side2 => exact HC0.out); rintro e w12 ⟨v405, rfl, ho0, hb⟩; have n0_ := Aside0.mk (Kd.R_lower ho0 (below_size (by repeat (first | (with_reducible first | exact HB.out | apply below_alloc | apply pw_below_drewN | apply below_drew1) | exact HB.out)))); have n1_ := Aside0.mk (below_step (by repeat (first | (with_reducible first | exact HB.out | apply below_alloc | apply pw_below_drewN | apply below_drew1) | exact HB.out)) hb); clear HB; have HO406 := n0_; have HB := n1_; clear n0_ n1_; (try clear hb); (try clear ho0); obtain ⟨Ao13, co13, eo13⟩ := Kd.R_slice HO406.out; subst eo13) | (go_at_call 21; (with_reducible refine (impl_PlanValue.calls k t401 t402 _ _ t403 t404 t407 t408 _ ?side1 ?side2 ?side3 A5.out).mono ?_); (case side1 => first | exact HTL_.out | exact TabL.drewN HTL_.out _ | exact TabL.keep HTL_.out (by repeat (first | (with_reducible first | exact HB.out | apply below_alloc | apply pw_below_drewN | apply below_drew1) | exact HB.out))); (case side2 => repeat (first | exact (Kd.R_reads' HO406.out).2.2 | (with_reducible refine Kd.C_alloc ?_ _) | (with_reducible refine Kd.C_drewN ?_ _) | (with_reducible refine Kd.C_drew ?_))); (case side3 => exact (Kd.R_reads' HO406.out).2.1); rintro e w14 ⟨rfl, hb⟩; have n0_ := Aside0.mk (Kd.R_below (by (with_reducible repeat (first | apply Kd.R_alloc | apply Kd.R_drewN | apply Kd.R_drew)); exact HO406.out) hb); have n1_ := Aside0.mk (below_step (by repeat (first | (with_reducible first | exact HB.out | apply below_alloc | apply pw_below_drewN | apply below_drew1) | exact HB.out)) hb); clear HO406; clear HB; have HO406 := n0_; have HB := n1_; clear n0_ n1_; (try clear hb)) | (go_at_call 20; (with_reducible refine (spec_PlanValue.calls k t401 t402 _ _ t403 t404 t409 t410 _ ?side1 ?side2 A6.out).mono ?_); (case side1 => repeat (first | exact (Kd.R_reads' HO406.out).2.2 | (with_reducible refine Kd.C_alloc ?_ _) | (with_reducible refine Kd.C_drewN ?_ _) | (with_reducible refine Kd.C_drew ?_))); (case side2 => exact (Kd.R_reads' HO406.out).2.1); rintro e w15 ⟨rfl, hb⟩; have n0_ := Aside0.mk (Kd.R_below (by (with_reducible repeat (first | apply Kd.R_alloc | apply Kd.R_drewN | apply Kd.R_drew)); exact HO406.out) hb); have n1_ := Aside0.mk (below_step (by repeat (first | (with_reducible first | exact HB.out | apply below_alloc | apply pw_below_drewN | apply below_drew1) | exact HB.out)) hb); clear HO406; clear HB; have HO406 := n0_; have HB := n1_; clear n0_ n1_; (try clear hb)) | (go_at_call 12; (with_reducible refine (impl_PlanCounts.calls k t401 t402 _ _ t403 t404 t411 t412 _ ?side1 ?side2 ?side3 A7.out).mono ?_); (case side1 => first | exact HTL_.out | exact TabL.drewN HTL_.out _ | exact TabL.keep HTL_.out (by repeat (first | (with_reducible first | exact HB.out | apply below_alloc | apply pw_below_drewN | apply below_drew1) | exact HB.out))); (case side2 => repeat (first | exact (Kd.R_reads' HO406.out).2.2 | (with_reducible refine Kd.C_alloc ?_ _) | (with_reducible refine Kd.C_drewN ?_ _) | (with_reducible refine Kd.C_drew ?_))); (case side3 => exact (Kd.R_reads' HO406.out).2.1); rintro e w16 ⟨v413, rfl, ho0, hb⟩; have n0_ := Aside0.mk (Kd.R_below (by (with_reducible repeat (first | apply Kd.R_alloc | apply Kd.R_drewN | apply Kd.R_drew)); exact HO406.out) hb); have n1_ := Aside0.mk (Kd.R_lower ho0 (below_size (by repeat (first | (with_reducible first | exact HB.out | apply below_alloc | apply pw_below_drewN | apply below_drew1) | exact HB.out)))); have n2_ := Aside0.mk (below_step (by repeat (first | (with_reducible first | exact HB.out | apply below_alloc | apply pw_below_drewN | apply below_drew1) | exact HB.out)) hb); clear HO406; clear HB; have HO406 := n0_; have HO414 := n1_; have HB := n2_; clear n0_ n1_ n2_; (try clear hb); (try clear ho0)) | (go_at_call 10; (with_reducible refine (spec_PlanCounts.calls k t401 t402 _ _ t403 t404 t415 t416 _ ?side1 ?side2 A8.out).mono ?_); (case side1 => repeat (first | exact (Kd.R_reads' HO406.out).2.2 | (with_reducible refine Kd.C_alloc ?_ _) | (with_reducible refine Kd.C_drewN ?_ _) | (with_reducible refine Kd.C_drew ?_))); (case side2 => exact (Kd.R_reads' HO406.out).2.1); rintro e w17 ⟨v417, rfl, ho0, hb⟩; have n0_ := Aside0.mk (Kd.R_below (by (with_reducible repeat (first | apply Kd.R_alloc | apply Kd.R_drewN | apply Kd.R_drew)); exact HO406.out) hb); have n1_ := Aside0.mk (Kd.R_elder' (by (with_reducible repeat (first | apply Kd.R_alloc | apply Kd.R_drewN | apply Kd.R_drew)); exact HO414.out) (Kd.R_base ho0) hb); have n2_ := Aside0.mk (Kd.R_lower (Kd.R_new' ho0 (Kd.R_lt (by (with_reducible repeat (first | apply Kd.R_alloc | apply Kd.R_drewN | apply Kd.R_drew)); exact HO414.out))) (below_size (by repeat (first | (with_reducible first | exact HB.out | apply below_alloc | apply pw_below_drewN | apply below_drew1) | exact HB.out)))); have n3_ := Aside0.mk (below_step (by repeat (first | (with_reducible first | exact HB.out | apply below_alloc | apply pw_below_drewN | apply below_drew1) | exact HB.out)) hb); clear HO406; clear HO414; clear HB; have HO406 := n0_; have HO414 := n1_; have HO418 := n2_; have HB := n3_; clear n0_ n1_ n2_ n3_; (try clear hb); (try clear ho0)) | (go_at_call 23; (with_reducible refine (impl_PlanWaste.calls k t401 t402 _ _ t403 t404 t419 t420 _ ?side1 ?side2 ?side3 A9.out).mono ?_); (case side1 => first | exact HTL_.out | exact TabL.drewN HTL_.out _ | exact TabL.keep HTL_.out (by repeat (first | (with_reducible first | exact HB.out | apply below_alloc | apply pw_below_drewN | apply below_drew1) | exact HB.out))); (case side2 => repeat (first | exact (Kd.R_reads' HO406.out).2.2 | (with_reducible refine Kd.C_alloc ?_ _) | (with_reducible refine Kd.C_drewN ?_ _) | (with_reducible refine Kd.C_drew ?_))); (case side3 => exact (Kd.R_reads' HO406.out).2.1); rintro e w18 ⟨rfl, hb⟩; have n0_ := Aside0.mk (Kd.R_below (by (with_reducible repeat (first | apply Kd.R_alloc | apply Kd.R_drewN | apply Kd.R_drew)); exact HO406.out) hb); have n1_ := Aside0.mk (Kd.R_below (by (with_reducible repeat (first | apply Kd.R_alloc | apply Kd.R_drewN | apply Kd.R_drew)); exact HO414.out) hb); have n2_ := Aside0.mk (Kd.R_below (by (with_reducible repeat (first | apply Kd.R_alloc | apply Kd.R_drewN | apply Kd.R_drew)); exact HO418.out) hb); have n3_ := Aside0.mk (below_step (by repeat (first | (with_reducible first | exact HB.out | apply below_alloc | apply pw_below_drewN | apply below_drew1) | exact HB.out)) hb); clear HO406; clear HO414; clear HO418; clear HB; have HO406 := n0_; have HO414 := n1_; have HO418 := n2_; have HB := n3_; clear n0_ n1_ n2_ n3_; (try clear hb)) | (go_at_call 22; (with_reducible refine (spec_PlanWaste.calls k t401 t402 _ _ t403 t404 t421 t422 _ ?side1 ?side2 A10.out).mono ?_); (case side1 => repeat (first | exact (Kd.R_reads' HO406.out).2.2 | (with_reducible refine Kd.C_alloc ?_ _) | (with_reducible refine Kd.C_drewN ?_ _) | (with_reducible refine Kd.C_drew ?_))); (case side2 => exact (Kd.R_reads' HO406.out).2.1); rintro e w19 ⟨rfl, hb⟩; have n0_ := Aside0.mk (Kd.R_below (by (with_reducible repeat (first | apply Kd.R_alloc | apply Kd.R_drewN | apply Kd.R_drew)); exact HO406.out) hb); have n1_ := Aside0.mk (Kd.R_below (by (with_reducible repeat (first | apply Kd.R_alloc | apply Kd.R_drewN | apply Kd.R_drew)); exact HO414.out) hb); have n2_ := Aside0.mk (Kd.R_below (by (with_reducible repeat (first | apply Kd.R_alloc | apply Kd.R_drewN | apply Kd.R_drew)); exact HO418.out) hb); have n3_ := Aside0.mk (below_step (by repeat (first | (with_reducible first | exact HB.out | apply below_alloc | apply pw_below_drewN | apply below_drew1) | exact HB.out)) hb); clear HO406; clear HO414; clear HO418; clear HB; have HO406 := n0_; have HO414 := n1_; have HO418 := n2_; have HB := n3_; clear n0_ n1_ n2_ n3_; (try clear hb))))
  (try simp only [Act.put, List.setIfInBounds_toArray, List.set_cons_zero, List.set_cons_succ])
  go_cut [119] (fun v119 wc => ∃ (kq : Nat) (x119_10 : Bool), v119 = .bool x119_10 ∧ Aside0 (laws_FnPlanValues.j0 kq t401 t402 t403 t407 t408 t411 t419 x119_10 = some r) ∧ Aside0 (kq ≤ k) ∧ Aside0 (Kd.R k50 50 wc w.heap.size (fun _ => True) (.slice Ao13 t403.length co13) t403) ∧ Aside0 (Kd.R (Kd.int .i64) 2 wc w.heap.size (fun _ => True) v413 t411) ∧ Aside0 (Below w.heap.size w wc))
  case first =>
   have H := HC11.out
   clear HC11
   by_cases c20 : t408 = t410
   ·rw [if_pos c20] at H
    have c20b0 : (t408 == t410) = true := beq_iff_eq.mpr c20
    have c20b1 : (t408 != t410) = false := bne_eq_false_iff_eq.mpr c20
    clear c20
    (first | rw [c20b0] | (simp only [i64_w, i32_w]; rw [c20b0]) | skip)
    by_cases c21 : t407 = t409
    ·rw [if_pos c21] at H
     have c21b0 : (t407 == t409) = true := beq_iff_eq.mpr c21
     have c21b1 : (t407 != t409) = false := bne_eq_false_iff_eq.mpr c21
     clear c21
     by_cases c22 : t412 = t416
     ·rw [if_pos c22] at H
      have c22b0 : (t412 == t416) = true := beq_iff_eq.mpr c22
      have c22b1 : (t412 != t416) = false := bne_eq_false_iff_eq.mpr c22
      clear c22
      replace H := Option.bind_eq_some_iff.mp H
      obtain ⟨t423, A230, H⟩ := H
      replace H : (if t423 = true then (if t420 = t422 then (if t419 = t421 then (if t412 = t408 then (laws_FnPlanValues.j0 k t401 t402 t403 t407 t408 t411 t419 (t420 != t408)) else (laws_FnPlanValues.j0 k t401 t402 t403 t407 t408 t411 t419 true)) else (laws_FnPlanValues.j0 k t401 t402 t403 t407 t408 t411 t419 true)) else (laws_FnPlanValues.j0 k t401 t402 t403 t407 t408 t411 t419 true)) else (laws_FnPlanValues.j0 k t401 t402 t403 t407 t408 t411 t419 true)) = some r := H
      have A23 := Aside0.mk A230
      clear A230
      by_cases c24 : t423 = true
      ·subst c24
       have H1 : (if t420 = t422 then (if t419 = t421 then (if t412 = t408 then (laws_FnPlanValues.j0 k t401 t402 t403 t407 t408 t411 t419 (t420 != t408)) else (laws_FnPlanValues.j0 k t401 t402 t403 t407 t408 t411 t419 true)) else (laws_FnPlanValues.j0 k t401 t402 t403 t407 t408 t411 t419 true)) else (laws_FnPlanValues.j0 k t401 t402 t403 t407 t408 t411 t419 true)) = some r := by rw [if_pos rfl] at H; exact H
       clear H
       have H := H1
       clear H1
       by_cases c25 : t420 = t422
       ·rw [if_pos c25] at H
        have c25b0 : (t420 == t422) = true := beq_iff_eq.mpr c25
        have c25b1 : (t420 != t422) = false := bne_eq_false_iff_eq.mpr c25
        clear c25
        by_cases c26 : t419 = t421
        ·rw [if_pos c26] at H
         have c26b0 : (t419 == t421) = true := beq_iff_eq.mpr c26
         have c26b1 : (t419 != t421) = false := bne_eq_false_iff_eq.mpr c26
         clear c26
         by_cases c27 : t412 = t408
         ·rw [if_pos c27] at H
          have c27b0 : (t412 == t408) = true := beq_iff_eq.mpr c27
          have c27b1 : (t412 != t408) = false := bne_eq_false_iff_eq.mpr c27
          clear c27
          have H' := Aside0.mk H
          clear H
          obtain ⟨Ao28, co28, eo28⟩ := Kd.R_slice HO414.out
          subst eo28
          obtain ⟨Ao29, co29, eo29⟩ := Kd.R_slice HO418.out
          subst eo29
          go_wp2_with (first | (go_at_call 35; (with_reducible refine (laws_likeInts.calls k _ _ t411 _ _ t415 true _ ?side1 ?side2 ?side3 ?side4 A23.out).mono ?_); (case side1 => repeat (first | exact (Kd.R_reads' HO414.out).2.2 | (with_reducible refine Kd.C_alloc ?_ _) | (with_reducible refine Kd.C_drewN ?_ _) | (with_reducible refine Kd.C_drew ?_))); (case side2 => exact (Kd.R_reads' HO414.out).2.1); (case side3 => repeat (first | exact (Kd.R_reads' HO418.out).2.2 | (with_reducible refine Kd.C_alloc ?_ _) | (with_reducible refine Kd.C_drewN ?_ _) | (with_reducible refine Kd.C_drew ?_))); (case side4 => exact (Kd.R_reads' HO418.out).2.1); rintro e w' ⟨rfl, ⟨nd, rfl⟩⟩; (try first | exact ⟨rfl, _, World.drewN_drewN _ _ _⟩ | exact ⟨rfl, _, Eq.trans (World.drewN_drewN _ _ _) (congrArg (World.drewN _) (Nat.add_assoc _ _ _))⟩)))
          repeat (go_quiet (first | (go_at_call 35; (with_reducible refine (laws_likeInts.calls k _ _ t411 _ _ t415 true _ ?side1 ?side2 ?side3 ?side4 A23.out).mono ?_); (case side1 => repeat (first | exact (Kd.R_reads' HO414.out).2.2 | (with_reducible refine Kd.C_alloc ?_ _) | (with_reducible refine Kd.C_drewN ?_ _) | (with_reducible refine Kd.C_drew ?_))); (case side2 => exact (Kd.R_reads' HO414.out).2.1); (case side3 => repeat (first | exact (Kd.R_reads' HO418.out).2.2 | (with_reducible refine Kd.C_alloc ?_ _) | (with_reducible refine Kd.C_drewN ?_ _) | (with_reducible refine Kd.C_drew ?_))); (case side4 => exact (Kd.R_reads' HO418.out).2.1); rintro e w' ⟨rfl, ⟨nd, rfl⟩⟩; (try first | exact ⟨rfl, _, World.drewN_drewN _ _ _⟩ | exact ⟨rfl, _, Eq.trans (World.drewN_drewN _ _ _) (congrArg (World.drewN _) (Nat.add_assoc _ _ _))⟩))); try go_wp2_with (first | (go_at_call 35; (with_reducible refine (laws_likeInts.calls k _ _ t411 _ _ t415 true _ ?side1 ?side2 ?side3 ?side4 A23.out).mono ?_); (case side1 => repeat (first | exact (Kd.R_reads' HO414.out).2.2 | (with_reducible refine Kd.C_alloc ?_ _) | (with_reducible refine Kd.C_drewN ?_ _) | (with_reducible refine Kd.C_drew ?_))); (case side2 => exact (Kd.R_reads' HO414.out).2.1); (case side3 => repeat (first | exact (Kd.R_reads' HO418.out).2.2 | (with_reducible refine Kd.C_alloc ?_ _) | (with_reducible refine Kd.C_drewN ?_ _) | (with_reducible refine Kd.C_drew ?_))); (case side4 => exact (Kd.R_reads' HO418.out).2.1); rintro e w' ⟨rfl, ⟨nd, rfl⟩⟩; (try first | exact ⟨rfl, _, World.drewN_drewN _ _ _⟩ | exact ⟨rfl, _, Eq.trans (World.drewN_drewN _ _ _) (congrArg (World.drewN _) (Nat.add_assoc _ _ _))⟩))))
          go_meet
          case rel => exact ⟨_, ((t420 != t408)), (by first | rfl | (simp; done) | (simp [*]; done)), H', ⟨by first | omega | exact Nat.le_refl _⟩, ⟨by (with_reducible repeat (first | apply Kd.R_alloc | apply Kd.R_drewN | apply Kd.R_drew)); exact HO406.out⟩, ⟨by (with_reducible repeat (first | apply Kd.R_alloc | apply Kd.R_drewN | apply Kd.R_drew)); exact Kd.R_mono HO414.out (fun _ hk => trivial)⟩, ⟨by repeat (first | (with_reducible first | exact HB.out | apply below_alloc | apply pw_below_drewN | apply below_drew1) | exact HB.out)⟩⟩
         ·rw [if_neg c27] at H
          have c27b0 : (t412 == t408) = false := beq_eq_false_iff_ne.mpr c27
          have c27b1 : (t412 != t408) = true := bne_iff_ne.mpr c27
          (first | exact (laws_FnPlanValues.j0_no H hr_.out).elim)
        ·rw [if_neg c26] at H
         have c26b0 : (t419 == t421) = false := beq_eq_false_iff_ne.mpr c26
         have c26b1 : (t419 != t421) = true := bne_iff_ne.mpr c26
         (first | exact (laws_FnPlanValues.j0_no H hr_.out).elim)
       ·rw [if_neg c25] at H
        have c25b0 : (t420 == t422) = false := beq_eq_false_iff_ne.mpr c25
        have c25b1 : (t420 != t422) = true := bne_iff_ne.mpr c25
        (first | exact (laws_FnPlanValues.j0_no H hr_.out).elim)
      ·replace c24 := Bool.eq_false_iff.mpr c24
       subst c24
       have H1 : (laws_FnPlanValues.j0 k t401 t402 t403 t407 t408 t411 t419 true) = some r := by rw [if_neg (show ¬ (false = true) by decide)] at H; exact H
       clear H
       have H := H1
       clear H1
       (first | exact (laws_FnPlanValues.j0_no H hr_.out).elim)
     ·rw [if_neg c22] at H
      have c22b0 : (t412 == t416) = false := beq_eq_false_iff_ne.mpr c22
      have c22b1 : (t412 != t416) = true := bne_iff_ne.mpr c22
      (first | exact (laws_FnPlanValues.j0_no H hr_.out).elim)
    ·rw [if_neg c21] at H
     have c21b0 : (t407 == t409) = false := beq_eq_false_iff_ne.mpr c21
     have c21b1 : (t407 != t409) = true := bne_iff_ne.mpr c21
     (first | exact (laws_FnPlanValues.j0_no H hr_.out).elim)
   ·rw [if_neg c20] at H
    have c20b0 : (t408 == t410) = false := beq_eq_false_iff_ne.mpr c20
    have c20b1 : (t408 != t410) = true := bne_iff_ne.mpr c20
    (first | rw [c20b0] | (simp only [i64_w, i32_w]; rw [c20b0]) | skip)
    (first | exact (laws_FnPlanValues.j0_no H hr_.out).elim)
  case rest =>
   clear HC11
   try clear c2
   try clear p2
   try clear c3
   try clear c8
   try clear c20
   try clear c20b0
   try clear c20b1
   try clear c21
   try clear c21b0
   try clear c21b1
   try clear c22
   try clear c22b0
   try clear c22b1
   try clear c24
   try clear c25
   try clear c25b0
   try clear c25b1
   try clear c26
   try clear c26b0
   try clear c26b1
   try clear c27
   try clear c27b0
   try clear c27b1
   obtain ⟨kq, x119_10, rfl, HA, HJ10, HO_5, HO_11, HB⟩ := hcut
   cases kq with
   | zero => exact absurd HA.out (by simp [laws_FnPlanValues.j0])
   | succ kj10 =>
    have H := HA.out
    clear HA
    simp only [laws_FnPlanValues.j0] at H
    by_cases c38 : x119_10 = true
    ·subst c38
     have H1 : (some false) = some r := by rw [if_pos rfl] at H; exact H
     clear H
     have H := H1
     clear H1
     exact absurd ((Option.some.inj H).trans hr_.out) (by decide)
    ·replace c38 := Bool.eq_false_iff.mpr c38
     subst c38
     have H1 : (if t408 = 0 then (laws_FnPlanValues.l0 kj10 t401 t402 t403 t407 t411 t419 0 t419 0) else (some true)) = some r := by rw [if_neg (show ¬ (false = true) by decide)] at H; exact H
     clear H
     have H := H1
     clear H1
     by_cases c39 : t408 = 0
     ·rw [if_pos c39] at H
      have c39b0 : (t408 == 0) = true := beq_iff_eq.mpr c39
      have c39b1 : (t408 != 0) = false := bne_eq_false_iff_eq.mpr c39
      clear c39
      have H' := Aside0.mk H
      clear H
      go_wp2
      repeat (go_quiet (fail); try go_wp2)
      go_loopg [19, 20, 21] kj10 (fun kq v19 v20 v21 w' => ∃ (x19_2 : Int) (x20_2 : Int) (x21_2 : Int), v19 = .int .i64 x19_2 ∧ v20 = .int .i64 x20_2 ∧ v21 = .int .i64 x21_2 ∧ Aside0 (laws_FnPlanValues.l0 kq t401 t402 t403 t407 t411 t419 x19_2 x20_2 x21_2 = some r) ∧ Aside0 (kq ≤ kj10) ∧ Aside0 (Kd.R k50 50 w' w.heap.size (fun _ => True) (.slice Ao13 t403.length co13) t403) ∧ Aside0 (Kd.R (Kd.int .i64) 2 w' w.heap.size (fun _ => True) v413 t411) ∧ Aside0 (Below w.heap.size w w'))
      case atStart => exact ⟨(0), (t419), (0), (by first | rfl | (simp; done) | (simp [*]; done)), (by first | rfl | (simp; done) | (simp [*]; done)), (by first | rfl | (simp; done) | (simp [*]; done)), H', ⟨Nat.le_refl _⟩, ⟨by (with_reducible repeat (first | apply Kd.R_alloc | apply Kd.R_drewN | apply Kd.R_drew)); exact HO_5.out⟩, ⟨by (with_reducible repeat (first | apply Kd.R_alloc | apply Kd.R_drewN | apply Kd.R_drew)); exact HO_11.out⟩, ⟨by repeat (first | (with_reducible first | exact HB.out | apply below_alloc | apply pw_below_drewN | apply below_drew1) | exact HB.out)⟩⟩
      case round =>
       clear H'
       try clear c2
       try clear p2
       try clear c3
       try clear c8
       try clear c20
       try clear c20b0
       try clear c20b1
       try clear c21
       try clear c21b0
       try clear c21b1
       try clear c22
       try clear c22b0
       try clear c22b1
       try clear c24
       try clear c25
       try clear c25b0
       try clear c25b1
       try clear c26
       try clear c26b0
       try clear c26b1
       try clear c27
       try clear c27b0
       try clear c27b1
       try clear c38
       try clear c39
       try clear c39b0
       try clear c39b1
       try clear p2
       obtain ⟨x19_2, x20_2, x21_2, rfl, rfl, rfl, HA, HK2, HO_5, HO_11, HB⟩ := hrel
       cases gk with
       | zero => exact absurd HA.out (by simp [laws_FnPlanValues.l0])
       | succ k2 =>
        have H := HA.out
        clear HA
        simp only [laws_FnPlanValues.l0] at H
        by_cases c40 : x21_2 < (t411.length : Int)
        ·rw [if_pos c40] at H
         have c40b0 : decide (x21_2 < (t411.length : Int)) = true := decide_eq_true c40
         clear c40
         by_cases c41 : 0 ≤ x21_2
         ·rw [if_pos c41] at H
          have c41b0 : decide (0 ≤ x21_2) = true := decide_eq_true c41
          clear c41
          by_cases c42 : x21_2 < (t403.length : Int)
          ·rw [if_pos c42] at H
           have c42b0 : decide (x21_2 < (t403.length : Int)) = true := decide_eq_true c42
           clear c42
           have H' := Aside0.mk H
           clear H
           obtain ⟨Ao43, co43, eo43⟩ := Kd.R_slice HO_11.out
           subst eo43
           have p424 : 0 ≤ (x21_2 : Int) := of_decide_eq_true (by first | (with_reducible assumption) | assumption)
           have q424 : x21_2 < (t411.length : Int) := of_decide_eq_true (by first | (with_reducible assumption) | assumption)
           obtain ⟨ad424, e424, hx424_0⟩ := Kd.at_int (Kd.R_reads' HO_11.out).2.2 x21_2 p424 q424
           cases e424
           replace p424 := eq_true p424
           replace q424 := eq_true q424
           have p425 : 0 ≤ (x21_2 : Int) := of_decide_eq_true (by first | (with_reducible assumption) | assumption)
           have q425 : x21_2 < (t403.length : Int) := of_decide_eq_true (by first | (with_reducible assumption) | assumption)
           obtain ⟨ad425, e425, hx425_0, hx425_1, hx425_2⟩ := at_T50 (Kd.R_reads' HO_5.out).2.2 x21_2 p425 q425
           cases e425
           replace p425 := eq_true p425
           replace q425 := eq_true q425
           have p426 : 0 ≤ (x21_2 : Int) := of_decide_eq_true (by first | (with_reducible assumption) | assumption)
           have q426 : x21_2 < (t411.length : Int) := of_decide_eq_true (by first | (with_reducible assumption) | assumption)
           obtain ⟨ad426, e426, hx426_0⟩ := Kd.at_int (Kd.R_reads' HO_11.out).2.2 x21_2 p426 q426
           obtain rfl : ad424 = ad426 := (by injection e426)
           replace p426 := eq_true p426
           replace q426 := eq_true q426
           have p427 : 0 ≤ (x21_2 : Int) := of_decide_eq_true (by first | (with_reducible assumption) | assumption)
           have q427 : x21_2 < (t403.length : Int) := of_decide_eq_true (by first | (with_reducible assumption) | assumption)
           obtain ⟨ad427, e427, hx427_0, hx427_1, hx427_2⟩ := at_T50 (Kd.R_reads' HO_5.out).2.2 x21_2 p427 q427
           obtain rfl : ad425 = ad427 := (by injection e427)
           replace p427 := eq_true p427
           replace q427 := eq_true q427
           have p428 : 0 ≤ (x21_2 : Int) := of_decide_eq_true (by first | (with_reducible assumption) | assumption)
           have q428 : x21_2 < (t403.length : Int) := of_decide_eq_true (by first | (with_reducible assumption) | assumption)
           obtain ⟨ad428, e428, hx428_0, hx428_1, hx428_2⟩ := at_T50 (Kd.R_reads' HO_5.out).2.2 x21_2 p428 q428
           obtain rfl : ad425 = ad428 := (by injection e428)
           replace p428 := eq_true p428
           replace q428 := eq_true q428
           go_wp2
           repeat (go_quiet (fail); try go_wp2)
           go_roundg k2
           case measure => have := HJ10.out; have := HK2.out; omega
           case rel => exact ⟨(wrap64 (x19_2 + (wrap64 ((rd t411 x21_2) * ((rd_T50 t403 x21_2).f2))))), (wrap64 (x20_2 + (wrap64 ((wrap64 ((rd t411 x21_2) * ((rd_T50 t403 x21_2).f0))) * ((rd_T50 t403 x21_2).f1))))), (wrap64 (x21_2 + 1)), (by first | rfl | (simp; done) | (simp [*]; done)), (by first | rfl | (simp; done) | (simp [*]; done)), (by first | rfl | (simp; done) | (simp [*]; done)), H', ⟨by have := HJ10.out; have := HK2.out; omega⟩, ⟨by (with_reducible repeat (first | apply Kd.R_alloc | apply Kd.R_drewN | apply Kd.R_drew)); exact HO_5.out⟩, ⟨by (with_reducible repeat (first | apply Kd.R_alloc | apply Kd.R_drewN | apply Kd.R_drew)); exact HO_11.out⟩, ⟨by repeat (first | (with_reducible first | exact HB.out | apply below_alloc | apply pw_below_drewN | apply below_drew1) | exact HB.out)⟩⟩
          ·rw [if_neg c42] at H
           exact absurd H (by simp)
         ·rw [if_neg c41] at H
          exact absurd H (by simp)
        ·rw [if_neg c40] at H
         have c40b0 : decide (x21_2 < (t411.length : Int)) = false := decide_eq_false c40
         clear c40
         replace H := Option.bind_eq_some_iff.mp H
         obtain ⟨⟨t429, t430⟩, A440, H⟩ := H
         replace H : (if x19_2 = t407 then (if x20_2 = (wrap64 (t401 * t402)) then (if t419 ≥ 0 then (if t430 = 0 then (some (decide (t407 ≤ t429))) else (some false)) else (some false)) else (some false)) else (some false)) = some r := H
         have A44 := Aside0.mk A440
         clear A440
         by_cases c45 : x19_2 = t407
         ·rw [if_pos c45] at H
          have c45b0 : (x19_2 == t407) = true := beq_iff_eq.mpr c45
          have c45b1 : (x19_2 != t407) = false := bne_eq_false_iff_eq.mpr c45
          clear c45
          by_cases c46 : x20_2 = (wrap64 (t401 * t402))
          ·rw [if_pos c46] at H
           have c46b0 : (x20_2 == (wrap64 (t401 * t402))) = true := beq_iff_eq.mpr c46
           have c46b1 : (x20_2 != (wrap64 (t401 * t402))) = false := bne_eq_false_iff_eq.mpr c46
           clear c46
           by_cases c47 : t419 ≥ 0
           ·rw [if_pos c47] at H
            have c47b0 : decide (0 ≤ t419) = true := decide_eq_true c47
            clear c47
            by_cases c48 : t430 = 0
            ·rw [if_pos c48] at H
             have c48b0 : (t430 == 0) = true := beq_iff_eq.mpr c48
             have c48b1 : (t430 != 0) = false := bne_eq_false_iff_eq.mpr c48
             clear c48
             obtain rfl := Option.some.inj H
             obtain ⟨Ao49, co49, eo49⟩ := Kd.R_slice HO_11.out
             subst eo49
             go_wp2_with (first | (go_at_call 26; (with_reducible refine (impl_BestValue.calls t401 t402 _ _ t403 t429 t430 _ ?side1 ?side2 A44.out).mono ?_); (case side1 => repeat (first | exact (Kd.R_reads' HO_5.out).2.2 | (with_reducible refine Kd.C_alloc ?_ _) | (with_reducible refine Kd.C_drewN ?_ _) | (with_reducible refine Kd.C_drew ?_))); (case side2 => exact (Kd.R_reads' HO_5.out).2.1); rintro e w50 ⟨rfl, hb⟩; have n0_ := Aside0.mk (Kd.R_below (by (with_reducible repeat (first | apply Kd.R_alloc | apply Kd.R_drewN | apply Kd.R_drew)); exact HO_5.out) hb); have n1_ := Aside0.mk (Kd.R_below (by (with_reducible repeat (first | apply Kd.R_alloc | apply Kd.R_drewN | apply Kd.R_drew)); exact HO_11.out) hb); have n2_ := Aside0.mk (below_step (by repeat (first | (with_reducible first | exact HB.out | apply below_alloc | apply pw_below_drewN | apply below_drew1) | exact HB.out)) hb); clear HO_5; clear HO_11; clear HB; have HO_5 := n0_; have HO_11 := n1_; have HB := n2_; clear n0_ n1_ n2_; (try clear hb)))
             repeat (go_quiet (first | (go_at_call 26; (with_reducible refine (impl_BestValue.calls t401 t402 _ _ t403 t429 t430 _ ?side1 ?side2 A44.out).mono ?_); (case side1 => repeat (first | exact (Kd.R_reads' HO_5.out).2.2 | (with_reducible refine Kd.C_alloc ?_ _) | (with_reducible refine Kd.C_drewN ?_ _) | (with_reducible refine Kd.C_drew ?_))); (case side2 => exact (Kd.R_reads' HO_5.out).2.1); rintro e w50 ⟨rfl, hb⟩; have n0_ := Aside0.mk (Kd.R_below (by (with_reducible repeat (first | apply Kd.R_alloc | apply Kd.R_drewN | apply Kd.R_drew)); exact HO_5.out) hb); have n1_ := Aside0.mk (Kd.R_below (by (with_reducible repeat (first | apply Kd.R_alloc | apply Kd.R_drewN | apply Kd.R_drew)); exact HO_11.out) hb); have n2_ := Aside0.mk (below_step (by repeat (first | (with_reducible first | exact HB.out | apply below_alloc | apply pw_below_drewN | apply below_drew1) | exact HB.out)) hb); clear HO_5; clear HO_11; clear HB; have HO_5 := n0_; have HO_11 := n1_; have HB := n2_; clear n0_ n1_ n2_; (try clear hb))); try go_wp2_with (first | (go_at_call 26; (with_reducible refine (impl_BestValue.calls t401 t402 _ _ t403 t429 t430 _ ?side1 ?side2 A44.out).mono ?_); (case side1 => repeat (first | exact (Kd.R_reads' HO_5.out).2.2 | (with_reducible refine Kd.C_alloc ?_ _) | (with_reducible refine Kd.C_drewN ?_ _) | (with_reducible refine Kd.C_drew ?_))); (case side2 => exact (Kd.R_reads' HO_5.out).2.1); rintro e w50 ⟨rfl, hb⟩; have n0_ := Aside0.mk (Kd.R_below (by (with_reducible repeat (first | apply Kd.R_alloc | apply Kd.R_drewN | apply Kd.R_drew)); exact HO_5.out) hb); have n1_ := Aside0.mk (Kd.R_below (by (with_reducible repeat (first | apply Kd.R_alloc | apply Kd.R_drewN | apply Kd.R_drew)); exact HO_11.out) hb); have n2_ := Aside0.mk (below_step (by repeat (first | (with_reducible first | exact HB.out | apply below_alloc | apply pw_below_drewN | apply below_drew1) | exact HB.out)) hb); clear HO_5; clear HO_11; clear HB; have HO_5 := n0_; have HO_11 := n1_; have HB := n2_; clear n0_ n1_ n2_; (try clear hb))))
             go_ret
             exact ⟨by first | rfl | (simp [errW_none, errW_some] <;> rfl) | (simp [*, errW_none, errW_some] <;> rfl), by repeat (first | (with_reducible first | exact HB.out | apply below_alloc | apply pw_below_drewN | apply below_drew1) | exact HB.out)⟩
            ·rw [if_neg c48] at H
             have c48b0 : (t430 == 0) = false := beq_eq_false_iff_ne.mpr c48
             have c48b1 : (t430 != 0) = true := bne_iff_ne.mpr c48
             exact absurd ((Option.some.inj H).trans hr_.out) (by decide)
           ·rw [if_neg c47] at H
            have c47b0 : decide (0 ≤ t419) = false := decide_eq_false c47
            clear c47
            exact absurd ((Option.some.inj H).trans hr_.out) (by decide)
          ·rw [if_neg c46] at H
           have c46b0 : (x20_2 == (wrap64 (t401 * t402))) = false := beq_eq_false_iff_ne.mpr c46
           have c46b1 : (x20_2 != (wrap64 (t401 * t402))) = true := bne_iff_ne.mpr c46
           exact absurd ((Option.some.inj H).trans hr_.out) (by decide)
         ·rw [if_neg c45] at H
          have c45b0 : (x19_2 == t407) = false := beq_eq_false_iff_ne.mpr c45
          have c45b1 : (x19_2 != t407) = true := bne_iff_ne.mpr c45
          exact absurd ((Option.some.inj H).trans hr_.out) (by decide)
     ·rw [if_neg c39] at H
      have c39b0 : (t408 == 0) = false := beq_eq_false_iff_ne.mpr c39
      have c39b1 : (t408 != 0) = true := bne_iff_ne.mpr c39
      obtain rfl := Option.some.inj H
      go_wp2
      repeat (go_quiet (fail); try go_wp2)
      go_ret
      exact ⟨by first | rfl | (simp [errW_none, errW_some] <;> rfl) | (simp [*, errW_none, errW_some] <;> rfl), by repeat (first | (with_reducible first | exact HB.out | apply below_alloc | apply pw_below_drewN | apply below_drew1) | exact HB.out)⟩

end Go.Proofs.YtomddpdfcdnaaaaDoor.PFnPlanValues
