-- Written by a program of this session.
import Derived.Test.YtnnglnphkbpemaaDoorPFnCodesx0
import Derived.Test.YtnnglnphkbpemaaDoorPFnCodesx1
import Derived.Test.YtnnglnphkbpemaaDoorPFnCodesx2
import Derived.Test.YtnnglnphkbpemaaDoorPFnCodesx4
import Derived.Test.YtnnglnphkbpemaaDoorPFnCodesx5
import Derived.Test.YtnnglnphkbpemaaDoorPFnCodesx6
namespace Go.Proofs.YtnnglnphkbpemaaDoor.PFnCodes
open Go.RowKit Go.Proofs.YtnnglnphkbpemaaDoorW.PrintWords Go.Proofs.YtnnglnphkbpemaaDoorW.PrintLast Go.Proofs.YtnnglnphkbpemaaDoorW.PrintMore
attribute [local go_sem] max2_int min2_int max_two min_two max_three min_three max_four min_four   -- for this text's walks alone
set_option linter.unusedVariables false
set_option linter.unusedSimpArgs false

/-! ### laws_FnCodes: function 5 -/
mutual
def laws_FnCodes.j0 : Nat → Int → Int → Int → Int → Bool → Option (Bool)
  | 0, _, _, _, _, _ => none
  | k + 1, x3, x4, x5, x6, x133 => if x133 = true then (some false) else (if x6 = 0 then ((impl_PartsOfCode.f x5).bind fun bt301 => ((impl_CodeText.f x5).bind fun t304 => ((impl_ReadCode.f t304).bind fun bt305 => (if bt301.2.2 = 0 then (if bt301.1 = x3 then (if bt301.2.1 = x4 then (if bt305.2 = true then (laws_FnCodes.j1 k x5 (bt305.1 != x5)) else (laws_FnCodes.j1 k x5 true)) else (laws_FnCodes.j1 k x5 true)) else (laws_FnCodes.j1 k x5 true)) else (laws_FnCodes.j1 k x5 true))))) else (some true))
def laws_FnCodes.j1 : Nat → Int → Bool → Option (Bool)
  | 0, _, _ => none
  | k + 1, x5, x168 => if x168 = true then (some false) else (laws_FnCodes.l0 k x5 1 0)
def laws_FnCodes.l0 : Nat → Int → Int → Int → Option (Bool)
  | 0, _, _, _ => none
  | k + 1, x5, x27, x28 => if x28 < 7 then (if x27 = 0 then (none) else (laws_FnCodes.l1 k x5 x27 x28 (Int.tmod (wrap64 (Int.tdiv x5 x27)) 10) 0)) else (some true)
def laws_FnCodes.l1 : Nat → Int → Int → Int → Int → Int → Option (Bool)
  | 0, _, _, _, _, _ => none
  | k + 1, x5, x27, x28, x29, x30 => if x30 < 10 then (if x30 = x29 then (laws_FnCodes.l1 k x5 x27 x28 x29 (wrap64 (x30 + 1))) else ((impl_IsCode.f (wrap64 (x5 + (wrap64 ((wrap64 (x30 - x29)) * x27))))).bind fun t307 => (if t307 = true then (some false) else (laws_FnCodes.l1 k x5 x27 x28 x29 (wrap64 (x30 + 1)))))) else (if x27 = 0 then (none) else (if x28 < 6 then (if (Int.tmod (wrap64 (Int.tdiv (wrap64 (Int.tdiv x5 x27)) 10)) 10) = x29 then (laws_FnCodes.l0 k x5 (wrap64 (10 * x27)) (wrap64 (x28 + 1))) else ((impl_IsCode.f (wrap64 ((wrap64 (x5 + (wrap64 ((wrap64 ((Int.tmod (wrap64 (Int.tdiv (wrap64 (Int.tdiv x5 x27)) 10)) 10) - x29)) * x27)))) + (wrap64 ((wrap64 ((wrap64 (x29 - (Int.tmod (wrap64 (Int.tdiv (wrap64 (Int.tdiv x5 x27)) 10)) 10))) * x27)) * 10))))).bind fun t308 => (if t308 = true then (some false) else (laws_FnCodes.l0 k x5 (wrap64 (10 * x27)) (wrap64 (x28 + 1)))))) else (laws_FnCodes.l0 k x5 (wrap64 (10 * x27)) (wrap64 (x28 + 1)))))
end
def laws_FnCodes.f (k : Nat) (l0 : List Int) : Option (Bool) := (laws_big.f l0).bind fun t278 => (if t278 = true then (some true) else ((spec_DrawCodeOf.f k l0).bind fun bt279 => ((impl_CodeOf.f k bt279.1 bt279.2).bind fun bt281 => ((spec_CodeOf.f k bt279.1 bt279.2).bind fun bt283 => ((spec_DrawPartsOfCode.f k l0).bind fun t285 => ((impl_PartsOfCode.f t285).bind fun bt286 => ((spec_PartsOfCode.f t285).bind fun bt289 => ((impl_CodeText.f t285).bind fun t292 => ((spec_DrawReadCode.f k l0).bind fun t293 => ((impl_ReadCode.f t293).bind fun bt294 => ((spec_ReadCode.f k t293).bind fun bt296 => (if bt281.2 = bt283.2 then (if bt281.1 = bt283.1 then (if bt286.2.2 = bt289.2.2 then (if bt286.1 = bt289.1 then (if bt286.2.1 = bt289.2.1 then ((spec_CodeText.f k t285).bind fun t298 => (if t292.toList = t298.toList then (if (bt294.2 != bt296.2) = true then (laws_FnCodes.j0 k bt279.1 bt279.2 bt281.1 bt281.2 true) else (if bt294.1 = bt296.1 then ((impl_IsCode.f t285).bind fun t299 => (if (t299 != (bt289.2.2 == 0)) = true then (laws_FnCodes.j0 k bt279.1 bt279.2 bt281.1 bt281.2 true) else (if bt294.2 = true then ((impl_CodeText.f bt294.1).bind fun t300 => (laws_FnCodes.j0 k bt279.1 bt279.2 bt281.1 bt281.2 (t300.toList != t293.toList))) else (laws_FnCodes.j0 k bt279.1 bt279.2 bt281.1 bt281.2 false)))) else (laws_FnCodes.j0 k bt279.1 bt279.2 bt281.1 bt281.2 true))) else (laws_FnCodes.j0 k bt279.1 bt279.2 bt281.1 bt281.2 true))) else (laws_FnCodes.j0 k bt279.1 bt279.2 bt281.1 bt281.2 true)) else (laws_FnCodes.j0 k bt279.1 bt279.2 bt281.1 bt281.2 true)) else (laws_FnCodes.j0 k bt279.1 bt279.2 bt281.1 bt281.2 true)) else (laws_FnCodes.j0 k bt279.1 bt279.2 bt281.1 bt281.2 true)) else (laws_FnCodes.j0 k bt279.1 bt279.2 bt281.1 bt281.2 true)))))))))))))
theorem laws_FnCodes.mono_l : ∀ k, (∀ y0 y1 y2 y3 y4, LeO (laws_FnCodes.j0 k y0 y1 y2 y3 y4) (laws_FnCodes.j0 (k + 1) y0 y1 y2 y3 y4)) ∧ (∀ y0 y1, LeO (laws_FnCodes.j1 k y0 y1) (laws_FnCodes.j1 (k + 1) y0 y1)) ∧ (∀ y0 y1 y2, LeO (laws_FnCodes.l0 k y0 y1 y2) (laws_FnCodes.l0 (k + 1) y0 y1 y2)) ∧ (∀ y0 y1 y2 y3 y4, LeO (laws_FnCodes.l1 k y0 y1 y2 y3 y4) (laws_FnCodes.l1 (k + 1) y0 y1 y2 y3 y4))
  | 0 => ⟨fun _ _ _ _ _ r h => by simp [laws_FnCodes.j0] at h, fun _ _ r h => by simp [laws_FnCodes.j1] at h, fun _ _ _ r h => by simp [laws_FnCodes.l0] at h, fun _ _ _ _ _ r h => by simp [laws_FnCodes.l1] at h⟩
  | k + 1 => by
    obtain ⟨ih0, ih1, ih2, ih3⟩ := laws_FnCodes.mono_l k
    refine ⟨?_, ?_, ?_, ?_⟩
    · intro y0 y1 y2 y3 y4
      unfold laws_FnCodes.j0
      repeat' first
      | (with_reducible exact ih0 _ _ _ _ _)
      | (with_reducible exact ih1 _ _)
      | (with_reducible exact ih2 _ _ _)
      | (with_reducible exact ih3 _ _ _ _ _)
      | (with_reducible exact impl_CodeOf.mono _ _ _)
      | (with_reducible exact spec_CodeOf.mono _ _ _)
      | (with_reducible exact spec_CodeText.mono _ _)
      | (with_reducible exact spec_DrawCodeOf.mono _ _)
      | (with_reducible exact spec_DrawPartsOfCode.mono _ _)
      | (with_reducible exact spec_DrawReadCode.mono _ _)
      | (with_reducible exact spec_ReadCode.mono _ _)
      | (with_reducible exact LeO.refl _)
      | (with_reducible exact LeO.none _)
      | (with_reducible refine LeO.ite ?_ ?_)
      | (with_reducible refine LeO.bind ?_ (fun _ => ?_))
      | exact ih0 _ _ _ _ _
      | exact ih1 _ _
      | exact ih2 _ _ _
      | exact ih3 _ _ _ _ _
      | exact impl_CodeOf.mono _ _ _
      | exact spec_CodeOf.mono _ _ _
      | exact spec_CodeText.mono _ _
      | exact spec_DrawCodeOf.mono _ _
      | exact spec_DrawPartsOfCode.mono _ _
      | exact spec_DrawReadCode.mono _ _
      | exact spec_ReadCode.mono _ _
      | exact LeO.none _
      | refine LeO.ite ?_ ?_
      | refine LeO.bind ?_ (fun _ => ?_)
    · intro y0 y1
      unfold laws_FnCodes.j1
      repeat' first
      | (with_reducible exact ih0 _ _ _ _ _)
      | (with_reducible exact ih1 _ _)
      | (with_reducible exact ih2 _ _ _)
      | (with_reducible exact ih3 _ _ _ _ _)
      | (with_reducible exact impl_CodeOf.mono _ _ _)
      | (with_reducible exact spec_CodeOf.mono _ _ _)
      | (with_reducible exact spec_CodeText.mono _ _)
      | (with_reducible exact spec_DrawCodeOf.mono _ _)
      | (with_reducible exact spec_DrawPartsOfCode.mono _ _)
      | (with_reducible exact spec_DrawReadCode.mono _ _)
      | (with_reducible exact spec_ReadCode.mono _ _)
      | (with_reducible exact LeO.refl _)
      | (with_reducible exact LeO.none _)
      | (with_reducible refine LeO.ite ?_ ?_)
      | (with_reducible refine LeO.bind ?_ (fun _ => ?_))
      | exact ih0 _ _ _ _ _
      | exact ih1 _ _
      | exact ih2 _ _ _
      | exact ih3 _ _ _ _ _
      | exact impl_CodeOf.mono _ _ _
      | exact spec_CodeOf.mono _ _ _
      | exact spec_CodeText.mono _ _
      | exact spec_DrawCodeOf.mono _ _
      | exact spec_DrawPartsOfCode.mono _ _
      | exact spec_DrawReadCode.mono _ _
      | exact spec_ReadCode.mono _ _
      | exact LeO.none _
      | refine LeO.ite ?_ ?_
      | refine LeO.bind ?_ (fun _ => ?_)
    · intro y0 y1 y2
      unfold laws_FnCodes.l0
      repeat' first
      | (with_reducible exact ih0 _ _ _ _ _)
      | (with_reducible exact ih1 _ _)
      | (with_reducible exact ih2 _ _ _)
      | (with_reducible exact ih3 _ _ _ _ _)
      | (with_reducible exact impl_CodeOf.mono _ _ _)
      | (with_reducible exact spec_CodeOf.mono _ _ _)
      | (with_reducible exact spec_CodeText.mono _ _)
      | (with_reducible exact spec_DrawCodeOf.mono _ _)
      | (with_reducible exact spec_DrawPartsOfCode.mono _ _)
      | (with_reducible exact spec_DrawReadCode.mono _ _)
      | (with_reducible exact spec_ReadCode.mono _ _)
      | (with_reducible exact LeO.refl _)
      | (with_reducible exact LeO.none _)
      | (with_reducible refine LeO.ite ?_ ?_)
      | (with_reducible refine LeO.bind ?_ (fun _ => ?_))
      | exact ih0 _ _ _ _ _
      | exact ih1 _ _
      | exact ih2 _ _ _
      | exact ih3 _ _ _ _ _
      | exact impl_CodeOf.mono _ _ _
      | exact spec_CodeOf.mono _ _ _
      | exact spec_CodeText.mono _ _
      | exact spec_DrawCodeOf.mono _ _
      | exact spec_DrawPartsOfCode.mono _ _
      | exact spec_DrawReadCode.mono _ _
      | exact spec_ReadCode.mono _ _
      | exact LeO.none _
      | refine LeO.ite ?_ ?_
      | refine LeO.bind ?_ (fun _ => ?_)
    · intro y0 y1 y2 y3 y4
      unfold laws_FnCodes.l1
      repeat' first
      | (with_reducible exact ih0 _ _ _ _ _)
      | (with_reducible exact ih1 _ _)
      | (with_reducible exact ih2 _ _ _)
      | (with_reducible exact ih3 _ _ _ _ _)
      | (with_reducible exact impl_CodeOf.mono _ _ _)
      | (with_reducible exact spec_CodeOf.mono _ _ _)
      | (with_reducible exact spec_CodeText.mono _ _)
      | (with_reducible exact spec_DrawCodeOf.mono _ _)
      | (with_reducible exact spec_DrawPartsOfCode.mono _ _)
      | (with_reducible exact spec_DrawReadCode.mono _ _)
      | (with_reducible exact spec_ReadCode.mono _ _)
      | (with_reducible exact LeO.refl _)
      | (with_reducible exact LeO.none _)
      | (with_reducible refine LeO.ite ?_ ?_)
      | (with_reducible refine LeO.bind ?_ (fun _ => ?_))
      | exact ih0 _ _ _ _ _
      | exact ih1 _ _
      | exact ih2 _ _ _
      | exact ih3 _ _ _ _ _
      | exact impl_CodeOf.mono _ _ _
      | exact spec_CodeOf.mono _ _ _
      | exact spec_CodeText.mono _ _
      | exact spec_DrawCodeOf.mono _ _
      | exact spec_DrawPartsOfCode.mono _ _
      | exact spec_DrawReadCode.mono _ _
      | exact spec_ReadCode.mono _ _
      | exact LeO.none _
      | refine LeO.ite ?_ ?_
      | refine LeO.bind ?_ (fun _ => ?_)
theorem laws_FnCodes.mono : ∀ a0 k, LeO (laws_FnCodes.f k a0) (laws_FnCodes.f (k + 1) a0) := by
  intro a0 k
  obtain ⟨ih0, ih1, ih2, ih3⟩ := laws_FnCodes.mono_l k
  unfold laws_FnCodes.f
  repeat' first
      | (with_reducible exact ih0 _ _ _ _ _)
      | (with_reducible exact ih1 _ _)
      | (with_reducible exact ih2 _ _ _)
      | (with_reducible exact ih3 _ _ _ _ _)
      | (with_reducible exact impl_CodeOf.mono _ _ _)
      | (with_reducible exact spec_CodeOf.mono _ _ _)
      | (with_reducible exact spec_CodeText.mono _ _)
      | (with_reducible exact spec_DrawCodeOf.mono _ _)
      | (with_reducible exact spec_DrawPartsOfCode.mono _ _)
      | (with_reducible exact spec_DrawReadCode.mono _ _)
      | (with_reducible exact spec_ReadCode.mono _ _)
      | (with_reducible exact LeO.refl _)
      | (with_reducible exact LeO.none _)
      | (with_reducible refine LeO.ite ?_ ?_)
      | (with_reducible refine LeO.bind ?_ (fun _ => ?_))
      | exact ih0 _ _ _ _ _
      | exact ih1 _ _
      | exact ih2 _ _ _
      | exact ih3 _ _ _ _ _
      | exact impl_CodeOf.mono _ _ _
      | exact spec_CodeOf.mono _ _ _
      | exact spec_CodeText.mono _ _
      | exact spec_DrawCodeOf.mono _ _
      | exact spec_DrawPartsOfCode.mono _ _
      | exact spec_DrawReadCode.mono _ _
      | exact spec_ReadCode.mono _ _
      | exact LeO.none _
      | refine LeO.ite ?_ ?_
      | refine LeO.bind ?_ (fun _ => ?_)
theorem laws_FnCodes.j0_no {k : Nat} {y0 : Int} {y1 : Int} {y2 : Int} {y3 : Int} {r : Bool} (h : laws_FnCodes.j0 k y0 y1 y2 y3 true = some r) (hr : r = true) : False := by
  cases k with
  | zero => cases h
  | succ k => rw [laws_FnCodes.j0, if_pos rfl] at h; exact absurd ((Option.some.inj h).trans hr) (by decide)
theorem laws_FnCodes.j1_no {k : Nat} {y0 : Int} {r : Bool} (h : laws_FnCodes.j1 k y0 true = some r) (hr : r = true) : False := by
  cases k with
  | zero => cases h
  | succ k => rw [laws_FnCodes.j1, if_pos rfl] at h; exact absurd ((Option.some.inj h).trans hr) (by decide)
set_option maxHeartbeats 8000000 in
set_option maxRecDepth 100000 in
theorem laws_FnCodes.calls (k : Nat) (A0 : Option Addr) (c0 : Nat) (l0 : List Int) (r : Bool) (w : World) (hT_ : TabL w) (hr0 : Kd.C (Kd.int .u8) w A0 l0.length l0) (hc0 : l0.length ≤ c0) (hr_ : Aside0 (r = true)) (h : laws_FnCodes.f k l0 = some r) :
    Calls Tryd.prog 5 #[.slice A0 l0.length c0] w fun e w' => e = .returned (.bool r) ∧ Below w.heap.size w w' := by
  have HR0 := Aside0.mk hr0
  have HC0 := Aside0.mk hc0
  clear hr0 hc0
  have HT_ := Aside0.mk hT_
  clear hT_
  have HB := Aside0.mk (Below.refl w.heap.size w)
  have H : ((laws_big.f l0).bind fun t278 => (if t278 = true then (some true) else ((spec_DrawCodeOf.f k l0).bind fun bt279 => ((impl_CodeOf.f k bt279.1 bt279.2).bind fun bt281 => ((spec_CodeOf.f k bt279.1 bt279.2).bind fun bt283 => ((spec_DrawPartsOfCode.f k l0).bind fun t285 => ((impl_PartsOfCode.f t285).bind fun bt286 => ((spec_PartsOfCode.f t285).bind fun bt289 => ((impl_CodeText.f t285).bind fun t292 => ((spec_DrawReadCode.f k l0).bind fun t293 => ((impl_ReadCode.f t293).bind fun bt294 => ((spec_ReadCode.f k t293).bind fun bt296 => (if bt281.2 = bt283.2 then (if bt281.1 = bt283.1 then (if bt286.2.2 = bt289.2.2 then (if bt286.1 = bt289.1 then (if bt286.2.1 = bt289.2.1 then ((spec_CodeText.f k t285).bind fun t298 => (if t292.toList = t298.toList then (if (bt294.2 != bt296.2) = true then (laws_FnCodes.j0 k bt279.1 bt279.2 bt281.1 bt281.2 true) else (if bt294.1 = bt296.1 then ((impl_IsCode.f t285).bind fun t299 => (if (t299 != (bt289.2.2 == 0)) = true then (laws_FnCodes.j0 k bt279.1 bt279.2 bt281.1 bt281.2 true) else (if bt294.2 = true then ((impl_CodeText.f bt294.1).bind fun t300 => (laws_FnCodes.j0 k bt279.1 bt279.2 bt281.1 bt281.2 (t300.toList != t293.toList))) else (laws_FnCodes.j0 k bt279.1 bt279.2 bt281.1 bt281.2 false)))) else (laws_FnCodes.j0 k bt279.1 bt279.2 bt281.1 bt281.2 true))) else (laws_FnCodes.j0 k bt279.1 bt279.2 bt281.1 bt281.2 true))) else (laws_FnCodes.j0 k bt279.1 bt279.2 bt281.1 bt281.2 true)) else (laws_FnCodes.j0 k bt279.1 bt279.2 bt281.1 bt281.2 true)) else (laws_FnCodes.j0 k bt279.1 bt279.2 bt281.1 bt281.2 true)) else (laws_FnCodes.j0 k bt279.1 bt279.2 bt281.1 bt281.2 true)) else (laws_FnCodes.j0 k bt279.1 bt279.2 bt281.1 bt281.2 true)))))))))))))) = some r := h
  clear h
  replace H := Option.bind_eq_some_iff.mp H
  obtain ⟨t278, A20, H⟩ := H
  replace H : (if t278 = true then (some true) else ((spec_DrawCodeOf.f k l0).bind fun bt279 => ((impl_CodeOf.f k bt279.1 bt279.2).bind fun bt281 => ((spec_CodeOf.f k bt279.1 bt279.2).bind fun bt283 => ((spec_DrawPartsOfCode.f k l0).bind fun t285 => ((impl_PartsOfCode.f t285).bind fun bt286 => ((spec_PartsOfCode.f t285).bind fun bt289 => ((impl_CodeText.f t285).bind fun t292 => ((spec_DrawReadCode.f k l0).bind fun t293 => ((impl_ReadCode.f t293).bind fun bt294 => ((spec_ReadCode.f k t293).bind fun bt296 => (if bt281.2 = bt283.2 then (if bt281.1 = bt283.1 then (if bt286.2.2 = bt289.2.2 then (if bt286.1 = bt289.1 then (if bt286.2.1 = bt289.2.1 then ((spec_CodeText.f k t285).bind fun t298 => (if t292.toList = t298.toList then (if (bt294.2 != bt296.2) = true then (laws_FnCodes.j0 k bt279.1 bt279.2 bt281.1 bt281.2 true) else (if bt294.1 = bt296.1 then ((impl_IsCode.f t285).bind fun t299 => (if (t299 != (bt289.2.2 == 0)) = true then (laws_FnCodes.j0 k bt279.1 bt279.2 bt281.1 bt281.2 true) else (if bt294.2 = true then ((impl_CodeText.f bt294.1).bind fun t300 => (laws_FnCodes.j0 k bt279.1 bt279.2 bt281.1 bt281.2 (t300.toList != t293.toList))) else (laws_FnCodes.j0 k bt279.1 bt279.2 bt281.1 bt281.2 false)))) else (laws_FnCodes.j0 k bt279.1 bt279.2 bt281.1 bt281.2 true))) else (laws_FnCodes.j0 k bt279.1 bt279.2 bt281.1 bt281.2 true))) else (laws_FnCodes.j0 k bt279.1 bt279.2 bt281.1 bt281.2 true)) else (laws_FnCodes.j0 k bt279.1 bt279.2 bt281.1 bt281.2 true)) else (laws_FnCodes.j0 k bt279.1 bt279.2 bt281.1 bt281.2 true)) else (laws_FnCodes.j0 k bt279.1 bt279.2 bt281.1 bt281.2 true)) else (laws_FnCodes.j0 k bt279.1 bt279.2 bt281.1 bt281.2 true))))))))))))) = some r := H
  have A2 := Aside0.mk A20
  clear A20
  by_cases c3 : t278 = true
  · subst c3
    have H1 : (some true) = some r := by rw [if_pos rfl] at H; exact H
    clear H
    have H := H1
    clear H1
    obtain rfl := Option.some.inj H
    go_enter Tryd.func5, Tryd.ntmps5
    go_wp2_with (first | ((with_reducible refine gate_callee (f := 10) rfl ?_); refine goesL_ (some 33) rfl rfl Tryd.func10 (by kernel_rfl) rfl #[.slice A0 l0.length c0] rfl (by (try simp only [List.map_toArray, List.map_cons, List.map_nil]); first | done | rfl | (simp only [List.length_drop, List.length_take]; rfl)) ?_; (with_reducible refine (laws_big.calls _ _ l0 true _ ?side1 ?side2 A2.out).mono ?_); (case side1 => repeat (first | exact HR0.out | (with_reducible refine Kd.C_alloc ?_ _) | (with_reducible refine Kd.C_drewN ?_ _) | (with_reducible refine Kd.C_drew ?_))); (case side2 => exact HC0.out); rintro e w' ⟨rfl, ⟨nd, rfl⟩⟩; refine ⟨_, rfl, ?_⟩))
    go_ret
    exact ⟨by first | rfl | (simp [errW_none, errW_some] <;> rfl) | (simp [*, errW_none, errW_some] <;> rfl), by repeat (first | (with_reducible first | exact HB.out | apply below_alloc | apply pw_below_drewN | apply below_drew1) | exact HB.out)⟩
  · replace c3 := Bool.eq_false_iff.mpr c3
    subst c3
    have H1 : ((spec_DrawCodeOf.f k l0).bind fun bt279 => ((impl_CodeOf.f k bt279.1 bt279.2).bind fun bt281 => ((spec_CodeOf.f k bt279.1 bt279.2).bind fun bt283 => ((spec_DrawPartsOfCode.f k l0).bind fun t285 => ((impl_PartsOfCode.f t285).bind fun bt286 => ((spec_PartsOfCode.f t285).bind fun bt289 => ((impl_CodeText.f t285).bind fun t292 => ((spec_DrawReadCode.f k l0).bind fun t293 => ((impl_ReadCode.f t293).bind fun bt294 => ((spec_ReadCode.f k t293).bind fun bt296 => (if bt281.2 = bt283.2 then (if bt281.1 = bt283.1 then (if bt286.2.2 = bt289.2.2 then (if bt286.1 = bt289.1 then (if bt286.2.1 = bt289.2.1 then ((spec_CodeText.f k t285).bind fun t298 => (if t292.toList = t298.toList then (if (bt294.2 != bt296.2) = true then (laws_FnCodes.j0 k bt279.1 bt279.2 bt281.1 bt281.2 true) else (if bt294.1 = bt296.1 then ((impl_IsCode.f t285).bind fun t299 => (if (t299 != (bt289.2.2 == 0)) = true then (laws_FnCodes.j0 k bt279.1 bt279.2 bt281.1 bt281.2 true) else (if bt294.2 = true then ((impl_CodeText.f bt294.1).bind fun t300 => (laws_FnCodes.j0 k bt279.1 bt279.2 bt281.1 bt281.2 (t300.toList != t293.toList))) else (laws_FnCodes.j0 k bt279.1 bt279.2 bt281.1 bt281.2 false)))) else (laws_FnCodes.j0 k bt279.1 bt279.2 bt281.1 bt281.2 true))) else (laws_FnCodes.j0 k bt279.1 bt279.2 bt281.1 bt281.2 true))) else (laws_FnCodes.j0 k bt279.1 bt279.2 bt281.1 bt281.2 true)) else (laws_FnCodes.j0 k bt279.1 bt279.2 bt281.1 bt281.2 true)) else (laws_FnCodes.j0 k bt279.1 bt279.2 bt281.1 bt281.2 true)) else (laws_FnCodes.j0 k bt279.1 bt279.2 bt281.1 bt281.2 true)) else (laws_FnCodes.j0 k bt279.1 bt279.2 bt281.1 bt281.2 true)))))))))))) = some r := by rw [if_neg (show ¬ (false = true) by decide)] at H; exact H
    clear H
    have H := H1
    clear H1
    replace H := Option.bind_eq_some_iff.mp H
    obtain ⟨⟨t279, t280⟩, A40, H⟩ := H
    replace H : ((impl_CodeOf.f k t279 t280).bind fun bt281 => ((spec_CodeOf.f k t279 t280).bind fun bt283 => ((spec_DrawPartsOfCode.f k l0).bind fun t285 => ((impl_PartsOfCode.f t285).bind fun bt286 => ((spec_PartsOfCode.f t285).bind fun bt289 => ((impl_CodeText.f t285).bind fun t292 => ((spec_DrawReadCode.f k l0).bind fun t293 => ((impl_ReadCode.f t293).bind fun bt294 => ((spec_ReadCode.f k t293).bind fun bt296 => (if bt281.2 = bt283.2 then (if bt281.1 = bt283.1 then (if bt286.2.2 = bt289.2.2 then (if bt286.1 = bt289.1 then (if bt286.2.1 = bt289.2.1 then ((spec_CodeText.f k t285).bind fun t298 => (if t292.toList = t298.toList then (if (bt294.2 != bt296.2) = true then (laws_FnCodes.j0 k t279 t280 bt281.1 bt281.2 true) else (if bt294.1 = bt296.1 then ((impl_IsCode.f t285).bind fun t299 => (if (t299 != (bt289.2.2 == 0)) = true then (laws_FnCodes.j0 k t279 t280 bt281.1 bt281.2 true) else (if bt294.2 = true then ((impl_CodeText.f bt294.1).bind fun t300 => (laws_FnCodes.j0 k t279 t280 bt281.1 bt281.2 (t300.toList != t293.toList))) else (laws_FnCodes.j0 k t279 t280 bt281.1 bt281.2 false)))) else (laws_FnCodes.j0 k t279 t280 bt281.1 bt281.2 true))) else (laws_FnCodes.j0 k t279 t280 bt281.1 bt281.2 true))) else (laws_FnCodes.j0 k t279 t280 bt281.1 bt281.2 true)) else (laws_FnCodes.j0 k t279 t280 bt281.1 bt281.2 true)) else (laws_FnCodes.j0 k t279 t280 bt281.1 bt281.2 true)) else (laws_FnCodes.j0 k t279 t280 bt281.1 bt281.2 true)) else (laws_FnCodes.j0 k t279 t280 bt281.1 bt281.2 true))))))))))) = some r := H
    have A4 := Aside0.mk A40
    clear A40
    replace H := Option.bind_eq_some_iff.mp H
    obtain ⟨⟨t281, t282⟩, A50, H⟩ := H
    replace H : ((spec_CodeOf.f k t279 t280).bind fun bt283 => ((spec_DrawPartsOfCode.f k l0).bind fun t285 => ((impl_PartsOfCode.f t285).bind fun bt286 => ((spec_PartsOfCode.f t285).bind fun bt289 => ((impl_CodeText.f t285).bind fun t292 => ((spec_DrawReadCode.f k l0).bind fun t293 => ((impl_ReadCode.f t293).bind fun bt294 => ((spec_ReadCode.f k t293).bind fun bt296 => (if t282 = bt283.2 then (if t281 = bt283.1 then (if bt286.2.2 = bt289.2.2 then (if bt286.1 = bt289.1 then (if bt286.2.1 = bt289.2.1 then ((spec_CodeText.f k t285).bind fun t298 => (if t292.toList = t298.toList then (if (bt294.2 != bt296.2) = true then (laws_FnCodes.j0 k t279 t280 t281 t282 true) else (if bt294.1 = bt296.1 then ((impl_IsCode.f t285).bind fun t299 => (if (t299 != (bt289.2.2 == 0)) = true then (laws_FnCodes.j0 k t279 t280 t281 t282 true) else (if bt294.2 = true then ((impl_CodeText.f bt294.1).bind fun t300 => (laws_FnCodes.j0 k t279 t280 t281 t282 (t300.toList != t293.toList))) else (laws_FnCodes.j0 k t279 t280 t281 t282 false)))) else (laws_FnCodes.j0 k t279 t280 t281 t282 true))) else (laws_FnCodes.j0 k t279 t280 t281 t282 true))) else (laws_FnCodes.j0 k t279 t280 t281 t282 true)) else (laws_FnCodes.j0 k t279 t280 t281 t282 true)) else (laws_FnCodes.j0 k t279 t280 t281 t282 true)) else (laws_FnCodes.j0 k t279 t280 t281 t282 true)) else (laws_FnCodes.j0 k t279 t280 t281 t282 true)))))))))) = some r := H
    have A5 := Aside0.mk A50
    clear A50
    replace H := Option.bind_eq_some_iff.mp H
    obtain ⟨⟨t283, t284⟩, A60, H⟩ := H
    replace H : ((spec_DrawPartsOfCode.f k l0).bind fun t285 => ((impl_PartsOfCode.f t285).bind fun bt286 => ((spec_PartsOfCode.f t285).bind fun bt289 => ((impl_CodeText.f t285).bind fun t292 => ((spec_DrawReadCode.f k l0).bind fun t293 => ((impl_ReadCode.f t293).bind fun bt294 => ((spec_ReadCode.f k t293).bind fun bt296 => (if t282 = t284 then (if t281 = t283 then (if bt286.2.2 = bt289.2.2 then (if bt286.1 = bt289.1 then (if bt286.2.1 = bt289.2.1 then ((spec_CodeText.f k t285).bind fun t298 => (if t292.toList = t298.toList then (if (bt294.2 != bt296.2) = true then (laws_FnCodes.j0 k t279 t280 t281 t282 true) else (if bt294.1 = bt296.1 then ((impl_IsCode.f t285).bind fun t299 => (if (t299 != (bt289.2.2 == 0)) = true then (laws_FnCodes.j0 k t279 t280 t281 t282 true) else (if bt294.2 = true then ((impl_CodeText.f bt294.1).bind fun t300 => (laws_FnCodes.j0 k t279 t280 t281 t282 (t300.toList != t293.toList))) else (laws_FnCodes.j0 k t279 t280 t281 t282 false)))) else (laws_FnCodes.j0 k t279 t280 t281 t282 true))) else (laws_FnCodes.j0 k t279 t280 t281 t282 true))) else (laws_FnCodes.j0 k t279 t280 t281 t282 true)) else (laws_FnCodes.j0 k t279 t280 t281 t282 true)) else (laws_FnCodes.j0 k t279 t280 t281 t282 true)) else (laws_FnCodes.j0 k t279 t280 t281 t282 true)) else (laws_FnCodes.j0 k t279 t280 t281 t282 true))))))))) = some r := H
    have A6 := Aside0.mk A60
    clear A60
    replace H := Option.bind_eq_some_iff.mp H
    obtain ⟨t285, A70, H⟩ := H
    replace H : ((impl_PartsOfCode.f t285).bind fun bt286 => ((spec_PartsOfCode.f t285).bind fun bt289 => ((impl_CodeText.f t285).bind fun t292 => ((spec_DrawReadCode.f k l0).bind fun t293 => ((impl_ReadCode.f t293).bind fun bt294 => ((spec_ReadCode.f k t293).bind fun bt296 => (if t282 = t284 then (if t281 = t283 then (if bt286.2.2 = bt289.2.2 then (if bt286.1 = bt289.1 then (if bt286.2.1 = bt289.2.1 then ((spec_CodeText.f k t285).bind fun t298 => (if t292.toList = t298.toList then (if (bt294.2 != bt296.2) = true then (laws_FnCodes.j0 k t279 t280 t281 t282 true) else (if bt294.1 = bt296.1 then ((impl_IsCode.f t285).bind fun t299 => (if (t299 != (bt289.2.2 == 0)) = true then (laws_FnCodes.j0 k t279 t280 t281 t282 true) else (if bt294.2 = true then ((impl_CodeText.f bt294.1).bind fun t300 => (laws_FnCodes.j0 k t279 t280 t281 t282 (t300.toList != t293.toList))) else (laws_FnCodes.j0 k t279 t280 t281 t282 false)))) else (laws_FnCodes.j0 k t279 t280 t281 t282 true))) else (laws_FnCodes.j0 k t279 t280 t281 t282 true))) else (laws_FnCodes.j0 k t279 t280 t281 t282 true)) else (laws_FnCodes.j0 k t279 t280 t281 t282 true)) else (laws_FnCodes.j0 k t279 t280 t281 t282 true)) else (laws_FnCodes.j0 k t279 t280 t281 t282 true)) else (laws_FnCodes.j0 k t279 t280 t281 t282 true)))))))) = some r := H
    have A7 := Aside0.mk A70
    clear A70
    replace H := Option.bind_eq_some_iff.mp H
    obtain ⟨⟨t286, t287, t288⟩, A80, H⟩ := H
    replace H : ((spec_PartsOfCode.f t285).bind fun bt289 => ((impl_CodeText.f t285).bind fun t292 => ((spec_DrawReadCode.f k l0).bind fun t293 => ((impl_ReadCode.f t293).bind fun bt294 => ((spec_ReadCode.f k t293).bind fun bt296 => (if t282 = t284 then (if t281 = t283 then (if t288 = bt289.2.2 then (if t286 = bt289.1 then (if t287 = bt289.2.1 then ((spec_CodeText.f k t285).bind fun t298 => (if t292.toList = t298.toList then (if (bt294.2 != bt296.2) = true then (laws_FnCodes.j0 k t279 t280 t281 t282 true) else (if bt294.1 = bt296.1 then ((impl_IsCode.f t285).bind fun t299 => (if (t299 != (bt289.2.2 == 0)) = true then (laws_FnCodes.j0 k t279 t280 t281 t282 true) else (if bt294.2 = true then ((impl_CodeText.f bt294.1).bind fun t300 => (laws_FnCodes.j0 k t279 t280 t281 t282 (t300.toList != t293.toList))) else (laws_FnCodes.j0 k t279 t280 t281 t282 false)))) else (laws_FnCodes.j0 k t279 t280 t281 t282 true))) else (laws_FnCodes.j0 k t279 t280 t281 t282 true))) else (laws_FnCodes.j0 k t279 t280 t281 t282 true)) else (laws_FnCodes.j0 k t279 t280 t281 t282 true)) else (laws_FnCodes.j0 k t279 t280 t281 t282 true)) else (laws_FnCodes.j0 k t279 t280 t281 t282 true)) else (laws_FnCodes.j0 k t279 t280 t281 t282 true))))))) = some r := H
    have A8 := Aside0.mk A80
    clear A80
    replace H := Option.bind_eq_some_iff.mp H
    obtain ⟨⟨t289, t290, t291⟩, A90, H⟩ := H
    replace H : ((impl_CodeText.f t285).bind fun t292 => ((spec_DrawReadCode.f k l0).bind fun t293 => ((impl_ReadCode.f t293).bind fun bt294 => ((spec_ReadCode.f k t293).bind fun bt296 => (if t282 = t284 then (if t281 = t283 then (if t288 = t291 then (if t286 = t289 then (if t287 = t290 then ((spec_CodeText.f k t285).bind fun t298 => (if t292.toList = t298.toList then (if (bt294.2 != bt296.2) = true then (laws_FnCodes.j0 k t279 t280 t281 t282 true) else (if bt294.1 = bt296.1 then ((impl_IsCode.f t285).bind fun t299 => (if (t299 != (t291 == 0)) = true then (laws_FnCodes.j0 k t279 t280 t281 t282 true) else (if bt294.2 = true then ((impl_CodeText.f bt294.1).bind fun t300 => (laws_FnCodes.j0 k t279 t280 t281 t282 (t300.toList != t293.toList))) else (laws_FnCodes.j0 k t279 t280 t281 t282 false)))) else (laws_FnCodes.j0 k t279 t280 t281 t282 true))) else (laws_FnCodes.j0 k t279 t280 t281 t282 true))) else (laws_FnCodes.j0 k t279 t280 t281 t282 true)) else (laws_FnCodes.j0 k t279 t280 t281 t282 true)) else (laws_FnCodes.j0 k t279 t280 t281 t282 true)) else (laws_FnCodes.j0 k t279 t280 t281 t282 true)) else (laws_FnCodes.j0 k t279 t280 t281 t282 true)))))) = some r := H
    have A9 := Aside0.mk A90
    clear A90
    replace H := Option.bind_eq_some_iff.mp H
    obtain ⟨t292, A100, H⟩ := H
    replace H : ((spec_DrawReadCode.f k l0).bind fun t293 => ((impl_ReadCode.f t293).bind fun bt294 => ((spec_ReadCode.f k t293).bind fun bt296 => (if t282 = t284 then (if t281 = t283 then (if t288 = t291 then (if t286 = t289 then (if t287 = t290 then ((spec_CodeText.f k t285).bind fun t298 => (if t292.toList = t298.toList then (if (bt294.2 != bt296.2) = true then (laws_FnCodes.j0 k t279 t280 t281 t282 true) else (if bt294.1 = bt296.1 then ((impl_IsCode.f t285).bind fun t299 => (if (t299 != (t291 == 0)) = true then (laws_FnCodes.j0 k t279 t280 t281 t282 true) else (if bt294.2 = true then ((impl_CodeText.f bt294.1).bind fun t300 => (laws_FnCodes.j0 k t279 t280 t281 t282 (t300.toList != t293.toList))) else (laws_FnCodes.j0 k t279 t280 t281 t282 false)))) else (laws_FnCodes.j0 k t279 t280 t281 t282 true))) else (laws_FnCodes.j0 k t279 t280 t281 t282 true))) else (laws_FnCodes.j0 k t279 t280 t281 t282 true)) else (laws_FnCodes.j0 k t279 t280 t281 t282 true)) else (laws_FnCodes.j0 k t279 t280 t281 t282 true)) else (laws_FnCodes.j0 k t279 t280 t281 t282 true)) else (laws_FnCodes.j0 k t279 t280 t281 t282 true))))) = some r := H
    have A10 := Aside0.mk A100
    clear A100
    replace H := Option.bind_eq_some_iff.mp H
    obtain ⟨t293, A110, H⟩ := H
    replace H : ((impl_ReadCode.f t293).bind fun bt294 => ((spec_ReadCode.f k t293).bind fun bt296 => (if t282 = t284 then (if t281 = t283 then (if t288 = t291 then (if t286 = t289 then (if t287 = t290 then ((spec_CodeText.f k t285).bind fun t298 => (if t292.toList = t298.toList then (if (bt294.2 != bt296.2) = true then (laws_FnCodes.j0 k t279 t280 t281 t282 true) else (if bt294.1 = bt296.1 then ((impl_IsCode.f t285).bind fun t299 => (if (t299 != (t291 == 0)) = true then (laws_FnCodes.j0 k t279 t280 t281 t282 true) else (if bt294.2 = true then ((impl_CodeText.f bt294.1).bind fun t300 => (laws_FnCodes.j0 k t279 t280 t281 t282 (t300.toList != t293.toList))) else (laws_FnCodes.j0 k t279 t280 t281 t282 false)))) else (laws_FnCodes.j0 k t279 t280 t281 t282 true))) else (laws_FnCodes.j0 k t279 t280 t281 t282 true))) else (laws_FnCodes.j0 k t279 t280 t281 t282 true)) else (laws_FnCodes.j0 k t279 t280 t281 t282 true)) else (laws_FnCodes.j0 k t279 t280 t281 t282 true)) else (laws_FnCodes.j0 k t279 t280 t281 t282 true)) else (laws_FnCodes.j0 k t279 t280 t281 t282 true)))) = some r := H
    have A11 := Aside0.mk A110
    clear A110
    replace H := Option.bind_eq_some_iff.mp H
    obtain ⟨⟨t294, t295⟩, A120, H⟩ := H
    replace H : ((spec_ReadCode.f k t293).bind fun bt296 => (if t282 = t284 then (if t281 = t283 then (if t288 = t291 then (if t286 = t289 then (if t287 = t290 then ((spec_CodeText.f k t285).bind fun t298 => (if t292.toList = t298.toList then (if (t295 != bt296.2) = true then (laws_FnCodes.j0 k t279 t280 t281 t282 true) else (if t294 = bt296.1 then ((impl_IsCode.f t285).bind fun t299 => (if (t299 != (t291 == 0)) = true then (laws_FnCodes.j0 k t279 t280 t281 t282 true) else (if t295 = true then ((impl_CodeText.f t294).bind fun t300 => (laws_FnCodes.j0 k t279 t280 t281 t282 (t300.toList != t293.toList))) else (laws_FnCodes.j0 k t279 t280 t281 t282 false)))) else (laws_FnCodes.j0 k t279 t280 t281 t282 true))) else (laws_FnCodes.j0 k t279 t280 t281 t282 true))) else (laws_FnCodes.j0 k t279 t280 t281 t282 true)) else (laws_FnCodes.j0 k t279 t280 t281 t282 true)) else (laws_FnCodes.j0 k t279 t280 t281 t282 true)) else (laws_FnCodes.j0 k t279 t280 t281 t282 true)) else (laws_FnCodes.j0 k t279 t280 t281 t282 true))) = some r := H
    have A12 := Aside0.mk A120
    clear A120
    replace H := Option.bind_eq_some_iff.mp H
    obtain ⟨⟨t296, t297⟩, A130, H⟩ := H
    replace H : (if t282 = t284 then (if t281 = t283 then (if t288 = t291 then (if t286 = t289 then (if t287 = t290 then ((spec_CodeText.f k t285).bind fun t298 => (if t292.toList = t298.toList then (if (t295 != t297) = true then (laws_FnCodes.j0 k t279 t280 t281 t282 true) else (if t294 = t296 then ((impl_IsCode.f t285).bind fun t299 => (if (t299 != (t291 == 0)) = true then (laws_FnCodes.j0 k t279 t280 t281 t282 true) else (if t295 = true then ((impl_CodeText.f t294).bind fun t300 => (laws_FnCodes.j0 k t279 t280 t281 t282 (t300.toList != t293.toList))) else (laws_FnCodes.j0 k t279 t280 t281 t282 false)))) else (laws_FnCodes.j0 k t279 t280 t281 t282 true))) else (laws_FnCodes.j0 k t279 t280 t281 t282 true))) else (laws_FnCodes.j0 k t279 t280 t281 t282 true)) else (laws_FnCodes.j0 k t279 t280 t281 t282 true)) else (laws_FnCodes.j0 k t279 t280 t281 t282 true)) else (laws_FnCodes.j0 k t279 t280 t281 t282 true)) else (laws_FnCodes.j0 k t279 t280 t281 t282 true)) = some r := H
    have A13 := Aside0.mk A130
    clear A130
    have HC14 := Aside0.mk H
    clear H
    go_enter Tryd.func5, Tryd.ntmps5
    go_upto_region 13 with (first | ((with_reducible refine gate_callee (f := 10) rfl ?_); refine goesL_ (some 33) rfl rfl Tryd.func10 (by kernel_rfl) rfl #[.slice A0 l0.length c0] rfl (by (try simp only [List.map_toArray, List.map_cons, List.map_nil]); first | done | rfl | (simp only [List.length_drop, List.length_take]; rfl)) ?_; (with_reducible refine (laws_big.calls _ _ l0 false _ ?side1 ?side2 A2.out).mono ?_); (case side1 => repeat (first | exact HR0.out | (with_reducible refine Kd.C_alloc ?_ _) | (with_reducible refine Kd.C_drewN ?_ _) | (with_reducible refine Kd.C_drew ?_))); (case side2 => exact HC0.out); rintro e w' ⟨rfl, ⟨nd, rfl⟩⟩; refine ⟨_, rfl, ?_⟩) | ((with_reducible refine gate_callee (f := 11) rfl ?_); refine goesL_ (some 36) rfl rfl Tryd.func11 (by kernel_rfl) rfl #[.slice A0 l0.length c0] rfl (by (try simp only [List.map_toArray, List.map_cons, List.map_nil]); first | done | rfl | (simp only [List.length_drop, List.length_take]; rfl)) ?_; (with_reducible refine (spec_DrawCodeOf.calls k _ _ l0 t279 t280 _ ?side1 ?side2 A4.out).mono ?_); (case side1 => repeat (first | exact HR0.out | (with_reducible refine Kd.C_alloc ?_ _) | (with_reducible refine Kd.C_drewN ?_ _) | (with_reducible refine Kd.C_drew ?_))); (case side2 => exact HC0.out); rintro e w15 ⟨rfl, hb⟩; refine ⟨_, rfl, ?_⟩; have n0_ := Aside0.mk (below_step (by repeat (first | (with_reducible first | exact HB.out | apply below_alloc | apply pw_below_drewN | apply below_drew1) | exact HB.out)) hb); clear HB; have HB := n0_; clear n0_; (try clear hb); (try clear hb2); (try clear hk); (try clear hi)) | ((with_reducible refine gate_callee (f := 12) rfl ?_); refine goesL_ (some 42) rfl rfl Tryd.func12 (by kernel_rfl) rfl #[.int .i64 t279, .int .i64 t280] rfl (by (try simp only [List.map_toArray, List.map_cons, List.map_nil]); first | done | rfl | (simp only [List.length_drop, List.length_take]; rfl)) ?_; (with_reducible refine (impl_CodeOf.calls k t279 t280 t281 t282 _ A5.out).mono ?_); rintro e w' ⟨rfl, ⟨nd, rfl⟩⟩; refine ⟨_, rfl, ?_⟩) | ((with_reducible refine gate_callee (f := 13) rfl ?_); refine goesL_ (some 48) rfl rfl Tryd.func13 (by kernel_rfl) rfl #[.int .i64 t279, .int .i64 t280] rfl (by (try simp only [List.map_toArray, List.map_cons, List.map_nil]); first | done | rfl | (simp only [List.length_drop, List.length_take]; rfl)) ?_; (with_reducible refine (spec_CodeOf.calls k t279 t280 t283 t284 _ A6.out).mono ?_); rintro e w' ⟨rfl, ⟨nd, rfl⟩⟩; refine ⟨_, rfl, ?_⟩) | ((with_reducible refine gate_callee (f := 14) rfl ?_); refine goesL_ (some 52) rfl rfl Tryd.func14 (by kernel_rfl) rfl #[.slice A0 l0.length c0] rfl (by (try simp only [List.map_toArray, List.map_cons, List.map_nil]); first | done | rfl | (simp only [List.length_drop, List.length_take]; rfl)) ?_; (with_reducible refine (spec_DrawPartsOfCode.calls k _ _ l0 t285 _ ?side1 ?side2 A7.out).mono ?_); (case side1 => repeat (first | exact (Kd.C_below HR0.out (by repeat (first | (with_reducible first | exact HB.out | apply below_alloc | apply pw_below_drewN | apply below_drew1) | exact HB.out))) | (with_reducible refine Kd.C_alloc ?_ _) | (with_reducible refine Kd.C_drewN ?_ _) | (with_reducible refine Kd.C_drew ?_))); (case side2 => exact HC0.out); rintro e w16 ⟨rfl, hb⟩; refine ⟨_, rfl, ?_⟩; have n0_ := Aside0.mk (below_step (by repeat (first | (with_reducible first | exact HB.out | apply below_alloc | apply pw_below_drewN | apply below_drew1) | exact HB.out)) hb); clear HB; have HB := n0_; clear n0_; (try clear hb); (try clear hb2); (try clear hk); (try clear hi)) | ((with_reducible refine gate_callee (f := 15) rfl ?_); refine goesL_ (some 55) rfl rfl Tryd.func15 (by kernel_rfl) rfl #[.int .i64 t285] rfl (by (try simp only [List.map_toArray, List.map_cons, List.map_nil]); first | done | rfl | (simp only [List.length_drop, List.length_take]; rfl)) ?_; (with_reducible refine (impl_PartsOfCode.calls t285 t286 t287 t288 _ A8.out).mono ?_); rintro e w' ⟨rfl, ⟨nd, rfl⟩⟩; refine ⟨_, rfl, ?_⟩) | ((with_reducible refine gate_callee (f := 16) rfl ?_); refine goesL_ (some 61) rfl rfl Tryd.func16 (by kernel_rfl) rfl #[.int .i64 t285] rfl (by (try simp only [List.map_toArray, List.map_cons, List.map_nil]); first | done | rfl | (simp only [List.length_drop, List.length_take]; rfl)) ?_; (with_reducible refine (spec_PartsOfCode.calls t285 t289 t290 t291 _ A9.out).mono ?_); rintro e w' ⟨rfl, ⟨nd, rfl⟩⟩; refine ⟨_, rfl, ?_⟩) | ((with_reducible refine gate_callee (f := 7) rfl ?_); refine goesL_ (some 66) rfl rfl Tryd.func7 (by kernel_rfl) rfl #[.int .i64 t285] rfl (by (try simp only [List.map_toArray, List.map_cons, List.map_nil]); first | done | rfl | (simp only [List.length_drop, List.length_take]; rfl)) ?_; (with_reducible refine (impl_CodeText.calls t285 t292 _ ?side1 A10.out).mono ?_); (case side1 => first | exact TabL.keep HT_.out (by repeat (first | (with_reducible first | exact HB.out | apply below_alloc | apply pw_below_drewN | apply below_drew1) | exact HB.out)) | exact HT_.out | exact TabL.drewN HT_.out _); rintro e w17 ⟨rfl, hb⟩; refine ⟨_, rfl, ?_⟩; have n0_ := Aside0.mk (below_step (by repeat (first | (with_reducible first | exact HB.out | apply below_alloc | apply pw_below_drewN | apply below_drew1) | exact HB.out)) hb); clear HB; have HB := n0_; clear n0_; (try clear hb); (try clear hb2); (try clear hk); (try clear hi)) | ((with_reducible refine gate_callee (f := 17) rfl ?_); refine goesL_ (some 68) rfl rfl Tryd.func17 (by kernel_rfl) rfl #[.slice A0 l0.length c0] rfl (by (try simp only [List.map_toArray, List.map_cons, List.map_nil]); first | done | rfl | (simp only [List.length_drop, List.length_take]; rfl)) ?_; (with_reducible refine (spec_DrawReadCode.calls k _ _ l0 t293 _ ?side1 ?side2 A11.out).mono ?_); (case side1 => repeat (first | exact (Kd.C_below HR0.out HB.out) | (with_reducible refine Kd.C_alloc ?_ _) | (with_reducible refine Kd.C_drewN ?_ _) | (with_reducible refine Kd.C_drew ?_))); (case side2 => exact HC0.out); rintro e w18 ⟨rfl, hb⟩; refine ⟨_, rfl, ?_⟩; have n0_ := Aside0.mk (below_step (by repeat (first | (with_reducible first | exact HB.out | apply below_alloc | apply pw_below_drewN | apply below_drew1) | exact HB.out)) hb); clear HB; have HB := n0_; clear n0_; (try clear hb); (try clear hb2); (try clear hk); (try clear hi)) | ((with_reducible refine gate_callee (f := 9) rfl ?_); refine goesL_ (some 71) rfl rfl Tryd.func9 (by kernel_rfl) rfl #[.string t293] rfl (by (try simp only [List.map_toArray, List.map_cons, List.map_nil]); first | done | rfl | (simp only [List.length_drop, List.length_take]; rfl)) ?_; (with_reducible refine (impl_ReadCode.calls t293 t294 t295 _ ?side1 A12.out).mono ?_); (case side1 => first | exact TabL.keep HT_.out (by repeat (first | (with_reducible first | exact HB.out | apply below_alloc | apply pw_below_drewN | apply below_drew1) | exact HB.out)) | exact HT_.out | exact TabL.drewN HT_.out _); rintro e w19 ⟨rfl, hb⟩; refine ⟨_, rfl, ?_⟩; have n0_ := Aside0.mk (below_step (by repeat (first | (with_reducible first | exact HB.out | apply below_alloc | apply pw_below_drewN | apply below_drew1) | exact HB.out)) hb); clear HB; have HB := n0_; clear n0_; (try clear hb); (try clear hb2); (try clear hk); (try clear hi)) | ((with_reducible refine gate_callee (f := 8) rfl ?_); refine goesL_ (some 76) rfl rfl Tryd.func8 (by kernel_rfl) rfl #[.string t293] rfl (by (try simp only [List.map_toArray, List.map_cons, List.map_nil]); first | done | rfl | (simp only [List.length_drop, List.length_take]; rfl)) ?_; (with_reducible refine (spec_ReadCode.calls k t293 t296 t297 _ A13.out).mono ?_); rintro e w20 ⟨rfl, hb⟩; refine ⟨_, rfl, ?_⟩; have n0_ := Aside0.mk (below_step (by repeat (first | (with_reducible first | exact HB.out | apply below_alloc | apply pw_below_drewN | apply below_drew1) | exact HB.out)) hb); clear HB; have HB := n0_; clear n0_; (try clear hb); (try clear hb2); (try clear hk); (try clear hi)))
    (try simp only [Act.put, List.setIfInBounds_toArray, List.set_cons_zero, List.set_cons_succ])
    go_cut [133] (fun v133 wc => ∃ (kq : Nat) (x133_13 : Bool), v133 = .bool x133_13 ∧ Aside0 (laws_FnCodes.j0 kq t279 t280 t281 t282 x133_13 = some r) ∧ Aside0 (kq ≤ k) ∧ Aside0 (Below w.heap.size w wc))
    case first =>
      have H := HC14.out
      clear HC14
      by_cases c21 : t282 = t284
      · rw [if_pos c21] at H
        have c21b0 : (t282 == t284) = true := beq_iff_eq.mpr c21
        have c21b1 : (t282 != t284) = false := bne_eq_false_iff_eq.mpr c21
        clear c21
        (first | rw [c21b0] | (simp only [i64_w, i32_w]; rw [c21b0]) | skip)
        by_cases c22 : t281 = t283
        · rw [if_pos c22] at H
          have c22b0 : (t281 == t283) = true := beq_iff_eq.mpr c22
          have c22b1 : (t281 != t283) = false := bne_eq_false_iff_eq.mpr c22
          clear c22
          by_cases c23 : t288 = t291
          · rw [if_pos c23] at H
            have c23b0 : (t288 == t291) = true := beq_iff_eq.mpr c23
            have c23b1 : (t288 != t291) = false := bne_eq_false_iff_eq.mpr c23
            clear c23
            by_cases c24 : t286 = t289
            · rw [if_pos c24] at H
              have c24b0 : (t286 == t289) = true := beq_iff_eq.mpr c24
              have c24b1 : (t286 != t289) = false := bne_eq_false_iff_eq.mpr c24
              clear c24
              by_cases c25 : t287 = t290
              · rw [if_pos c25] at H
                have c25b0 : (t287 == t290) = true := beq_iff_eq.mpr c25
                have c25b1 : (t287 != t290) = false := bne_eq_false_iff_eq.mpr c25
                clear c25
                replace H := Option.bind_eq_some_iff.mp H
                obtain ⟨t298, A260, H⟩ := H
                replace H : (if t292.toList = t298.toList then (if (t295 != t297) = true then (laws_FnCodes.j0 k t279 t280 t281 t282 true) else (if t294 = t296 then ((impl_IsCode.f t285).bind fun t299 => (if (t299 != (t291 == 0)) = true then (laws_FnCodes.j0 k t279 t280 t281 t282 true) else (if t295 = true then ((impl_CodeText.f t294).bind fun t300 => (laws_FnCodes.j0 k t279 t280 t281 t282 (t300.toList != t293.toList))) else (laws_FnCodes.j0 k t279 t280 t281 t282 false)))) else (laws_FnCodes.j0 k t279 t280 t281 t282 true))) else (laws_FnCodes.j0 k t279 t280 t281 t282 true)) = some r := H
                have A26 := Aside0.mk A260
                clear A260
                by_cases c27 : t292.toList = t298.toList
                · rw [if_pos c27] at H
                  have c27b0 : (t292.toList == t298.toList) = true := beq_iff_eq.mpr c27
                  have c27b1 : (t292.toList != t298.toList) = false := bne_eq_false_iff_eq.mpr c27
                  clear c27
                  by_cases c28 : (t295 != t297) = true
                  · rw [if_pos c28] at H
                    have c28b0 : (t295 != t297) = true := c28
                    (try (have c28b1 : decide (t295 = t297) = false := by simpa using c28))
                    (try (have c28b2 : (t295 == t297) = false := by simpa using c28))
                    (try (have c28b3 : ¬ (t295 = t297) := by simpa using c28))
                    clear c28
                    (first | exact (laws_FnCodes.j0_no H hr_.out).elim | exact (laws_FnCodes.j1_no H hr_.out).elim)
                  · rw [if_neg c28] at H
                    have c28b0 : (t295 != t297) = false := by simpa using c28
                    (try (have c28b1 : decide (t295 = t297) = true := by simpa using c28))
                    (try (have c28b2 : (t295 == t297) = true := by simpa using c28))
                    clear c28
                    by_cases c30 : t294 = t296
                    · rw [if_pos c30] at H
                      have c30b0 : (t294 == t296) = true := beq_iff_eq.mpr c30
                      have c30b1 : (t294 != t296) = false := bne_eq_false_iff_eq.mpr c30
                      clear c30
                      replace H := Option.bind_eq_some_iff.mp H
                      obtain ⟨t299, A310, H⟩ := H
                      replace H : (if (t299 != (t291 == 0)) = true then (laws_FnCodes.j0 k t279 t280 t281 t282 true) else (if t295 = true then ((impl_CodeText.f t294).bind fun t300 => (laws_FnCodes.j0 k t279 t280 t281 t282 (t300.toList != t293.toList))) else (laws_FnCodes.j0 k t279 t280 t281 t282 false))) = some r := H
                      have A31 := Aside0.mk A310
                      clear A310
                      by_cases c32 : (t299 != (t291 == 0)) = true
                      · rw [if_pos c32] at H
                        have c32b0 : (t299 != (t291 == 0)) = true := c32
                        (try (have c32b1 : decide (t299 = (t291 == 0)) = false := by simpa using c32))
                        (try (have c32b2 : (t299 == (t291 == 0)) = false := by simpa using c32))
                        (try (have c32b3 : ¬ (t299 = (t291 == 0)) := by simpa using c32))
                        clear c32
                        (first | exact (laws_FnCodes.j0_no H hr_.out).elim | exact (laws_FnCodes.j1_no H hr_.out).elim)
                      · rw [if_neg c32] at H
                        have c32b0 : (t299 != (t291 == 0)) = false := by simpa using c32
                        (try (have c32b1 : decide (t299 = (t291 == 0)) = true := by simpa using c32))
                        (try (have c32b2 : (t299 == (t291 == 0)) = true := by simpa using c32))
                        clear c32
                        by_cases c34 : t295 = true
                        · subst c34
                          have H1 : ((impl_CodeText.f t294).bind fun t300 => (laws_FnCodes.j0 k t279 t280 t281 t282 (t300.toList != t293.toList))) = some r := by rw [if_pos rfl] at H; exact H
                          clear H
                          have H := H1
                          clear H1
                          replace H := Option.bind_eq_some_iff.mp H
                          obtain ⟨t300, A350, H⟩ := H
                          replace H : (laws_FnCodes.j0 k t279 t280 t281 t282 (t300.toList != t293.toList)) = some r := H
                          have A35 := Aside0.mk A350
                          clear A350
                          have H' := Aside0.mk H
                          clear H
                          go_wp2_with (first | (go_at_call 6; (with_reducible refine (spec_CodeText.calls k t285 t298 _ A26.out).mono ?_); rintro e w36 ⟨rfl, hb⟩; have n0_ := Aside0.mk (below_step (by repeat (first | (with_reducible first | exact HB.out | apply below_alloc | apply pw_below_drewN | apply below_drew1) | exact HB.out)) hb); clear HB; have HB := n0_; clear n0_; (try clear hb); (try clear hb2); (try clear hk); (try clear hi)) | (go_at_call 18; (with_reducible refine (impl_IsCode.calls t285 t299 _ A31.out).mono ?_); rintro e w' ⟨rfl, ⟨nd, rfl⟩⟩) | (go_at_call 7; (with_reducible refine (impl_CodeText.calls t294 t300 _ ?side1 A35.out).mono ?_); (case side1 => first | exact TabL.keep HT_.out (by repeat (first | (with_reducible first | exact HB.out | apply below_alloc | apply pw_below_drewN | apply below_drew1) | exact HB.out)) | exact HT_.out | exact TabL.drewN HT_.out _); rintro e w37 ⟨rfl, hb⟩; have n0_ := Aside0.mk (below_step (by repeat (first | (with_reducible first | exact HB.out | apply below_alloc | apply pw_below_drewN | apply below_drew1) | exact HB.out)) hb); clear HB; have HB := n0_; clear n0_; (try clear hb); (try clear hb2); (try clear hk); (try clear hi)))
                          go_meet
                          case rel => exact ⟨_, ((t300.toList != t293.toList)), (by first | rfl | (simp; done) | (simp [*]; done)), H', ⟨by first | omega | exact Nat.le_refl _⟩, ⟨by repeat (first | (with_reducible first | exact HB.out | apply below_alloc | apply pw_below_drewN | apply below_drew1) | exact HB.out)⟩⟩
                        · replace c34 := Bool.eq_false_iff.mpr c34
                          subst c34
                          have H1 : (laws_FnCodes.j0 k t279 t280 t281 t282 false) = some r := by rw [if_neg (show ¬ (false = true) by decide)] at H; exact H
                          clear H
                          have H := H1
                          clear H1
                          have H' := Aside0.mk H
                          clear H
                          go_wp2_with (first | (go_at_call 6; (with_reducible refine (spec_CodeText.calls k t285 t298 _ A26.out).mono ?_); rintro e w38 ⟨rfl, hb⟩; have n0_ := Aside0.mk (below_step (by repeat (first | (with_reducible first | exact HB.out | apply below_alloc | apply pw_below_drewN | apply below_drew1) | exact HB.out)) hb); clear HB; have HB := n0_; clear n0_; (try clear hb); (try clear hb2); (try clear hk); (try clear hi)) | (go_at_call 18; (with_reducible refine (impl_IsCode.calls t285 t299 _ A31.out).mono ?_); rintro e w' ⟨rfl, ⟨nd, rfl⟩⟩))
                          go_meet
                          case rel => exact ⟨_, (false), (by first | rfl | (simp; done) | (simp [*]; done)), H', ⟨by first | omega | exact Nat.le_refl _⟩, ⟨by repeat (first | (with_reducible first | exact HB.out | apply below_alloc | apply pw_below_drewN | apply below_drew1) | exact HB.out)⟩⟩
                    · rw [if_neg c30] at H
                      have c30b0 : (t294 == t296) = false := beq_eq_false_iff_ne.mpr c30
                      have c30b1 : (t294 != t296) = true := bne_iff_ne.mpr c30
                      (first | exact (laws_FnCodes.j0_no H hr_.out).elim | exact (laws_FnCodes.j1_no H hr_.out).elim)
                · rw [if_neg c27] at H
                  have c27b0 : (t292.toList == t298.toList) = false := beq_eq_false_iff_ne.mpr c27
                  have c27b1 : (t292.toList != t298.toList) = true := bne_iff_ne.mpr c27
                  (first | exact (laws_FnCodes.j0_no H hr_.out).elim | exact (laws_FnCodes.j1_no H hr_.out).elim)
              · rw [if_neg c25] at H
                have c25b0 : (t287 == t290) = false := beq_eq_false_iff_ne.mpr c25
                have c25b1 : (t287 != t290) = true := bne_iff_ne.mpr c25
                (first | exact (laws_FnCodes.j0_no H hr_.out).elim | exact (laws_FnCodes.j1_no H hr_.out).elim)
            · rw [if_neg c24] at H
              have c24b0 : (t286 == t289) = false := beq_eq_false_iff_ne.mpr c24
              have c24b1 : (t286 != t289) = true := bne_iff_ne.mpr c24
              (first | exact (laws_FnCodes.j0_no H hr_.out).elim | exact (laws_FnCodes.j1_no H hr_.out).elim)
          · rw [if_neg c23] at H
            have c23b0 : (t288 == t291) = false := beq_eq_false_iff_ne.mpr c23
            have c23b1 : (t288 != t291) = true := bne_iff_ne.mpr c23
            (first | exact (laws_FnCodes.j0_no H hr_.out).elim | exact (laws_FnCodes.j1_no H hr_.out).elim)
        · rw [if_neg c22] at H
          have c22b0 : (t281 == t283) = false := beq_eq_false_iff_ne.mpr c22
          have c22b1 : (t281 != t283) = true := bne_iff_ne.mpr c22
          (first | exact (laws_FnCodes.j0_no H hr_.out).elim | exact (laws_FnCodes.j1_no H hr_.out).elim)
      · rw [if_neg c21] at H
        have c21b0 : (t282 == t284) = false := beq_eq_false_iff_ne.mpr c21
        have c21b1 : (t282 != t284) = true := bne_iff_ne.mpr c21
        (first | rw [c21b0] | (simp only [i64_w, i32_w]; rw [c21b0]) | skip)
        (first | exact (laws_FnCodes.j0_no H hr_.out).elim | exact (laws_FnCodes.j1_no H hr_.out).elim)
    case rest =>
      clear HC14
      try clear c1
      try clear c2
      try clear p2
      try clear c3
      try clear c5
      try clear c7
      try clear c8
      try clear c9
      try clear c10
      try clear c11
      try clear c12
      try clear c13
      try clear c14
      try clear c15
      try clear c16
      try clear c17
      try clear c21
      try clear c21b0
      try clear c21b1
      try clear c22
      try clear c22b0
      try clear c22b1
      try clear c23
      try clear c23b0
      try clear c23b1
      try clear c24
      try clear c24b0
      try clear c24b1
      try clear c25
      try clear c25b0
      try clear c25b1
      try clear c27
      try clear c27b0
      try clear c27b1
      try clear c28
      try clear c28b0
      try clear c28b1
      try clear c28b2
      try clear c30
      try clear c30b0
      try clear c30b1
      try clear c32
      try clear c32b0
      try clear c32b1
      try clear c32b2
      try clear c34
      obtain ⟨kq, x133_13, rfl, HA, HJ13, HB⟩ := hcut
      cases kq with
      | zero => exact absurd HA.out (by simp [laws_FnCodes.j0])
      | succ kj13 =>
        have H := HA.out
        clear HA
        simp only [laws_FnCodes.j0] at H
        by_cases c41 : x133_13 = true
        · subst c41
          have H1 : (some false) = some r := by rw [if_pos rfl] at H; exact H
          clear H
          have H := H1
          clear H1
          exact absurd ((Option.some.inj H).trans hr_.out) (by decide)
        · replace c41 := Bool.eq_false_iff.mpr c41
          subst c41
          have H1 : (if t282 = 0 then ((impl_PartsOfCode.f t281).bind fun bt301 => ((impl_CodeText.f t281).bind fun t304 => ((impl_ReadCode.f t304).bind fun bt305 => (if bt301.2.2 = 0 then (if bt301.1 = t279 then (if bt301.2.1 = t280 then (if bt305.2 = true then (laws_FnCodes.j1 kj13 t281 (bt305.1 != t281)) else (laws_FnCodes.j1 kj13 t281 true)) else (laws_FnCodes.j1 kj13 t281 true)) else (laws_FnCodes.j1 kj13 t281 true)) else (laws_FnCodes.j1 kj13 t281 true))))) else (some true)) = some r := by rw [if_neg (show ¬ (false = true) by decide)] at H; exact H
          clear H
          have H := H1
          clear H1
          by_cases c42 : t282 = 0
          · rw [if_pos c42] at H
            have c42b0 : (t282 == 0) = true := beq_iff_eq.mpr c42
            have c42b1 : (t282 != 0) = false := bne_eq_false_iff_eq.mpr c42
            clear c42
            replace H := Option.bind_eq_some_iff.mp H
            obtain ⟨⟨t301, t302, t303⟩, A430, H⟩ := H
            replace H : ((impl_CodeText.f t281).bind fun t304 => ((impl_ReadCode.f t304).bind fun bt305 => (if t303 = 0 then (if t301 = t279 then (if t302 = t280 then (if bt305.2 = true then (laws_FnCodes.j1 kj13 t281 (bt305.1 != t281)) else (laws_FnCodes.j1 kj13 t281 true)) else (laws_FnCodes.j1 kj13 t281 true)) else (laws_FnCodes.j1 kj13 t281 true)) else (laws_FnCodes.j1 kj13 t281 true)))) = some r := H
            have A43 := Aside0.mk A430
            clear A430
            replace H := Option.bind_eq_some_iff.mp H
            obtain ⟨t304, A440, H⟩ := H
            replace H : ((impl_ReadCode.f t304).bind fun bt305 => (if t303 = 0 then (if t301 = t279 then (if t302 = t280 then (if bt305.2 = true then (laws_FnCodes.j1 kj13 t281 (bt305.1 != t281)) else (laws_FnCodes.j1 kj13 t281 true)) else (laws_FnCodes.j1 kj13 t281 true)) else (laws_FnCodes.j1 kj13 t281 true)) else (laws_FnCodes.j1 kj13 t281 true))) = some r := H
            have A44 := Aside0.mk A440
            clear A440
            replace H := Option.bind_eq_some_iff.mp H
            obtain ⟨⟨t305, t306⟩, A450, H⟩ := H
            replace H : (if t303 = 0 then (if t301 = t279 then (if t302 = t280 then (if t306 = true then (laws_FnCodes.j1 kj13 t281 (t305 != t281)) else (laws_FnCodes.j1 kj13 t281 true)) else (laws_FnCodes.j1 kj13 t281 true)) else (laws_FnCodes.j1 kj13 t281 true)) else (laws_FnCodes.j1 kj13 t281 true)) = some r := H
            have A45 := Aside0.mk A450
            clear A450
            have HC46 := Aside0.mk H
            clear H
            go_upto_region 19 with (first | ((with_reducible refine gate_callee (f := 15) rfl ?_); refine goesL_ (some 138) rfl rfl Tryd.func15 (by kernel_rfl) rfl #[.int .i64 t281] rfl (by (try simp only [List.map_toArray, List.map_cons, List.map_nil]); first | done | rfl | (simp only [List.length_drop, List.length_take]; rfl)) ?_; (with_reducible refine (impl_PartsOfCode.calls t281 t301 t302 t303 _ A43.out).mono ?_); rintro e w' ⟨rfl, ⟨nd, rfl⟩⟩; refine ⟨_, rfl, ?_⟩) | ((with_reducible refine gate_callee (f := 7) rfl ?_); refine goesL_ (some 144) rfl rfl Tryd.func7 (by kernel_rfl) rfl #[.int .i64 t281] rfl (by (try simp only [List.map_toArray, List.map_cons, List.map_nil]); first | done | rfl | (simp only [List.length_drop, List.length_take]; rfl)) ?_; (with_reducible refine (impl_CodeText.calls t281 t304 _ ?side1 A44.out).mono ?_); (case side1 => first | exact TabL.keep HT_.out (by repeat (first | (with_reducible first | exact HB.out | apply below_alloc | apply pw_below_drewN | apply below_drew1) | exact HB.out)) | exact HT_.out | exact TabL.drewN HT_.out _); rintro e w47 ⟨rfl, hb⟩; refine ⟨_, rfl, ?_⟩; have n0_ := Aside0.mk (below_step (by repeat (first | (with_reducible first | exact HB.out | apply below_alloc | apply pw_below_drewN | apply below_drew1) | exact HB.out)) hb); clear HB; have HB := n0_; clear n0_; (try clear hb); (try clear hb2); (try clear hk); (try clear hi)) | ((with_reducible refine gate_callee (f := 9) rfl ?_); refine goesL_ (some 145) rfl rfl Tryd.func9 (by kernel_rfl) rfl #[.string t304] rfl (by (try simp only [List.map_toArray, List.map_cons, List.map_nil]); first | done | rfl | (simp only [List.length_drop, List.length_take]; rfl)) ?_; (with_reducible refine (impl_ReadCode.calls t304 t305 t306 _ ?side1 A45.out).mono ?_); (case side1 => first | exact TabL.keep HT_.out (by repeat (first | (with_reducible first | exact HB.out | apply below_alloc | apply pw_below_drewN | apply below_drew1) | exact HB.out)) | exact HT_.out | exact TabL.drewN HT_.out _); rintro e w48 ⟨rfl, hb⟩; refine ⟨_, rfl, ?_⟩; have n0_ := Aside0.mk (below_step (by repeat (first | (with_reducible first | exact HB.out | apply below_alloc | apply pw_below_drewN | apply below_drew1) | exact HB.out)) hb); clear HB; have HB := n0_; clear n0_; (try clear hb); (try clear hb2); (try clear hk); (try clear hi)))
            (try simp only [Act.put, List.setIfInBounds_toArray, List.set_cons_zero, List.set_cons_succ])
            go_cut [168] (fun v168 wc => ∃ (kq : Nat) (x168_45 : Bool), v168 = .bool x168_45 ∧ Aside0 (laws_FnCodes.j1 kq t281 x168_45 = some r) ∧ Aside0 (kq ≤ kj13) ∧ Aside0 (Below w.heap.size w wc))
            case first =>
              have H := HC46.out
              clear HC46
              by_cases c49 : t303 = 0
              · rw [if_pos c49] at H
                have c49b0 : (t303 == 0) = true := beq_iff_eq.mpr c49
                have c49b1 : (t303 != 0) = false := bne_eq_false_iff_eq.mpr c49
                clear c49
                (first | rw [c49b0] | (simp only [i64_w, i32_w]; rw [c49b0]) | skip)
                by_cases c50 : t301 = t279
                · rw [if_pos c50] at H
                  have c50b0 : (t301 == t279) = true := beq_iff_eq.mpr c50
                  have c50b1 : (t301 != t279) = false := bne_eq_false_iff_eq.mpr c50
                  clear c50
                  by_cases c51 : t302 = t280
                  · rw [if_pos c51] at H
                    have c51b0 : (t302 == t280) = true := beq_iff_eq.mpr c51
                    have c51b1 : (t302 != t280) = false := bne_eq_false_iff_eq.mpr c51
                    clear c51
                    by_cases c52 : t306 = true
                    · subst c52
                      have H1 : (laws_FnCodes.j1 kj13 t281 (t305 != t281)) = some r := by rw [if_pos rfl] at H; exact H
                      clear H
                      have H := H1
                      clear H1
                      have H' := Aside0.mk H
                      clear H
                      go_wp2
                      go_meet
                      case rel => exact ⟨_, ((t305 != t281)), (by first | rfl | (simp; done) | (simp [*]; done)), H', ⟨by have := HJ13.out; first | omega | exact Nat.le_refl _⟩, ⟨by repeat (first | (with_reducible first | exact HB.out | apply below_alloc | apply pw_below_drewN | apply below_drew1) | exact HB.out)⟩⟩
                    · replace c52 := Bool.eq_false_iff.mpr c52
                      subst c52
                      have H1 : (laws_FnCodes.j1 kj13 t281 true) = some r := by rw [if_neg (show ¬ (false = true) by decide)] at H; exact H
                      clear H
                      have H := H1
                      clear H1
                      (first | exact (laws_FnCodes.j0_no H hr_.out).elim | exact (laws_FnCodes.j1_no H hr_.out).elim)
                  · rw [if_neg c51] at H
                    have c51b0 : (t302 == t280) = false := beq_eq_false_iff_ne.mpr c51
                    have c51b1 : (t302 != t280) = true := bne_iff_ne.mpr c51
                    (first | exact (laws_FnCodes.j0_no H hr_.out).elim | exact (laws_FnCodes.j1_no H hr_.out).elim)
                · rw [if_neg c50] at H
                  have c50b0 : (t301 == t279) = false := beq_eq_false_iff_ne.mpr c50
                  have c50b1 : (t301 != t279) = true := bne_iff_ne.mpr c50
                  (first | exact (laws_FnCodes.j0_no H hr_.out).elim | exact (laws_FnCodes.j1_no H hr_.out).elim)
              · rw [if_neg c49] at H
                have c49b0 : (t303 == 0) = false := beq_eq_false_iff_ne.mpr c49
                have c49b1 : (t303 != 0) = true := bne_iff_ne.mpr c49
                (first | rw [c49b0] | (simp only [i64_w, i32_w]; rw [c49b0]) | skip)
                (first | exact (laws_FnCodes.j0_no H hr_.out).elim | exact (laws_FnCodes.j1_no H hr_.out).elim)
            case rest =>
              clear HC46
              try clear c1
              try clear c2
              try clear p2
              try clear c3
              try clear c4
              try clear c5
              try clear c7
              try clear c8
              try clear c9
              try clear c10
              try clear c11
              try clear c12
              try clear c13
              try clear c14
              try clear c15
              try clear c16
              try clear c17
              try clear c21
              try clear c21b0
              try clear c21b1
              try clear c22
              try clear c22b0
              try clear c22b1
              try clear c23
              try clear c23b0
              try clear c23b1
              try clear c24
              try clear c24b0
              try clear c24b1
              try clear c25
              try clear c25b0
              try clear c25b1
              try clear c27
              try clear c27b0
              try clear c27b1
              try clear c28
              try clear c28b0
              try clear c28b1
              try clear c28b2
              try clear c30
              try clear c30b0
              try clear c30b1
              try clear c32
              try clear c32b0
              try clear c32b1
              try clear c32b2
              try clear c34
              try clear c41
              try clear c42
              try clear c42b0
              try clear c42b1
              try clear c49
              try clear c49b0
              try clear c49b1
              try clear c50
              try clear c50b0
              try clear c50b1
              try clear c51
              try clear c51b0
              try clear c51b1
              try clear c52
              try clear p2
              obtain ⟨kq, x168_45, rfl, HA, HJ45, HB⟩ := hcut
              cases kq with
              | zero => exact absurd HA.out (by simp [laws_FnCodes.j1])
              | succ kj45 =>
                have H := HA.out
                clear HA
                simp only [laws_FnCodes.j1] at H
                by_cases c53 : x168_45 = true
                · subst c53
                  have H1 : (some false) = some r := by rw [if_pos rfl] at H; exact H
                  clear H
                  have H := H1
                  clear H1
                  exact absurd ((Option.some.inj H).trans hr_.out) (by decide)
                · replace c53 := Bool.eq_false_iff.mpr c53
                  subst c53
                  have H1 : (laws_FnCodes.l0 kj45 t281 1 0) = some r := by rw [if_neg (show ¬ (false = true) by decide)] at H; exact H
                  clear H
                  have H := H1
                  clear H1
                  have H' := Aside0.mk H
                  clear H
                  go_wp2
                  go_loopg [27, 28] kj45 (fun kq v27 v28 w' => ∃ (x27_3 : Int) (x28_3 : Int), v27 = .int .i64 x27_3 ∧ v28 = .int .i64 x28_3 ∧ Aside0 (laws_FnCodes.l0 kq t281 x27_3 x28_3 = some r) ∧ Aside0 (kq ≤ kj45) ∧ Aside0 (Below w.heap.size w w'))
                  case atStart => exact ⟨(1), (0), (by first | rfl | (simp; done) | (simp [*]; done)), (by first | rfl | (simp; done) | (simp [*]; done)), H', ⟨Nat.le_refl _⟩, ⟨by repeat (first | (with_reducible first | exact HB.out | apply below_alloc | apply pw_below_drewN | apply below_drew1) | exact HB.out)⟩⟩
                  case round =>
                    clear H'
                    try clear c1
                    try clear c2
                    try clear p2
                    try clear c3
                    try clear c4
                    try clear c5
                    try clear c7
                    try clear c8
                    try clear c9
                    try clear c10
                    try clear c11
                    try clear c12
                    try clear c13
                    try clear c14
                    try clear c15
                    try clear c16
                    try clear c17
                    try clear c21
                    try clear c21b0
                    try clear c21b1
                    try clear c22
                    try clear c22b0
                    try clear c22b1
                    try clear c23
                    try clear c23b0
                    try clear c23b1
                    try clear c24
                    try clear c24b0
                    try clear c24b1
                    try clear c25
                    try clear c25b0
                    try clear c25b1
                    try clear c27
                    try clear c27b0
                    try clear c27b1
                    try clear c28
                    try clear c28b0
                    try clear c28b1
                    try clear c28b2
                    try clear c30
                    try clear c30b0
                    try clear c30b1
                    try clear c32
                    try clear c32b0
                    try clear c32b1
                    try clear c32b2
                    try clear c34
                    try clear c41
                    try clear c42
                    try clear c42b0
                    try clear c42b1
                    try clear c49
                    try clear c49b0
                    try clear c49b1
                    try clear c50
                    try clear c50b0
                    try clear c50b1
                    try clear c51
                    try clear c51b0
                    try clear c51b1
                    try clear c52
                    try clear c53
                    try clear p2
                    obtain ⟨x27_3, x28_3, rfl, rfl, HA, HK3, HB⟩ := hrel
                    cases gk with
                    | zero => exact absurd HA.out (by simp [laws_FnCodes.l0])
                    | succ k3 =>
                      have H := HA.out
                      clear HA
                      simp only [laws_FnCodes.l0] at H
                      by_cases c54 : x28_3 < 7
                      · rw [if_pos c54] at H
                        have c54b0 : decide (x28_3 < 7) = true := decide_eq_true c54
                        clear c54
                        by_cases c55 : x27_3 = 0
                        · rw [if_pos c55] at H
                          exact absurd H (by simp)
                        · rw [if_neg c55] at H
                          have c55b0 : (x27_3 == 0) = false := beq_eq_false_iff_ne.mpr c55
                          have c55b1 : (x27_3 != 0) = true := bne_iff_ne.mpr c55
                          have H' := Aside0.mk H
                          clear H
                          go_wp2
                          go_loopg [30] k3 (fun kq v30 w' => ∃ (x30_4 : Int), v30 = .int .i64 x30_4 ∧ Aside0 (laws_FnCodes.l1 kq t281 x27_3 x28_3 (Int.tmod (wrap64 (Int.tdiv t281 x27_3)) 10) x30_4 = some r) ∧ Aside0 (kq ≤ k3) ∧ Aside0 (Below w.heap.size w w'))
                          case atStart => exact ⟨(0), (by first | rfl | (simp; done) | (simp [*]; done)), H', ⟨Nat.le_refl _⟩, ⟨by repeat (first | (with_reducible first | exact HB.out | apply below_alloc | apply pw_below_drewN | apply below_drew1) | exact HB.out)⟩⟩
                          case round =>
                            clear H'
                            try clear c1
                            try clear c2
                            try clear p2
                            try clear c3
                            try clear c4
                            try clear c5
                            try clear p6
                            try clear c7
                            try clear c8
                            try clear c9
                            try clear c10
                            try clear c11
                            try clear c12
                            try clear c13
                            try clear c14
                            try clear c15
                            try clear c16
                            try clear c17
                            try clear c21
                            try clear c21b0
                            try clear c21b1
                            try clear c22
                            try clear c22b0
                            try clear c22b1
                            try clear c23
                            try clear c23b0
                            try clear c23b1
                            try clear c24
                            try clear c24b0
                            try clear c24b1
                            try clear c25
                            try clear c25b0
                            try clear c25b1
                            try clear c27
                            try clear c27b0
                            try clear c27b1
                            try clear c28
                            try clear c28b0
                            try clear c28b1
                            try clear c28b2
                            try clear c30
                            try clear c30b0
                            try clear c30b1
                            try clear c32
                            try clear c32b0
                            try clear c32b1
                            try clear c32b2
                            try clear c34
                            try clear c41
                            try clear c42
                            try clear c42b0
                            try clear c42b1
                            try clear c49
                            try clear c49b0
                            try clear c49b1
                            try clear c50
                            try clear c50b0
                            try clear c50b1
                            try clear c51
                            try clear c51b0
                            try clear c51b1
                            try clear c52
                            try clear c53
                            try clear c54
                            try clear c54b0
                            try clear c55
                            try clear c55b0
                            try clear c55b1
                            try clear p2
                            obtain ⟨x30_4, rfl, HA, HK4, HB⟩ := hrel
                            cases gk with
                            | zero => exact absurd HA.out (by simp [laws_FnCodes.l1])
                            | succ k4 =>
                              have H := HA.out
                              clear HA
                              simp only [laws_FnCodes.l1] at H
                              by_cases c56 : x30_4 < 10
                              · rw [if_pos c56] at H
                                have c56b0 : decide (x30_4 < 10) = true := decide_eq_true c56
                                clear c56
                                by_cases c57 : x30_4 = (Int.tmod (wrap64 (Int.tdiv t281 x27_3)) 10)
                                · rw [if_pos c57] at H
                                  have c57b0 : (x30_4 == (Int.tmod (wrap64 (Int.tdiv t281 x27_3)) 10)) = true := beq_iff_eq.mpr c57
                                  have c57b1 : (x30_4 != (Int.tmod (wrap64 (Int.tdiv t281 x27_3)) 10)) = false := bne_eq_false_iff_eq.mpr c57
                                  clear c57
                                  have H' := Aside0.mk H
                                  clear H
                                  go_wp2
                                  go_roundg k4
                                  case measure => have := HJ13.out; have := HJ45.out; have := HK3.out; have := HK4.out; omega
                                  case rel => exact ⟨(wrap64 (x30_4 + 1)), (by first | rfl | (simp; done) | (simp [*]; done)), H', ⟨by have := HJ13.out; have := HJ45.out; have := HK3.out; have := HK4.out; omega⟩, ⟨by repeat (first | (with_reducible first | exact HB.out | apply below_alloc | apply pw_below_drewN | apply below_drew1) | exact HB.out)⟩⟩
                                · rw [if_neg c57] at H
                                  have c57b0 : (x30_4 == (Int.tmod (wrap64 (Int.tdiv t281 x27_3)) 10)) = false := beq_eq_false_iff_ne.mpr c57
                                  have c57b1 : (x30_4 != (Int.tmod (wrap64 (Int.tdiv t281 x27_3)) 10)) = true := bne_iff_ne.mpr c57
                                  replace H := Option.bind_eq_some_iff.mp H
                                  obtain ⟨t307, A580, H⟩ := H
                                  replace H : (if t307 = true then (some false) else (laws_FnCodes.l1 k4 t281 x27_3 x28_3 (Int.tmod (wrap64 (Int.tdiv t281 x27_3)) 10) (wrap64 (x30_4 + 1)))) = some r := H
                                  have A58 := Aside0.mk A580
                                  clear A580
                                  by_cases c59 : t307 = true
                                  · subst c59
                                    have H1 : (some false) = some r := by rw [if_pos rfl] at H; exact H
                                    clear H
                                    have H := H1
                                    clear H1
                                    exact absurd ((Option.some.inj H).trans hr_.out) (by decide)
                                  · replace c59 := Bool.eq_false_iff.mpr c59
                                    subst c59
                                    have H1 : (laws_FnCodes.l1 k4 t281 x27_3 x28_3 (Int.tmod (wrap64 (Int.tdiv t281 x27_3)) 10) (wrap64 (x30_4 + 1))) = some r := by rw [if_neg (show ¬ (false = true) by decide)] at H; exact H
                                    clear H
                                    have H := H1
                                    clear H1
                                    have H' := Aside0.mk H
                                    clear H
                                    go_wp2_with (first | (go_at_call 18; (with_reducible refine (impl_IsCode.calls (wrap64 (t281 + (wrap64 ((wrap64 (x30_4 - (Int.tmod (wrap64 (Int.tdiv t281 x27_3)) 10))) * x27_3)))) false _ A58.out).mono ?_); rintro e w' ⟨rfl, ⟨nd, rfl⟩⟩))
                                    go_roundg k4
                                    case measure => have := HJ13.out; have := HJ45.out; have := HK3.out; have := HK4.out; omega
                                    case rel => exact ⟨(wrap64 (x30_4 + 1)), (by first | rfl | (simp; done) | (simp [*]; done)), H', ⟨by have := HJ13.out; have := HJ45.out; have := HK3.out; have := HK4.out; omega⟩, ⟨by repeat (first | (with_reducible first | exact HB.out | apply below_alloc | apply pw_below_drewN | apply below_drew1) | exact HB.out)⟩⟩
                              · rw [if_neg c56] at H
                                have c56b0 : decide (x30_4 < 10) = false := decide_eq_false c56
                                clear c56
                                by_cases c60 : x27_3 = 0
                                · rw [if_pos c60] at H
                                  exact absurd H (by simp)
                                · rw [if_neg c60] at H
                                  have c60b0 : (x27_3 == 0) = false := beq_eq_false_iff_ne.mpr c60
                                  have c60b1 : (x27_3 != 0) = true := bne_iff_ne.mpr c60
                                  by_cases c61 : x28_3 < 6
                                  · rw [if_pos c61] at H
                                    have c61b0 : decide (x28_3 < 6) = true := decide_eq_true c61
                                    clear c61
                                    by_cases c62 : (Int.tmod (wrap64 (Int.tdiv (wrap64 (Int.tdiv t281 x27_3)) 10)) 10) = (Int.tmod (wrap64 (Int.tdiv t281 x27_3)) 10)
                                    · rw [if_pos c62] at H
                                      have c62b0 : ((Int.tmod (wrap64 (Int.tdiv (wrap64 (Int.tdiv t281 x27_3)) 10)) 10) == (Int.tmod (wrap64 (Int.tdiv t281 x27_3)) 10)) = true := beq_iff_eq.mpr c62
                                      have c62b1 : ((Int.tmod (wrap64 (Int.tdiv (wrap64 (Int.tdiv t281 x27_3)) 10)) 10) != (Int.tmod (wrap64 (Int.tdiv t281 x27_3)) 10)) = false := bne_eq_false_iff_eq.mpr c62
                                      clear c62
                                      have H' := Aside0.mk H
                                      clear H
                                      go_wp2
                                      go_roundg k4
                                      case measure => have := HJ13.out; have := HJ45.out; have := HK3.out; have := HK4.out; omega
                                      case rel => exact ⟨(wrap64 (10 * x27_3)), (wrap64 (x28_3 + 1)), (by first | rfl | (simp; done) | (simp [*]; done)), (by first | rfl | (simp; done) | (simp [*]; done)), H', ⟨by have := HJ13.out; have := HJ45.out; have := HK3.out; have := HK4.out; omega⟩, ⟨by repeat (first | (with_reducible first | exact HB.out | apply below_alloc | apply pw_below_drewN | apply below_drew1) | exact HB.out)⟩⟩
                                    · rw [if_neg c62] at H
                                      have c62b0 : ((Int.tmod (wrap64 (Int.tdiv (wrap64 (Int.tdiv t281 x27_3)) 10)) 10) == (Int.tmod (wrap64 (Int.tdiv t281 x27_3)) 10)) = false := beq_eq_false_iff_ne.mpr c62
                                      have c62b1 : ((Int.tmod (wrap64 (Int.tdiv (wrap64 (Int.tdiv t281 x27_3)) 10)) 10) != (Int.tmod (wrap64 (Int.tdiv t281 x27_3)) 10)) = true := bne_iff_ne.mpr c62
                                      replace H := Option.bind_eq_some_iff.mp H
                                      obtain ⟨t308, A630, H⟩ := H
                                      replace H : (if t308 = true then (some false) else (laws_FnCodes.l0 k4 t281 (wrap64 (10 * x27_3)) (wrap64 (x28_3 + 1)))) = some r := H
                                      have A63 := Aside0.mk A630
                                      clear A630
                                      by_cases c64 : t308 = true
                                      · subst c64
                                        have H1 : (some false) = some r := by rw [if_pos rfl] at H; exact H
                                        clear H
                                        have H := H1
                                        clear H1
                                        exact absurd ((Option.some.inj H).trans hr_.out) (by decide)
                                      · replace c64 := Bool.eq_false_iff.mpr c64
                                        subst c64
                                        have H1 : (laws_FnCodes.l0 k4 t281 (wrap64 (10 * x27_3)) (wrap64 (x28_3 + 1))) = some r := by rw [if_neg (show ¬ (false = true) by decide)] at H; exact H
                                        clear H
                                        have H := H1
                                        clear H1
                                        have H' := Aside0.mk H
                                        clear H
                                        go_wp2_with (first | (go_at_call 18; (with_reducible refine (impl_IsCode.calls (wrap64 ((wrap64 (t281 + (wrap64 ((wrap64 ((Int.tmod (wrap64 (Int.tdiv (wrap64 (Int.tdiv t281 x27_3)) 10)) 10) - (Int.tmod (wrap64 (Int.tdiv t281 x27_3)) 10))) * x27_3)))) + (wrap64 ((wrap64 ((wrap64 ((Int.tmod (wrap64 (Int.tdiv t281 x27_3)) 10) - (Int.tmod (wrap64 (Int.tdiv (wrap64 (Int.tdiv t281 x27_3)) 10)) 10))) * x27_3)) * 10)))) false _ A63.out).mono ?_); rintro e w' ⟨rfl, ⟨nd, rfl⟩⟩))
                                        go_roundg k4
                                        case measure => have := HJ13.out; have := HJ45.out; have := HK3.out; have := HK4.out; omega
                                        case rel => exact ⟨(wrap64 (10 * x27_3)), (wrap64 (x28_3 + 1)), (by first | rfl | (simp; done) | (simp [*]; done)), (by first | rfl | (simp; done) | (simp [*]; done)), H', ⟨by have := HJ13.out; have := HJ45.out; have := HK3.out; have := HK4.out; omega⟩, ⟨by repeat (first | (with_reducible first | exact HB.out | apply below_alloc | apply pw_below_drewN | apply below_drew1) | exact HB.out)⟩⟩
                                  · rw [if_neg c61] at H
                                    have c61b0 : decide (x28_3 < 6) = false := decide_eq_false c61
                                    clear c61
                                    have H' := Aside0.mk H
                                    clear H
                                    go_wp2
                                    go_roundg k4
                                    case measure => have := HJ13.out; have := HJ45.out; have := HK3.out; have := HK4.out; omega
                                    case rel => exact ⟨(wrap64 (10 * x27_3)), (wrap64 (x28_3 + 1)), (by first | rfl | (simp; done) | (simp [*]; done)), (by first | rfl | (simp; done) | (simp [*]; done)), H', ⟨by have := HJ13.out; have := HJ45.out; have := HK3.out; have := HK4.out; omega⟩, ⟨by repeat (first | (with_reducible first | exact HB.out | apply below_alloc | apply pw_below_drewN | apply below_drew1) | exact HB.out)⟩⟩
                      · rw [if_neg c54] at H
                        have c54b0 : decide (x28_3 < 7) = false := decide_eq_false c54
                        clear c54
                        obtain rfl := Option.some.inj H
                        go_wp2
                        go_ret
                        exact ⟨by first | rfl | (simp [errW_none, errW_some] <;> rfl) | (simp [*, errW_none, errW_some] <;> rfl), by repeat (first | (with_reducible first | exact HB.out | apply below_alloc | apply pw_below_drewN | apply below_drew1) | exact HB.out)⟩
          · rw [if_neg c42] at H
            have c42b0 : (t282 == 0) = false := beq_eq_false_iff_ne.mpr c42
            have c42b1 : (t282 != 0) = true := bne_iff_ne.mpr c42
            obtain rfl := Option.some.inj H
            go_wp2
            go_ret
            exact ⟨by first | rfl | (simp [errW_none, errW_some] <;> rfl) | (simp [*, errW_none, errW_some] <;> rfl), by repeat (first | (with_reducible first | exact HB.out | apply below_alloc | apply pw_below_drewN | apply below_drew1) | exact HB.out)⟩

end Go.Proofs.YtnnglnphkbpemaaDoor.PFnCodes
