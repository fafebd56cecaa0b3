-- Written by a program of this session.
import Derived.Test.YthmeohanbggnlaaPFnExplainedx0
import Derived.Test.YthmeohanbggnlaaPFnExplainedx2
import Derived.Test.YthmeohanbggnlaaPFnExplainedx3
import Derived.Test.YthmeohanbggnlaaPFnExplainedx4
import Derived.Test.YthmeohanbggnlaaPFnExplainedx5
import Derived.Test.YthmeohanbggnlaaPFnExplainedx6
import Derived.Test.YthmeohanbggnlaaPFnExplainedx7
import Derived.Test.YthmeohanbggnlaaPFnExplainedx9
import Derived.Test.YthmeohanbggnlaaPFnExplainedx10
namespace Go.Proofs.Ythmeohanbggnlaa.PFnExplained
open Go.RowKit Go.Proofs.YthmeohanbggnlaaW.PrintWords Go.Proofs.YthmeohanbggnlaaW.PrintLast Go.Proofs.YthmeohanbggnlaaW.PrintMore
attribute [local go_sem] max2_int min2_int max_two min_two max_three min_three max_four min_four   -- for this text's walks alone
set_option linter.unusedVariables false
set_option linter.unusedSimpArgs false

/-! ### laws_FnExplained: function 12 -/
mutual
def laws_FnExplained.j0 : Nat → Int → List Int → List Int → Int → Int → Int → Bool → Option (Bool)
  | 0, _, _, _, _, _, _, _ => none
  | k + 1, x3, x4, x5, x6, x9, x14, x100 => if x100 = true then (some false) else (if x6 = 0 then (laws_FnExplained.l0 k x3 x4 x5 x9 x14 (([] : List (S55))) 0 0 0) else (some true))
def laws_FnExplained.l0 : Nat → Int → List Int → List Int → Int → Int → List (S55) → Int → Int → Int → Option (Bool)
  | 0, _, _, _, _, _, _, _, _, _ => none
  | k + 1, x3, x4, x5, x9, x14, x17, x18, x19, x20 => if x20 < x3 then (if 0 ≤ x20 then (if x20 < (x5.length : Int) then (if (rd x5 x20) = 4 then (if 0 ≤ x18 then (if x18 < (x4.length : Int) then (laws_FnExplained.j2 k x3 x4 x5 x9 x14 x17 x18 x19 x20 0 x20 (rd x5 x20) (wrap64 ((rd x4 x18) - 1))) else (none)) else (none)) else (laws_FnExplained.j2 k x3 x4 x5 x9 x14 x17 x18 x19 x20 0 x20 (rd x5 x20) 0)) else (none)) else (none)) else ((impl_GatherBooks.f k x3 1 x17).bind fun bt352 => (if bt352.2 = 0 then (if (bt352.1.length : Int) = 1 then (if 0 < (bt352.1.length : Int) then ((laws_likeInts.f k (rd_L2 bt352.1 0) x4).bind fun t357 => (if t357 = true then (if x19 = x9 then (some ((x9 == 0) == (x14 == 4))) else (some false)) else (some false))) else (none)) else (some false)) else (some false)))
def laws_FnExplained.j2 : Nat → Int → List Int → List Int → Int → Int → List (S55) → Int → Int → Int → Int → Int → Int → Int → Option (Bool)
  | 0, _, _, _, _, _, _, _, _, _, _, _, _, _ => none
  | k + 1, x3, x4, x5, x9, x14, x17, x18, x19, x20, x360000, x360001, x360002, x360003 => if 0 ≤ x20 then (if x20 < (x5.length : Int) then (if (rd x5 x20) = 2 then (if (rd x5 x20) = 0 then (laws_FnExplained.l0 k x3 x4 x5 x9 x14 x17 (wrap64 (x18 + 2)) x19 (wrap64 (x20 + 1))) else (if x17.length < 4398046511104 then (laws_FnExplained.l0 k x3 x4 x5 x9 x14 (x17 ++ [(⟨x360000, x360001, x360002, x360003⟩ : S55)]) (wrap64 (x18 + 2)) (wrap64 (x19 + 1)) (wrap64 (x20 + 1))) else (none))) else (if (rd x5 x20) = 1 then (if (rd x5 x20) = 0 then (laws_FnExplained.l0 k x3 x4 x5 x9 x14 x17 x18 x19 (wrap64 (x20 + 1))) else (if x17.length < 4398046511104 then (laws_FnExplained.l0 k x3 x4 x5 x9 x14 (x17 ++ [(⟨x360000, x360001, x360002, x360003⟩ : S55)]) x18 (wrap64 (x19 + 1)) (wrap64 (x20 + 1))) else (none))) else (if (rd x5 x20) = 0 then (laws_FnExplained.l0 k x3 x4 x5 x9 x14 x17 (wrap64 (x18 + 1)) x19 (wrap64 (x20 + 1))) else (if x17.length < 4398046511104 then (laws_FnExplained.l0 k x3 x4 x5 x9 x14 (x17 ++ [(⟨x360000, x360001, x360002, x360003⟩ : S55)]) (wrap64 (x18 + 1)) (wrap64 (x19 + 1)) (wrap64 (x20 + 1))) else (none))))) else (none)) else (none)
end
def laws_FnExplained.f (k : Nat) (l0 : List Int) : Option (Bool) := (laws_big.f l0).bind fun t327 => (if t327 = true then (some true) else ((spec_DrawExplainBlock.f k l0).bind fun bt328 => ((impl_ExplainBlock.f k bt328.1 bt328.2).bind fun bt332 => ((spec_ExplainBlock.f k bt328.1 bt328.2).bind fun bt336 => ((impl_CountFaults.f k bt328.1 bt328.2).bind fun bt340 => ((spec_CountFaults.f k bt328.1 bt328.2).bind fun bt342 => ((impl_FirstDifference.f k bt328.1 bt328.2).bind fun bt344 => ((spec_FirstDifference.f k bt328.1 bt328.2).bind fun bt346 => (if bt332.2 = bt336.2 then ((laws_likeInts.f k bt332.1 bt336.1).bind fun t348 => (if t348 = true then (if bt340.2 = bt342.2 then (if bt340.1 = bt342.1 then (if bt344.2 = bt346.2 then (if bt344.1 = bt346.1 then (laws_FnExplained.j0 k bt328.1 bt328.2 bt332.1 bt332.2 bt340.1 bt344.2 (bt340.2 != bt332.2)) else (laws_FnExplained.j0 k bt328.1 bt328.2 bt332.1 bt332.2 bt340.1 bt344.2 true)) else (laws_FnExplained.j0 k bt328.1 bt328.2 bt332.1 bt332.2 bt340.1 bt344.2 true)) else (laws_FnExplained.j0 k bt328.1 bt328.2 bt332.1 bt332.2 bt340.1 bt344.2 true)) else (laws_FnExplained.j0 k bt328.1 bt328.2 bt332.1 bt332.2 bt340.1 bt344.2 true)) else (laws_FnExplained.j0 k bt328.1 bt328.2 bt332.1 bt332.2 bt340.1 bt344.2 true))) else (laws_FnExplained.j0 k bt328.1 bt328.2 bt332.1 bt332.2 bt340.1 bt344.2 true))))))))))
theorem laws_FnExplained.mono_l : ∀ k, (∀ y0 y1 y2 y3 y4 y5 y6, LeO (laws_FnExplained.j0 k y0 y1 y2 y3 y4 y5 y6) (laws_FnExplained.j0 (k + 1) y0 y1 y2 y3 y4 y5 y6)) ∧ (∀ y0 y1 y2 y3 y4 y5 y6 y7 y8, LeO (laws_FnExplained.l0 k y0 y1 y2 y3 y4 y5 y6 y7 y8) (laws_FnExplained.l0 (k + 1) y0 y1 y2 y3 y4 y5 y6 y7 y8)) ∧ (∀ y0 y1 y2 y3 y4 y5 y6 y7 y8 y9 y10 y11 y12, LeO (laws_FnExplained.j2 k y0 y1 y2 y3 y4 y5 y6 y7 y8 y9 y10 y11 y12) (laws_FnExplained.j2 (k + 1) y0 y1 y2 y3 y4 y5 y6 y7 y8 y9 y10 y11 y12))
  | 0 => ⟨fun _ _ _ _ _ _ _ r h => by simp [laws_FnExplained.j0] at h, fun _ _ _ _ _ _ _ _ _ r h => by simp [laws_FnExplained.l0] at h, fun _ _ _ _ _ _ _ _ _ _ _ _ _ r h => by simp [laws_FnExplained.j2] at h⟩
  | k + 1 => by
    obtain ⟨ih0, ih1, ih2⟩ := laws_FnExplained.mono_l k
    refine ⟨?_, ?_, ?_⟩
    · intro y0 y1 y2 y3 y4 y5 y6
      unfold laws_FnExplained.j0
      repeat' first
      | (with_reducible exact ih0 _ _ _ _ _ _ _)
      | (with_reducible exact ih1 _ _ _ _ _ _ _ _ _)
      | (with_reducible exact ih2 _ _ _ _ _ _ _ _ _ _ _ _ _)
      | (with_reducible exact impl_CountFaults.mono _ _ _)
      | (with_reducible exact impl_ExplainBlock.mono _ _ _)
      | (with_reducible exact impl_FirstDifference.mono _ _ _)
      | (with_reducible exact impl_GatherBooks.mono _ _ _ _)
      | (with_reducible exact laws_likeInts.mono _ _ _)
      | (with_reducible exact spec_CountFaults.mono _ _ _)
      | (with_reducible exact spec_DrawExplainBlock.mono _ _)
      | (with_reducible exact spec_ExplainBlock.mono _ _ _)
      | (with_reducible exact spec_FirstDifference.mono _ _ _)
      | (with_reducible exact LeO.refl _)
      | (with_reducible exact LeO.none _)
      | (with_reducible refine LeO.ite ?_ ?_)
      | (with_reducible refine LeO.bind ?_ (fun _ => ?_))
      | exact ih0 _ _ _ _ _ _ _
      | exact ih1 _ _ _ _ _ _ _ _ _
      | exact ih2 _ _ _ _ _ _ _ _ _ _ _ _ _
      | exact impl_CountFaults.mono _ _ _
      | exact impl_ExplainBlock.mono _ _ _
      | exact impl_FirstDifference.mono _ _ _
      | exact impl_GatherBooks.mono _ _ _ _
      | exact laws_likeInts.mono _ _ _
      | exact spec_CountFaults.mono _ _ _
      | exact spec_DrawExplainBlock.mono _ _
      | exact spec_ExplainBlock.mono _ _ _
      | exact spec_FirstDifference.mono _ _ _
      | exact LeO.none _
      | refine LeO.ite ?_ ?_
      | refine LeO.bind ?_ (fun _ => ?_)
    · intro y0 y1 y2 y3 y4 y5 y6 y7 y8
      unfold laws_FnExplained.l0
      repeat' first
      | (with_reducible exact ih0 _ _ _ _ _ _ _)
      | (with_reducible exact ih1 _ _ _ _ _ _ _ _ _)
      | (with_reducible exact ih2 _ _ _ _ _ _ _ _ _ _ _ _ _)
      | (with_reducible exact impl_CountFaults.mono _ _ _)
      | (with_reducible exact impl_ExplainBlock.mono _ _ _)
      | (with_reducible exact impl_FirstDifference.mono _ _ _)
      | (with_reducible exact impl_GatherBooks.mono _ _ _ _)
      | (with_reducible exact laws_likeInts.mono _ _ _)
      | (with_reducible exact spec_CountFaults.mono _ _ _)
      | (with_reducible exact spec_DrawExplainBlock.mono _ _)
      | (with_reducible exact spec_ExplainBlock.mono _ _ _)
      | (with_reducible exact spec_FirstDifference.mono _ _ _)
      | (with_reducible exact LeO.refl _)
      | (with_reducible exact LeO.none _)
      | (with_reducible refine LeO.ite ?_ ?_)
      | (with_reducible refine LeO.bind ?_ (fun _ => ?_))
      | exact ih0 _ _ _ _ _ _ _
      | exact ih1 _ _ _ _ _ _ _ _ _
      | exact ih2 _ _ _ _ _ _ _ _ _ _ _ _ _
      | exact impl_CountFaults.mono _ _ _
      | exact impl_ExplainBlock.mono _ _ _
      | exact impl_FirstDifference.mono _ _ _
      | exact impl_GatherBooks.mono _ _ _ _
      | exact laws_likeInts.mono _ _ _
      | exact spec_CountFaults.mono _ _ _
      | exact spec_DrawExplainBlock.mono _ _
      | exact spec_ExplainBlock.mono _ _ _
      | exact spec_FirstDifference.mono _ _ _
      | exact LeO.none _
      | refine LeO.ite ?_ ?_
      | refine LeO.bind ?_ (fun _ => ?_)
    · intro y0 y1 y2 y3 y4 y5 y6 y7 y8 y9 y10 y11 y12
      unfold laws_FnExplained.j2
      repeat' first
      | (with_reducible exact ih0 _ _ _ _ _ _ _)
      | (with_reducible exact ih1 _ _ _ _ _ _ _ _ _)
      | (with_reducible exact ih2 _ _ _ _ _ _ _ _ _ _ _ _ _)
      | (with_reducible exact impl_CountFaults.mono _ _ _)
      | (with_reducible exact impl_ExplainBlock.mono _ _ _)
      | (with_reducible exact impl_FirstDifference.mono _ _ _)
      | (with_reducible exact impl_GatherBooks.mono _ _ _ _)
      | (with_reducible exact laws_likeInts.mono _ _ _)
      | (with_reducible exact spec_CountFaults.mono _ _ _)
      | (with_reducible exact spec_DrawExplainBlock.mono _ _)
      | (with_reducible exact spec_ExplainBlock.mono _ _ _)
      | (with_reducible exact spec_FirstDifference.mono _ _ _)
      | (with_reducible exact LeO.refl _)
      | (with_reducible exact LeO.none _)
      | (with_reducible refine LeO.ite ?_ ?_)
      | (with_reducible refine LeO.bind ?_ (fun _ => ?_))
      | exact ih0 _ _ _ _ _ _ _
      | exact ih1 _ _ _ _ _ _ _ _ _
      | exact ih2 _ _ _ _ _ _ _ _ _ _ _ _ _
      | exact impl_CountFaults.mono _ _ _
      | exact impl_ExplainBlock.mono _ _ _
      | exact impl_FirstDifference.mono _ _ _
      | exact impl_GatherBooks.mono _ _ _ _
      | exact laws_likeInts.mono _ _ _
      | exact spec_CountFaults.mono _ _ _
      | exact spec_DrawExplainBlock.mono _ _
      | exact spec_ExplainBlock.mono _ _ _
      | exact spec_FirstDifference.mono _ _ _
      | exact LeO.none _
      | refine LeO.ite ?_ ?_
      | refine LeO.bind ?_ (fun _ => ?_)
theorem laws_FnExplained.mono : ∀ a0 k, LeO (laws_FnExplained.f k a0) (laws_FnExplained.f (k + 1) a0) := by
  intro a0 k
  obtain ⟨ih0, ih1, ih2⟩ := laws_FnExplained.mono_l k
  unfold laws_FnExplained.f
  repeat' first
      | (with_reducible exact ih0 _ _ _ _ _ _ _)
      | (with_reducible exact ih1 _ _ _ _ _ _ _ _ _)
      | (with_reducible exact ih2 _ _ _ _ _ _ _ _ _ _ _ _ _)
      | (with_reducible exact impl_CountFaults.mono _ _ _)
      | (with_reducible exact impl_ExplainBlock.mono _ _ _)
      | (with_reducible exact impl_FirstDifference.mono _ _ _)
      | (with_reducible exact impl_GatherBooks.mono _ _ _ _)
      | (with_reducible exact laws_likeInts.mono _ _ _)
      | (with_reducible exact spec_CountFaults.mono _ _ _)
      | (with_reducible exact spec_DrawExplainBlock.mono _ _)
      | (with_reducible exact spec_ExplainBlock.mono _ _ _)
      | (with_reducible exact spec_FirstDifference.mono _ _ _)
      | (with_reducible exact LeO.refl _)
      | (with_reducible exact LeO.none _)
      | (with_reducible refine LeO.ite ?_ ?_)
      | (with_reducible refine LeO.bind ?_ (fun _ => ?_))
      | exact ih0 _ _ _ _ _ _ _
      | exact ih1 _ _ _ _ _ _ _ _ _
      | exact ih2 _ _ _ _ _ _ _ _ _ _ _ _ _
      | exact impl_CountFaults.mono _ _ _
      | exact impl_ExplainBlock.mono _ _ _
      | exact impl_FirstDifference.mono _ _ _
      | exact impl_GatherBooks.mono _ _ _ _
      | exact laws_likeInts.mono _ _ _
      | exact spec_CountFaults.mono _ _ _
      | exact spec_DrawExplainBlock.mono _ _
      | exact spec_ExplainBlock.mono _ _ _
      | exact spec_FirstDifference.mono _ _ _
      | exact LeO.none _
      | refine LeO.ite ?_ ?_
      | refine LeO.bind ?_ (fun _ => ?_)
set_option maxHeartbeats 8000000 in
set_option maxRecDepth 100000 in
theorem laws_FnExplained.calls (k : Nat) (A0 : Option Addr) (c0 : Nat) (l0 : List Int) (r : Bool) (w : World) (hr0 : Kd.C (Kd.int .u8) w A0 l0.length l0) (hc0 : l0.length ≤ c0) (hr_ : Aside0 (r = true)) (h : laws_FnExplained.f k l0 = some r) :
    Calls Try.prog 12 #[.slice A0 l0.length c0] w fun e w' => e = .returned (.bool r) ∧ Below w.heap.size w w' := by
  have hu55 := Try.underlying55
  have HR0 := Aside0.mk hr0
  have HC0 := Aside0.mk hc0
  clear hr0 hc0
  have HB := Aside0.mk (Below.refl w.heap.size w)
  have H : ((laws_big.f l0).bind fun t327 => (if t327 = true then (some true) else ((spec_DrawExplainBlock.f k l0).bind fun bt328 => ((impl_ExplainBlock.f k bt328.1 bt328.2).bind fun bt332 => ((spec_ExplainBlock.f k bt328.1 bt328.2).bind fun bt336 => ((impl_CountFaults.f k bt328.1 bt328.2).bind fun bt340 => ((spec_CountFaults.f k bt328.1 bt328.2).bind fun bt342 => ((impl_FirstDifference.f k bt328.1 bt328.2).bind fun bt344 => ((spec_FirstDifference.f k bt328.1 bt328.2).bind fun bt346 => (if bt332.2 = bt336.2 then ((laws_likeInts.f k bt332.1 bt336.1).bind fun t348 => (if t348 = true then (if bt340.2 = bt342.2 then (if bt340.1 = bt342.1 then (if bt344.2 = bt346.2 then (if bt344.1 = bt346.1 then (laws_FnExplained.j0 k bt328.1 bt328.2 bt332.1 bt332.2 bt340.1 bt344.2 (bt340.2 != bt332.2)) else (laws_FnExplained.j0 k bt328.1 bt328.2 bt332.1 bt332.2 bt340.1 bt344.2 true)) else (laws_FnExplained.j0 k bt328.1 bt328.2 bt332.1 bt332.2 bt340.1 bt344.2 true)) else (laws_FnExplained.j0 k bt328.1 bt328.2 bt332.1 bt332.2 bt340.1 bt344.2 true)) else (laws_FnExplained.j0 k bt328.1 bt328.2 bt332.1 bt332.2 bt340.1 bt344.2 true)) else (laws_FnExplained.j0 k bt328.1 bt328.2 bt332.1 bt332.2 bt340.1 bt344.2 true))) else (laws_FnExplained.j0 k bt328.1 bt328.2 bt332.1 bt332.2 bt340.1 bt344.2 true))))))))))) = some r := h
  clear h
  replace H := Option.bind_eq_some_iff.mp H
  obtain ⟨t327, A20, H⟩ := H
  replace H : (if t327 = true then (some true) else ((spec_DrawExplainBlock.f k l0).bind fun bt328 => ((impl_ExplainBlock.f k bt328.1 bt328.2).bind fun bt332 => ((spec_ExplainBlock.f k bt328.1 bt328.2).bind fun bt336 => ((impl_CountFaults.f k bt328.1 bt328.2).bind fun bt340 => ((spec_CountFaults.f k bt328.1 bt328.2).bind fun bt342 => ((impl_FirstDifference.f k bt328.1 bt328.2).bind fun bt344 => ((spec_FirstDifference.f k bt328.1 bt328.2).bind fun bt346 => (if bt332.2 = bt336.2 then ((laws_likeInts.f k bt332.1 bt336.1).bind fun t348 => (if t348 = true then (if bt340.2 = bt342.2 then (if bt340.1 = bt342.1 then (if bt344.2 = bt346.2 then (if bt344.1 = bt346.1 then (laws_FnExplained.j0 k bt328.1 bt328.2 bt332.1 bt332.2 bt340.1 bt344.2 (bt340.2 != bt332.2)) else (laws_FnExplained.j0 k bt328.1 bt328.2 bt332.1 bt332.2 bt340.1 bt344.2 true)) else (laws_FnExplained.j0 k bt328.1 bt328.2 bt332.1 bt332.2 bt340.1 bt344.2 true)) else (laws_FnExplained.j0 k bt328.1 bt328.2 bt332.1 bt332.2 bt340.1 bt344.2 true)) else (laws_FnExplained.j0 k bt328.1 bt328.2 bt332.1 bt332.2 bt340.1 bt344.2 true)) else (laws_FnExplained.j0 k bt328.1 bt328.2 bt332.1 bt332.2 bt340.1 bt344.2 true))) else (laws_FnExplained.j0 k bt328.1 bt328.2 bt332.1 bt332.2 bt340.1 bt344.2 true)))))))))) = some r := H
  have A2 := Aside0.mk A20
  clear A20
  by_cases c3 : t327 = true
  · subst c3
    have H1 : (some true) = some r := by rw [if_pos rfl] at H; exact H
    clear H
    have H := H1
    clear H1
    obtain rfl := Option.some.inj H
    go_enter Try.func12, Try.ntmps12
    go_wp2_with (first | ((with_reducible refine gate_callee (f := 40) rfl ?_); refine goesL_ (some 25) rfl rfl Try.func40 (by kernel_rfl) rfl #[.slice A0 l0.length c0] rfl (by (try simp only [List.map_toArray, List.map_cons, List.map_nil]); first | done | rfl | (simp only [List.length_drop, List.length_take]; rfl)) ?_; (with_reducible refine (laws_big.calls _ _ l0 true _ ?side1 ?side2 A2.out).mono ?_); (case side1 => repeat (first | exact HR0.out | (with_reducible refine Kd.C_alloc ?_ _) | (with_reducible refine Kd.C_drewN ?_ _) | (with_reducible refine Kd.C_drew ?_))); (case side2 => exact HC0.out); rintro e w' ⟨rfl, ⟨nd, rfl⟩⟩; refine ⟨_, rfl, ?_⟩))
    go_ret
    exact ⟨by first | rfl | (simp [errW_none, errW_some] <;> rfl) | (simp [*, errW_none, errW_some] <;> rfl), by repeat (first | (with_reducible first | exact HB.out | apply below_alloc | apply pw_below_drewN | apply below_drew1) | exact HB.out)⟩
  · replace c3 := Bool.eq_false_iff.mpr c3
    subst c3
    have H1 : ((spec_DrawExplainBlock.f k l0).bind fun bt328 => ((impl_ExplainBlock.f k bt328.1 bt328.2).bind fun bt332 => ((spec_ExplainBlock.f k bt328.1 bt328.2).bind fun bt336 => ((impl_CountFaults.f k bt328.1 bt328.2).bind fun bt340 => ((spec_CountFaults.f k bt328.1 bt328.2).bind fun bt342 => ((impl_FirstDifference.f k bt328.1 bt328.2).bind fun bt344 => ((spec_FirstDifference.f k bt328.1 bt328.2).bind fun bt346 => (if bt332.2 = bt336.2 then ((laws_likeInts.f k bt332.1 bt336.1).bind fun t348 => (if t348 = true then (if bt340.2 = bt342.2 then (if bt340.1 = bt342.1 then (if bt344.2 = bt346.2 then (if bt344.1 = bt346.1 then (laws_FnExplained.j0 k bt328.1 bt328.2 bt332.1 bt332.2 bt340.1 bt344.2 (bt340.2 != bt332.2)) else (laws_FnExplained.j0 k bt328.1 bt328.2 bt332.1 bt332.2 bt340.1 bt344.2 true)) else (laws_FnExplained.j0 k bt328.1 bt328.2 bt332.1 bt332.2 bt340.1 bt344.2 true)) else (laws_FnExplained.j0 k bt328.1 bt328.2 bt332.1 bt332.2 bt340.1 bt344.2 true)) else (laws_FnExplained.j0 k bt328.1 bt328.2 bt332.1 bt332.2 bt340.1 bt344.2 true)) else (laws_FnExplained.j0 k bt328.1 bt328.2 bt332.1 bt332.2 bt340.1 bt344.2 true))) else (laws_FnExplained.j0 k bt328.1 bt328.2 bt332.1 bt332.2 bt340.1 bt344.2 true))))))))) = some r := by rw [if_neg (show ¬ (false = true) by decide)] at H; exact H
    clear H
    have H := H1
    clear H1
    replace H := Option.bind_eq_some_iff.mp H
    obtain ⟨⟨t328, t329⟩, A40, H⟩ := H
    replace H : ((impl_ExplainBlock.f k t328 t329).bind fun bt332 => ((spec_ExplainBlock.f k t328 t329).bind fun bt336 => ((impl_CountFaults.f k t328 t329).bind fun bt340 => ((spec_CountFaults.f k t328 t329).bind fun bt342 => ((impl_FirstDifference.f k t328 t329).bind fun bt344 => ((spec_FirstDifference.f k t328 t329).bind fun bt346 => (if bt332.2 = bt336.2 then ((laws_likeInts.f k bt332.1 bt336.1).bind fun t348 => (if t348 = true then (if bt340.2 = bt342.2 then (if bt340.1 = bt342.1 then (if bt344.2 = bt346.2 then (if bt344.1 = bt346.1 then (laws_FnExplained.j0 k t328 t329 bt332.1 bt332.2 bt340.1 bt344.2 (bt340.2 != bt332.2)) else (laws_FnExplained.j0 k t328 t329 bt332.1 bt332.2 bt340.1 bt344.2 true)) else (laws_FnExplained.j0 k t328 t329 bt332.1 bt332.2 bt340.1 bt344.2 true)) else (laws_FnExplained.j0 k t328 t329 bt332.1 bt332.2 bt340.1 bt344.2 true)) else (laws_FnExplained.j0 k t328 t329 bt332.1 bt332.2 bt340.1 bt344.2 true)) else (laws_FnExplained.j0 k t328 t329 bt332.1 bt332.2 bt340.1 bt344.2 true))) else (laws_FnExplained.j0 k t328 t329 bt332.1 bt332.2 bt340.1 bt344.2 true)))))))) = some r := H
    have A4 := Aside0.mk A40
    clear A40
    replace H := Option.bind_eq_some_iff.mp H
    obtain ⟨⟨t332, t333⟩, A50, H⟩ := H
    replace H : ((spec_ExplainBlock.f k t328 t329).bind fun bt336 => ((impl_CountFaults.f k t328 t329).bind fun bt340 => ((spec_CountFaults.f k t328 t329).bind fun bt342 => ((impl_FirstDifference.f k t328 t329).bind fun bt344 => ((spec_FirstDifference.f k t328 t329).bind fun bt346 => (if t333 = bt336.2 then ((laws_likeInts.f k t332 bt336.1).bind fun t348 => (if t348 = true then (if bt340.2 = bt342.2 then (if bt340.1 = bt342.1 then (if bt344.2 = bt346.2 then (if bt344.1 = bt346.1 then (laws_FnExplained.j0 k t328 t329 t332 t333 bt340.1 bt344.2 (bt340.2 != t333)) else (laws_FnExplained.j0 k t328 t329 t332 t333 bt340.1 bt344.2 true)) else (laws_FnExplained.j0 k t328 t329 t332 t333 bt340.1 bt344.2 true)) else (laws_FnExplained.j0 k t328 t329 t332 t333 bt340.1 bt344.2 true)) else (laws_FnExplained.j0 k t328 t329 t332 t333 bt340.1 bt344.2 true)) else (laws_FnExplained.j0 k t328 t329 t332 t333 bt340.1 bt344.2 true))) else (laws_FnExplained.j0 k t328 t329 t332 t333 bt340.1 bt344.2 true))))))) = some r := H
    have A5 := Aside0.mk A50
    clear A50
    replace H := Option.bind_eq_some_iff.mp H
    obtain ⟨⟨t336, t337⟩, A60, H⟩ := H
    replace H : ((impl_CountFaults.f k t328 t329).bind fun bt340 => ((spec_CountFaults.f k t328 t329).bind fun bt342 => ((impl_FirstDifference.f k t328 t329).bind fun bt344 => ((spec_FirstDifference.f k t328 t329).bind fun bt346 => (if t333 = t337 then ((laws_likeInts.f k t332 t336).bind fun t348 => (if t348 = true then (if bt340.2 = bt342.2 then (if bt340.1 = bt342.1 then (if bt344.2 = bt346.2 then (if bt344.1 = bt346.1 then (laws_FnExplained.j0 k t328 t329 t332 t333 bt340.1 bt344.2 (bt340.2 != t333)) else (laws_FnExplained.j0 k t328 t329 t332 t333 bt340.1 bt344.2 true)) else (laws_FnExplained.j0 k t328 t329 t332 t333 bt340.1 bt344.2 true)) else (laws_FnExplained.j0 k t328 t329 t332 t333 bt340.1 bt344.2 true)) else (laws_FnExplained.j0 k t328 t329 t332 t333 bt340.1 bt344.2 true)) else (laws_FnExplained.j0 k t328 t329 t332 t333 bt340.1 bt344.2 true))) else (laws_FnExplained.j0 k t328 t329 t332 t333 bt340.1 bt344.2 true)))))) = some r := H
    have A6 := Aside0.mk A60
    clear A60
    replace H := Option.bind_eq_some_iff.mp H
    obtain ⟨⟨t340, t341⟩, A70, H⟩ := H
    replace H : ((spec_CountFaults.f k t328 t329).bind fun bt342 => ((impl_FirstDifference.f k t328 t329).bind fun bt344 => ((spec_FirstDifference.f k t328 t329).bind fun bt346 => (if t333 = t337 then ((laws_likeInts.f k t332 t336).bind fun t348 => (if t348 = true then (if t341 = bt342.2 then (if t340 = bt342.1 then (if bt344.2 = bt346.2 then (if bt344.1 = bt346.1 then (laws_FnExplained.j0 k t328 t329 t332 t333 t340 bt344.2 (t341 != t333)) else (laws_FnExplained.j0 k t328 t329 t332 t333 t340 bt344.2 true)) else (laws_FnExplained.j0 k t328 t329 t332 t333 t340 bt344.2 true)) else (laws_FnExplained.j0 k t328 t329 t332 t333 t340 bt344.2 true)) else (laws_FnExplained.j0 k t328 t329 t332 t333 t340 bt344.2 true)) else (laws_FnExplained.j0 k t328 t329 t332 t333 t340 bt344.2 true))) else (laws_FnExplained.j0 k t328 t329 t332 t333 t340 bt344.2 true))))) = some r := H
    have A7 := Aside0.mk A70
    clear A70
    replace H := Option.bind_eq_some_iff.mp H
    obtain ⟨⟨t342, t343⟩, A80, H⟩ := H
    replace H : ((impl_FirstDifference.f k t328 t329).bind fun bt344 => ((spec_FirstDifference.f k t328 t329).bind fun bt346 => (if t333 = t337 then ((laws_likeInts.f k t332 t336).bind fun t348 => (if t348 = true then (if t341 = t343 then (if t340 = t342 then (if bt344.2 = bt346.2 then (if bt344.1 = bt346.1 then (laws_FnExplained.j0 k t328 t329 t332 t333 t340 bt344.2 (t341 != t333)) else (laws_FnExplained.j0 k t328 t329 t332 t333 t340 bt344.2 true)) else (laws_FnExplained.j0 k t328 t329 t332 t333 t340 bt344.2 true)) else (laws_FnExplained.j0 k t328 t329 t332 t333 t340 bt344.2 true)) else (laws_FnExplained.j0 k t328 t329 t332 t333 t340 bt344.2 true)) else (laws_FnExplained.j0 k t328 t329 t332 t333 t340 bt344.2 true))) else (laws_FnExplained.j0 k t328 t329 t332 t333 t340 bt344.2 true)))) = some r := H
    have A8 := Aside0.mk A80
    clear A80
    replace H := Option.bind_eq_some_iff.mp H
    obtain ⟨⟨t344, t345⟩, A90, H⟩ := H
    replace H : ((spec_FirstDifference.f k t328 t329).bind fun bt346 => (if t333 = t337 then ((laws_likeInts.f k t332 t336).bind fun t348 => (if t348 = true then (if t341 = t343 then (if t340 = t342 then (if t345 = bt346.2 then (if t344 = bt346.1 then (laws_FnExplained.j0 k t328 t329 t332 t333 t340 t345 (t341 != t333)) else (laws_FnExplained.j0 k t328 t329 t332 t333 t340 t345 true)) else (laws_FnExplained.j0 k t328 t329 t332 t333 t340 t345 true)) else (laws_FnExplained.j0 k t328 t329 t332 t333 t340 t345 true)) else (laws_FnExplained.j0 k t328 t329 t332 t333 t340 t345 true)) else (laws_FnExplained.j0 k t328 t329 t332 t333 t340 t345 true))) else (laws_FnExplained.j0 k t328 t329 t332 t333 t340 t345 true))) = some r := H
    have A9 := Aside0.mk A90
    clear A90
    replace H := Option.bind_eq_some_iff.mp H
    obtain ⟨⟨t346, t347⟩, A100, H⟩ := H
    replace H : (if t333 = t337 then ((laws_likeInts.f k t332 t336).bind fun t348 => (if t348 = true then (if t341 = t343 then (if t340 = t342 then (if t345 = t347 then (if t344 = t346 then (laws_FnExplained.j0 k t328 t329 t332 t333 t340 t345 (t341 != t333)) else (laws_FnExplained.j0 k t328 t329 t332 t333 t340 t345 true)) else (laws_FnExplained.j0 k t328 t329 t332 t333 t340 t345 true)) else (laws_FnExplained.j0 k t328 t329 t332 t333 t340 t345 true)) else (laws_FnExplained.j0 k t328 t329 t332 t333 t340 t345 true)) else (laws_FnExplained.j0 k t328 t329 t332 t333 t340 t345 true))) else (laws_FnExplained.j0 k t328 t329 t332 t333 t340 t345 true)) = some r := H
    have A10 := Aside0.mk A100
    clear A100
    have HC11 := Aside0.mk H
    clear H
    go_enter Try.func12, Try.ntmps12
    go_upto_region 10 with (first | ((with_reducible refine gate_callee (f := 40) rfl ?_); refine goesL_ (some 25) rfl rfl Try.func40 (by kernel_rfl) rfl #[.slice A0 l0.length c0] rfl (by (try simp only [List.map_toArray, List.map_cons, List.map_nil]); first | done | rfl | (simp only [List.length_drop, List.length_take]; rfl)) ?_; (with_reducible refine (laws_big.calls _ _ l0 false _ ?side1 ?side2 A2.out).mono ?_); (case side1 => repeat (first | exact HR0.out | (with_reducible refine Kd.C_alloc ?_ _) | (with_reducible refine Kd.C_drewN ?_ _) | (with_reducible refine Kd.C_drew ?_))); (case side2 => exact HC0.out); rintro e w' ⟨rfl, ⟨nd, rfl⟩⟩; refine ⟨_, rfl, ?_⟩) | ((with_reducible refine gate_callee (f := 45) rfl ?_); refine goesL_ (some 28) rfl rfl Try.func45 (by kernel_rfl) rfl #[.slice A0 l0.length c0] rfl (by (try simp only [List.map_toArray, List.map_cons, List.map_nil]); first | done | rfl | (simp only [List.length_drop, List.length_take]; rfl)) ?_; (with_reducible refine (spec_DrawExplainBlock.calls k _ _ l0 t328 t329 _ ?side1 ?side2 A4.out).mono ?_); (case side1 => repeat (first | exact HR0.out | (with_reducible refine Kd.C_alloc ?_ _) | (with_reducible refine Kd.C_drewN ?_ _) | (with_reducible refine Kd.C_drew ?_))); (case side2 => exact HC0.out); rintro e w12 ⟨v330, rfl, ho0, hb⟩; refine ⟨_, rfl, ?_⟩; have n0_ := Aside0.mk (Kd.R_lower ho0 (below_size (by repeat (first | (with_reducible first | exact HB.out | apply below_alloc | apply pw_below_drewN | apply below_drew1) | exact HB.out)))); have n1_ := Aside0.mk (below_step (by repeat (first | (with_reducible first | exact HB.out | apply below_alloc | apply pw_below_drewN | apply below_drew1) | exact HB.out)) hb); clear HB; have HO331 := n0_; have HB := n1_; clear n0_ n1_; (try clear hb); (try clear hb2); (try clear hk); (try clear hi); (try clear ho0); obtain ⟨Ao13, co13, eo13⟩ := Kd.R_slice HO331.out; subst eo13) | ((with_reducible refine gate_callee (f := 31) rfl ?_); refine goesL_ (some 34) rfl rfl Try.func31 (by kernel_rfl) rfl #[.int .i64 t328, .slice Ao13 t329.length co13] rfl (by (try simp only [List.map_toArray, List.map_cons, List.map_nil]); first | done | rfl | (simp only [List.length_drop, List.length_take]; rfl)) ?_; (with_reducible refine (impl_ExplainBlock.calls k t328 _ _ t329 t332 t333 _ ?side1 ?side2 A5.out).mono ?_); (case side1 => repeat (first | exact (Kd.R_reads' HO331.out).2.2 | (with_reducible refine Kd.C_alloc ?_ _) | (with_reducible refine Kd.C_drewN ?_ _) | (with_reducible refine Kd.C_drew ?_))); (case side2 => exact (Kd.R_reads' HO331.out).2.1); rintro e w14 ⟨v334, rfl, ho0, hb⟩; refine ⟨_, rfl, ?_⟩; have n0_ := Aside0.mk (Kd.R_elder' (by (with_reducible repeat (first | apply Kd.R_alloc | apply Kd.R_drewN | apply Kd.R_drew)); exact HO331.out) (Kd.R_base ho0) hb); have n1_ := Aside0.mk (Kd.R_lower (Kd.R_new' ho0 (Kd.R_lt (by (with_reducible repeat (first | apply Kd.R_alloc | apply Kd.R_drewN | apply Kd.R_drew)); exact HO331.out))) (below_size (by repeat (first | (with_reducible first | exact HB.out | apply below_alloc | apply pw_below_drewN | apply below_drew1) | exact HB.out)))); have n2_ := Aside0.mk (below_step (by repeat (first | (with_reducible first | exact HB.out | apply below_alloc | apply pw_below_drewN | apply below_drew1) | exact HB.out)) hb); clear HO331; clear HB; have HO331 := n0_; have HO335 := n1_; have HB := n2_; clear n0_ n1_ n2_; (try clear hb); (try clear hb2); (try clear hk); (try clear hi); (try clear ho0)) | ((with_reducible refine gate_callee (f := 30) rfl ?_); refine goesL_ (some 40) rfl rfl Try.func30 (by kernel_rfl) rfl #[.int .i64 t328, .slice Ao13 t329.length co13] rfl (by (try simp only [List.map_toArray, List.map_cons, List.map_nil]); first | done | rfl | (simp only [List.length_drop, List.length_take]; rfl)) ?_; (with_reducible refine (spec_ExplainBlock.calls k t328 _ _ t329 t336 t337 _ ?side1 ?side2 A6.out).mono ?_); (case side1 => repeat (first | exact (Kd.R_reads' HO331.out).2.2 | (with_reducible refine Kd.C_alloc ?_ _) | (with_reducible refine Kd.C_drewN ?_ _) | (with_reducible refine Kd.C_drew ?_))); (case side2 => exact (Kd.R_reads' HO331.out).2.1); rintro e w15 ⟨v338, rfl, ho0, hb⟩; refine ⟨_, rfl, ?_⟩; have n0_ := Aside0.mk (Kd.R_elder' (by (with_reducible repeat (first | apply Kd.R_alloc | apply Kd.R_drewN | apply Kd.R_drew)); exact HO331.out) (Kd.R_base ho0) hb); have n1_ := Aside0.mk (Kd.R_elder' (by (with_reducible repeat (first | apply Kd.R_alloc | apply Kd.R_drewN | apply Kd.R_drew)); exact HO335.out) (Kd.R_base ho0) hb); have n2_ := Aside0.mk (Kd.R_lower (Kd.R_new' (Kd.R_new' ho0 (Kd.R_lt (by (with_reducible repeat (first | apply Kd.R_alloc | apply Kd.R_drewN | apply Kd.R_drew)); exact HO331.out))) (Kd.R_lt (by (with_reducible repeat (first | apply Kd.R_alloc | apply Kd.R_drewN | apply Kd.R_drew)); exact HO335.out))) (below_size (by repeat (first | (with_reducible first | exact HB.out | apply below_alloc | apply pw_below_drewN | apply below_drew1) | exact HB.out)))); have n3_ := Aside0.mk (below_step (by repeat (first | (with_reducible first | exact HB.out | apply below_alloc | apply pw_below_drewN | apply below_drew1) | exact HB.out)) hb); clear HO331; clear HO335; clear HB; have HO331 := n0_; have HO335 := n1_; have HO339 := n2_; have HB := n3_; clear n0_ n1_ n2_ n3_; (try clear hb); (try clear hb2); (try clear hk); (try clear hi); (try clear ho0)) | ((with_reducible refine gate_callee (f := 29) rfl ?_); refine goesL_ (some 46) rfl rfl Try.func29 (by kernel_rfl) rfl #[.int .i64 t328, .slice Ao13 t329.length co13] rfl (by (try simp only [List.map_toArray, List.map_cons, List.map_nil]); first | done | rfl | (simp only [List.length_drop, List.length_take]; rfl)) ?_; (with_reducible refine (impl_CountFaults.calls k t328 _ _ t329 t340 t341 _ ?side1 ?side2 A7.out).mono ?_); (case side1 => repeat (first | exact (Kd.R_reads' HO331.out).2.2 | (with_reducible refine Kd.C_alloc ?_ _) | (with_reducible refine Kd.C_drewN ?_ _) | (with_reducible refine Kd.C_drew ?_))); (case side2 => exact (Kd.R_reads' HO331.out).2.1); rintro e w16 ⟨rfl, hb⟩; refine ⟨_, rfl, ?_⟩; have n0_ := Aside0.mk (Kd.R_below (by (with_reducible repeat (first | apply Kd.R_alloc | apply Kd.R_drewN | apply Kd.R_drew)); exact HO331.out) hb); have n1_ := Aside0.mk (Kd.R_below (by (with_reducible repeat (first | apply Kd.R_alloc | apply Kd.R_drewN | apply Kd.R_drew)); exact HO335.out) hb); have n2_ := Aside0.mk (Kd.R_below (by (with_reducible repeat (first | apply Kd.R_alloc | apply Kd.R_drewN | apply Kd.R_drew)); exact HO339.out) hb); have n3_ := Aside0.mk (below_step (by repeat (first | (with_reducible first | exact HB.out | apply below_alloc | apply pw_below_drewN | apply below_drew1) | exact HB.out)) hb); clear HO331; clear HO335; clear HO339; clear HB; have HO331 := n0_; have HO335 := n1_; have HO339 := n2_; have HB := n3_; clear n0_ n1_ n2_ n3_; (try clear hb); (try clear hb2); (try clear hk); (try clear hi)) | ((with_reducible refine gate_callee (f := 28) rfl ?_); refine goesL_ (some 52) rfl rfl Try.func28 (by kernel_rfl) rfl #[.int .i64 t328, .slice Ao13 t329.length co13] rfl (by (try simp only [List.map_toArray, List.map_cons, List.map_nil]); first | done | rfl | (simp only [List.length_drop, List.length_take]; rfl)) ?_; (with_reducible refine (spec_CountFaults.calls k t328 _ _ t329 t342 t343 _ ?side1 ?side2 A8.out).mono ?_); (case side1 => repeat (first | exact (Kd.R_reads' HO331.out).2.2 | (with_reducible refine Kd.C_alloc ?_ _) | (with_reducible refine Kd.C_drewN ?_ _) | (with_reducible refine Kd.C_drew ?_))); (case side2 => exact (Kd.R_reads' HO331.out).2.1); rintro e w17 ⟨rfl, hb⟩; refine ⟨_, rfl, ?_⟩; have n0_ := Aside0.mk (Kd.R_below (by (with_reducible repeat (first | apply Kd.R_alloc | apply Kd.R_drewN | apply Kd.R_drew)); exact HO331.out) hb); have n1_ := Aside0.mk (Kd.R_below (by (with_reducible repeat (first | apply Kd.R_alloc | apply Kd.R_drewN | apply Kd.R_drew)); exact HO335.out) hb); have n2_ := Aside0.mk (Kd.R_below (by (with_reducible repeat (first | apply Kd.R_alloc | apply Kd.R_drewN | apply Kd.R_drew)); exact HO339.out) hb); have n3_ := Aside0.mk (below_step (by repeat (first | (with_reducible first | exact HB.out | apply below_alloc | apply pw_below_drewN | apply below_drew1) | exact HB.out)) hb); clear HO331; clear HO335; clear HO339; clear HB; have HO331 := n0_; have HO335 := n1_; have HO339 := n2_; have HB := n3_; clear n0_ n1_ n2_ n3_; (try clear hb); (try clear hb2); (try clear hk); (try clear hi)) | ((with_reducible refine gate_callee (f := 25) rfl ?_); refine goesL_ (some 58) rfl rfl Try.func25 (by kernel_rfl) rfl #[.int .i64 t328, .slice Ao13 t329.length co13] rfl (by (try simp only [List.map_toArray, List.map_cons, List.map_nil]); first | done | rfl | (simp only [List.length_drop, List.length_take]; rfl)) ?_; (with_reducible refine (impl_FirstDifference.calls k t328 _ _ t329 t344 t345 _ ?side1 ?side2 A9.out).mono ?_); (case side1 => repeat (first | exact (Kd.R_reads' HO331.out).2.2 | (with_reducible refine Kd.C_alloc ?_ _) | (with_reducible refine Kd.C_drewN ?_ _) | (with_reducible refine Kd.C_drew ?_))); (case side2 => exact (Kd.R_reads' HO331.out).2.1); rintro e w18 ⟨rfl, hb⟩; refine ⟨_, rfl, ?_⟩; have n0_ := Aside0.mk (Kd.R_below (by (with_reducible repeat (first | apply Kd.R_alloc | apply Kd.R_drewN | apply Kd.R_drew)); exact HO331.out) hb); have n1_ := Aside0.mk (Kd.R_below (by (with_reducible repeat (first | apply Kd.R_alloc | apply Kd.R_drewN | apply Kd.R_drew)); exact HO335.out) hb); have n2_ := Aside0.mk (Kd.R_below (by (with_reducible repeat (first | apply Kd.R_alloc | apply Kd.R_drewN | apply Kd.R_drew)); exact HO339.out) hb); have n3_ := Aside0.mk (below_step (by repeat (first | (with_reducible first | exact HB.out | apply below_alloc | apply pw_below_drewN | apply below_drew1) | exact HB.out)) hb); clear HO331; clear HO335; clear HO339; clear HB; have HO331 := n0_; have HO335 := n1_; have HO339 := n2_; have HB := n3_; clear n0_ n1_ n2_ n3_; (try clear hb); (try clear hb2); (try clear hk); (try clear hi)) | ((with_reducible refine gate_callee (f := 23) rfl ?_); refine goesL_ (some 64) rfl rfl Try.func23 (by kernel_rfl) rfl #[.int .i64 t328, .slice Ao13 t329.length co13] rfl (by (try simp only [List.map_toArray, List.map_cons, List.map_nil]); first | done | rfl | (simp only [List.length_drop, List.length_take]; rfl)) ?_; (with_reducible refine (spec_FirstDifference.calls k t328 _ _ t329 t346 t347 _ ?side1 ?side2 A10.out).mono ?_); (case side1 => repeat (first | exact (Kd.R_reads' HO331.out).2.2 | (with_reducible refine Kd.C_alloc ?_ _) | (with_reducible refine Kd.C_drewN ?_ _) | (with_reducible refine Kd.C_drew ?_))); (case side2 => exact (Kd.R_reads' HO331.out).2.1); rintro e w19 ⟨rfl, hb⟩; refine ⟨_, rfl, ?_⟩; have n0_ := Aside0.mk (Kd.R_below (by (with_reducible repeat (first | apply Kd.R_alloc | apply Kd.R_drewN | apply Kd.R_drew)); exact HO331.out) hb); have n1_ := Aside0.mk (Kd.R_below (by (with_reducible repeat (first | apply Kd.R_alloc | apply Kd.R_drewN | apply Kd.R_drew)); exact HO335.out) hb); have n2_ := Aside0.mk (Kd.R_below (by (with_reducible repeat (first | apply Kd.R_alloc | apply Kd.R_drewN | apply Kd.R_drew)); exact HO339.out) hb); have n3_ := Aside0.mk (below_step (by repeat (first | (with_reducible first | exact HB.out | apply below_alloc | apply pw_below_drewN | apply below_drew1) | exact HB.out)) hb); clear HO331; clear HO335; clear HO339; clear HB; have HO331 := n0_; have HO335 := n1_; have HO339 := n2_; have HB := n3_; clear n0_ n1_ n2_ n3_; (try clear hb); (try clear hb2); (try clear hk); (try clear hi)))
    (try simp only [Act.put, List.setIfInBounds_toArray, List.set_cons_zero, List.set_cons_succ])
    go_cut [100] (fun v100 wc => ∃ (kq : Nat) (x100_10 : Bool), v100 = .bool x100_10 ∧ Aside0 (laws_FnExplained.j0 kq t328 t329 t332 t333 t340 t345 x100_10 = some r) ∧ Aside0 (kq ≤ k) ∧ Aside0 (Kd.R (Kd.int .i64) 2 wc w.heap.size (fun k_ => some k_ ≠ (v334 : Value).ownBlock) (.slice Ao13 t329.length co13) t329) ∧ Aside0 (Kd.R (Kd.int .i64) 2 wc w.heap.size (fun k_ => some k_ ≠ ((.slice Ao13 t329.length co13) : Value).ownBlock) v334 t332) ∧ Aside0 (Below w.heap.size w wc))
    case first =>
      have H := HC11.out
      clear HC11
      by_cases c20 : t333 = t337
      · rw [if_pos c20] at H
        have c20b0 : (t333 == t337) = true := beq_iff_eq.mpr c20
        have c20b1 : (t333 != t337) = false := bne_eq_false_iff_eq.mpr c20
        clear c20
        (first | rw [c20b0] | (simp only [i64_w, i32_w]; rw [c20b0]) | skip)
        replace H := Option.bind_eq_some_iff.mp H
        obtain ⟨t348, A210, H⟩ := H
        replace H : (if t348 = true then (if t341 = t343 then (if t340 = t342 then (if t345 = t347 then (if t344 = t346 then (laws_FnExplained.j0 k t328 t329 t332 t333 t340 t345 (t341 != t333)) else (laws_FnExplained.j0 k t328 t329 t332 t333 t340 t345 true)) else (laws_FnExplained.j0 k t328 t329 t332 t333 t340 t345 true)) else (laws_FnExplained.j0 k t328 t329 t332 t333 t340 t345 true)) else (laws_FnExplained.j0 k t328 t329 t332 t333 t340 t345 true)) else (laws_FnExplained.j0 k t328 t329 t332 t333 t340 t345 true)) = some r := H
        have A21 := Aside0.mk A210
        clear A210
        by_cases c22 : t348 = true
        · subst c22
          have H1 : (if t341 = t343 then (if t340 = t342 then (if t345 = t347 then (if t344 = t346 then (laws_FnExplained.j0 k t328 t329 t332 t333 t340 t345 (t341 != t333)) else (laws_FnExplained.j0 k t328 t329 t332 t333 t340 t345 true)) else (laws_FnExplained.j0 k t328 t329 t332 t333 t340 t345 true)) else (laws_FnExplained.j0 k t328 t329 t332 t333 t340 t345 true)) else (laws_FnExplained.j0 k t328 t329 t332 t333 t340 t345 true)) = some r := by rw [if_pos rfl] at H; exact H
          clear H
          have H := H1
          clear H1
          by_cases c23 : t341 = t343
          · rw [if_pos c23] at H
            have c23b0 : (t341 == t343) = true := beq_iff_eq.mpr c23
            have c23b1 : (t341 != t343) = false := bne_eq_false_iff_eq.mpr c23
            clear c23
            by_cases c24 : t340 = t342
            · rw [if_pos c24] at H
              have c24b0 : (t340 == t342) = true := beq_iff_eq.mpr c24
              have c24b1 : (t340 != t342) = false := bne_eq_false_iff_eq.mpr c24
              clear c24
              by_cases c25 : t345 = t347
              · rw [if_pos c25] at H
                have c25b0 : (t345 == t347) = true := beq_iff_eq.mpr c25
                have c25b1 : (t345 != t347) = false := bne_eq_false_iff_eq.mpr c25
                clear c25
                by_cases c26 : t344 = t346
                · rw [if_pos c26] at H
                  have c26b0 : (t344 == t346) = true := beq_iff_eq.mpr c26
                  have c26b1 : (t344 != t346) = false := bne_eq_false_iff_eq.mpr c26
                  clear c26
                  have H' := Aside0.mk H
                  clear H
                  obtain ⟨Ao27, co27, eo27⟩ := Kd.R_slice HO335.out
                  subst eo27
                  obtain ⟨Ao28, co28, eo28⟩ := Kd.R_slice HO339.out
                  subst eo28
                  go_wp2_with (first | (go_at_call 43; (with_reducible refine (laws_likeInts.calls k _ _ t332 _ _ t336 true _ ?side1 ?side2 ?side3 ?side4 A21.out).mono ?_); (case side1 => repeat (first | exact (Kd.R_reads' HO335.out).2.2 | (with_reducible refine Kd.C_alloc ?_ _) | (with_reducible refine Kd.C_drewN ?_ _) | (with_reducible refine Kd.C_drew ?_))); (case side2 => exact (Kd.R_reads' HO335.out).2.1); (case side3 => repeat (first | exact (Kd.R_reads' HO339.out).2.2 | (with_reducible refine Kd.C_alloc ?_ _) | (with_reducible refine Kd.C_drewN ?_ _) | (with_reducible refine Kd.C_drew ?_))); (case side4 => exact (Kd.R_reads' HO339.out).2.1); rintro e w' ⟨rfl, ⟨nd, rfl⟩⟩))
                  go_meet
                  case rel => exact ⟨_, ((t341 != t333)), (by first | rfl | (simp; done) | (simp [*]; done)), H', ⟨by first | omega | exact Nat.le_refl _⟩, ⟨by (with_reducible repeat (first | apply Kd.R_alloc | apply Kd.R_drewN | apply Kd.R_drew)); exact Kd.R_mono HO331.out (fun _ hk => hk.1.2)⟩, ⟨by (with_reducible repeat (first | apply Kd.R_alloc | apply Kd.R_drewN | apply Kd.R_drew)); exact Kd.R_mono HO335.out (fun _ hk => hk.1.2)⟩, ⟨by repeat (first | (with_reducible first | exact HB.out | apply below_alloc | apply pw_below_drewN | apply below_drew1) | exact HB.out)⟩⟩
                · rw [if_neg c26] at H
                  have c26b0 : (t344 == t346) = false := beq_eq_false_iff_ne.mpr c26
                  have c26b1 : (t344 != t346) = true := bne_iff_ne.mpr c26
                  have H' := Aside0.mk H
                  clear H
                  obtain ⟨Ao29, co29, eo29⟩ := Kd.R_slice HO335.out
                  subst eo29
                  obtain ⟨Ao30, co30, eo30⟩ := Kd.R_slice HO339.out
                  subst eo30
                  go_wp2_with (first | (go_at_call 43; (with_reducible refine (laws_likeInts.calls k _ _ t332 _ _ t336 true _ ?side1 ?side2 ?side3 ?side4 A21.out).mono ?_); (case side1 => repeat (first | exact (Kd.R_reads' HO335.out).2.2 | (with_reducible refine Kd.C_alloc ?_ _) | (with_reducible refine Kd.C_drewN ?_ _) | (with_reducible refine Kd.C_drew ?_))); (case side2 => exact (Kd.R_reads' HO335.out).2.1); (case side3 => repeat (first | exact (Kd.R_reads' HO339.out).2.2 | (with_reducible refine Kd.C_alloc ?_ _) | (with_reducible refine Kd.C_drewN ?_ _) | (with_reducible refine Kd.C_drew ?_))); (case side4 => exact (Kd.R_reads' HO339.out).2.1); rintro e w' ⟨rfl, ⟨nd, rfl⟩⟩))
                  go_meet
                  case rel => exact ⟨_, (true), (by first | rfl | (simp; done) | (simp [*]; done)), H', ⟨by first | omega | exact Nat.le_refl _⟩, ⟨by (with_reducible repeat (first | apply Kd.R_alloc | apply Kd.R_drewN | apply Kd.R_drew)); exact Kd.R_mono HO331.out (fun _ hk => hk.1.2)⟩, ⟨by (with_reducible repeat (first | apply Kd.R_alloc | apply Kd.R_drewN | apply Kd.R_drew)); exact Kd.R_mono HO335.out (fun _ hk => hk.1.2)⟩, ⟨by repeat (first | (with_reducible first | exact HB.out | apply below_alloc | apply pw_below_drewN | apply below_drew1) | exact HB.out)⟩⟩
              · rw [if_neg c25] at H
                have c25b0 : (t345 == t347) = false := beq_eq_false_iff_ne.mpr c25
                have c25b1 : (t345 != t347) = true := bne_iff_ne.mpr c25
                have H' := Aside0.mk H
                clear H
                obtain ⟨Ao31, co31, eo31⟩ := Kd.R_slice HO335.out
                subst eo31
                obtain ⟨Ao32, co32, eo32⟩ := Kd.R_slice HO339.out
                subst eo32
                go_wp2_with (first | (go_at_call 43; (with_reducible refine (laws_likeInts.calls k _ _ t332 _ _ t336 true _ ?side1 ?side2 ?side3 ?side4 A21.out).mono ?_); (case side1 => repeat (first | exact (Kd.R_reads' HO335.out).2.2 | (with_reducible refine Kd.C_alloc ?_ _) | (with_reducible refine Kd.C_drewN ?_ _) | (with_reducible refine Kd.C_drew ?_))); (case side2 => exact (Kd.R_reads' HO335.out).2.1); (case side3 => repeat (first | exact (Kd.R_reads' HO339.out).2.2 | (with_reducible refine Kd.C_alloc ?_ _) | (with_reducible refine Kd.C_drewN ?_ _) | (with_reducible refine Kd.C_drew ?_))); (case side4 => exact (Kd.R_reads' HO339.out).2.1); rintro e w' ⟨rfl, ⟨nd, rfl⟩⟩))
                go_meet
                case rel => exact ⟨_, (true), (by first | rfl | (simp; done) | (simp [*]; done)), H', ⟨by first | omega | exact Nat.le_refl _⟩, ⟨by (with_reducible repeat (first | apply Kd.R_alloc | apply Kd.R_drewN | apply Kd.R_drew)); exact Kd.R_mono HO331.out (fun _ hk => hk.1.2)⟩, ⟨by (with_reducible repeat (first | apply Kd.R_alloc | apply Kd.R_drewN | apply Kd.R_drew)); exact Kd.R_mono HO335.out (fun _ hk => hk.1.2)⟩, ⟨by repeat (first | (with_reducible first | exact HB.out | apply below_alloc | apply pw_below_drewN | apply below_drew1) | exact HB.out)⟩⟩
            · rw [if_neg c24] at H
              have c24b0 : (t340 == t342) = false := beq_eq_false_iff_ne.mpr c24
              have c24b1 : (t340 != t342) = true := bne_iff_ne.mpr c24
              have H' := Aside0.mk H
              clear H
              obtain ⟨Ao33, co33, eo33⟩ := Kd.R_slice HO335.out
              subst eo33
              obtain ⟨Ao34, co34, eo34⟩ := Kd.R_slice HO339.out
              subst eo34
              go_wp2_with (first | (go_at_call 43; (with_reducible refine (laws_likeInts.calls k _ _ t332 _ _ t336 true _ ?side1 ?side2 ?side3 ?side4 A21.out).mono ?_); (case side1 => repeat (first | exact (Kd.R_reads' HO335.out).2.2 | (with_reducible refine Kd.C_alloc ?_ _) | (with_reducible refine Kd.C_drewN ?_ _) | (with_reducible refine Kd.C_drew ?_))); (case side2 => exact (Kd.R_reads' HO335.out).2.1); (case side3 => repeat (first | exact (Kd.R_reads' HO339.out).2.2 | (with_reducible refine Kd.C_alloc ?_ _) | (with_reducible refine Kd.C_drewN ?_ _) | (with_reducible refine Kd.C_drew ?_))); (case side4 => exact (Kd.R_reads' HO339.out).2.1); rintro e w' ⟨rfl, ⟨nd, rfl⟩⟩))
              go_meet
              case rel => exact ⟨_, (true), (by first | rfl | (simp; done) | (simp [*]; done)), H', ⟨by first | omega | exact Nat.le_refl _⟩, ⟨by (with_reducible repeat (first | apply Kd.R_alloc | apply Kd.R_drewN | apply Kd.R_drew)); exact Kd.R_mono HO331.out (fun _ hk => hk.1.2)⟩, ⟨by (with_reducible repeat (first | apply Kd.R_alloc | apply Kd.R_drewN | apply Kd.R_drew)); exact Kd.R_mono HO335.out (fun _ hk => hk.1.2)⟩, ⟨by repeat (first | (with_reducible first | exact HB.out | apply below_alloc | apply pw_below_drewN | apply below_drew1) | exact HB.out)⟩⟩
          · rw [if_neg c23] at H
            have c23b0 : (t341 == t343) = false := beq_eq_false_iff_ne.mpr c23
            have c23b1 : (t341 != t343) = true := bne_iff_ne.mpr c23
            have H' := Aside0.mk H
            clear H
            obtain ⟨Ao35, co35, eo35⟩ := Kd.R_slice HO335.out
            subst eo35
            obtain ⟨Ao36, co36, eo36⟩ := Kd.R_slice HO339.out
            subst eo36
            go_wp2_with (first | (go_at_call 43; (with_reducible refine (laws_likeInts.calls k _ _ t332 _ _ t336 true _ ?side1 ?side2 ?side3 ?side4 A21.out).mono ?_); (case side1 => repeat (first | exact (Kd.R_reads' HO335.out).2.2 | (with_reducible refine Kd.C_alloc ?_ _) | (with_reducible refine Kd.C_drewN ?_ _) | (with_reducible refine Kd.C_drew ?_))); (case side2 => exact (Kd.R_reads' HO335.out).2.1); (case side3 => repeat (first | exact (Kd.R_reads' HO339.out).2.2 | (with_reducible refine Kd.C_alloc ?_ _) | (with_reducible refine Kd.C_drewN ?_ _) | (with_reducible refine Kd.C_drew ?_))); (case side4 => exact (Kd.R_reads' HO339.out).2.1); rintro e w' ⟨rfl, ⟨nd, rfl⟩⟩))
            go_meet
            case rel => exact ⟨_, (true), (by first | rfl | (simp; done) | (simp [*]; done)), H', ⟨by first | omega | exact Nat.le_refl _⟩, ⟨by (with_reducible repeat (first | apply Kd.R_alloc | apply Kd.R_drewN | apply Kd.R_drew)); exact Kd.R_mono HO331.out (fun _ hk => hk.1.2)⟩, ⟨by (with_reducible repeat (first | apply Kd.R_alloc | apply Kd.R_drewN | apply Kd.R_drew)); exact Kd.R_mono HO335.out (fun _ hk => hk.1.2)⟩, ⟨by repeat (first | (with_reducible first | exact HB.out | apply below_alloc | apply pw_below_drewN | apply below_drew1) | exact HB.out)⟩⟩
        · replace c22 := Bool.eq_false_iff.mpr c22
          subst c22
          have H1 : (laws_FnExplained.j0 k t328 t329 t332 t333 t340 t345 true) = some r := by rw [if_neg (show ¬ (false = true) by decide)] at H; exact H
          clear H
          have H := H1
          clear H1
          have H' := Aside0.mk H
          clear H
          obtain ⟨Ao37, co37, eo37⟩ := Kd.R_slice HO335.out
          subst eo37
          obtain ⟨Ao38, co38, eo38⟩ := Kd.R_slice HO339.out
          subst eo38
          go_wp2_with (first | (go_at_call 43; (with_reducible refine (laws_likeInts.calls k _ _ t332 _ _ t336 false _ ?side1 ?side2 ?side3 ?side4 A21.out).mono ?_); (case side1 => repeat (first | exact (Kd.R_reads' HO335.out).2.2 | (with_reducible refine Kd.C_alloc ?_ _) | (with_reducible refine Kd.C_drewN ?_ _) | (with_reducible refine Kd.C_drew ?_))); (case side2 => exact (Kd.R_reads' HO335.out).2.1); (case side3 => repeat (first | exact (Kd.R_reads' HO339.out).2.2 | (with_reducible refine Kd.C_alloc ?_ _) | (with_reducible refine Kd.C_drewN ?_ _) | (with_reducible refine Kd.C_drew ?_))); (case side4 => exact (Kd.R_reads' HO339.out).2.1); rintro e w' ⟨rfl, ⟨nd, rfl⟩⟩))
          go_meet
          case rel => exact ⟨_, (true), (by first | rfl | (simp; done) | (simp [*]; done)), H', ⟨by first | omega | exact Nat.le_refl _⟩, ⟨by (with_reducible repeat (first | apply Kd.R_alloc | apply Kd.R_drewN | apply Kd.R_drew)); exact Kd.R_mono HO331.out (fun _ hk => hk.1.2)⟩, ⟨by (with_reducible repeat (first | apply Kd.R_alloc | apply Kd.R_drewN | apply Kd.R_drew)); exact Kd.R_mono HO335.out (fun _ hk => hk.1.2)⟩, ⟨by repeat (first | (with_reducible first | exact HB.out | apply below_alloc | apply pw_below_drewN | apply below_drew1) | exact HB.out)⟩⟩
      · rw [if_neg c20] at H
        have c20b0 : (t333 == t337) = false := beq_eq_false_iff_ne.mpr c20
        have c20b1 : (t333 != t337) = true := bne_iff_ne.mpr c20
        (first | rw [c20b0] | (simp only [i64_w, i32_w]; rw [c20b0]) | skip)
        have H' := Aside0.mk H
        clear H
        go_wp2
        go_meet
        case rel => exact ⟨_, (true), (by first | rfl | (simp; done) | (simp [*]; done)), H', ⟨by first | omega | exact Nat.le_refl _⟩, ⟨by (with_reducible repeat (first | apply Kd.R_alloc | apply Kd.R_drewN | apply Kd.R_drew)); exact Kd.R_mono HO331.out (fun _ hk => hk.1.2)⟩, ⟨by (with_reducible repeat (first | apply Kd.R_alloc | apply Kd.R_drewN | apply Kd.R_drew)); exact Kd.R_mono HO335.out (fun _ hk => hk.1.2)⟩, ⟨by repeat (first | (with_reducible first | exact HB.out | apply below_alloc | apply pw_below_drewN | apply below_drew1) | exact HB.out)⟩⟩
    case rest =>
      clear HC11
      try clear c1
      try clear c2
      try clear p2
      try clear c3
      try clear c4
      try clear c12
      try clear c20
      try clear c20b0
      try clear c20b1
      try clear c22
      try clear c23
      try clear c23b0
      try clear c23b1
      try clear c24
      try clear c24b0
      try clear c24b1
      try clear c25
      try clear c25b0
      try clear c25b1
      try clear c26
      try clear c26b0
      try clear c26b1
      try clear c28
      try clear c29
      try clear c30
      try clear c31
      obtain ⟨kq, x100_10, rfl, HA, HJ10, HO_4, HO_5, HB⟩ := hcut
      cases kq with
      | zero => exact absurd HA.out (by simp [laws_FnExplained.j0])
      | succ kj10 =>
        have H := HA.out
        clear HA
        simp only [laws_FnExplained.j0] at H
        by_cases c39 : x100_10 = true
        · subst c39
          have H1 : (some false) = some r := by rw [if_pos rfl] at H; exact H
          clear H
          have H := H1
          clear H1
          exact absurd ((Option.some.inj H).trans hr_.out) (by decide)
        · replace c39 := Bool.eq_false_iff.mpr c39
          subst c39
          have H1 : (if t333 = 0 then (laws_FnExplained.l0 kj10 t328 t329 t332 t340 t345 (([] : List (S55))) 0 0 0) else (some true)) = some r := by rw [if_neg (show ¬ (false = true) by decide)] at H; exact H
          clear H
          have H := H1
          clear H1
          by_cases c40 : t333 = 0
          · rw [if_pos c40] at H
            have c40b0 : (t333 == 0) = true := beq_iff_eq.mpr c40
            have c40b1 : (t333 != 0) = false := bne_eq_false_iff_eq.mpr c40
            clear c40
            obtain ⟨y349, hy349⟩ : ∃ y_ : List (S55), y_ = (([] : List (S55))) := ⟨_, rfl⟩
            replace H : (laws_FnExplained.l0 kj10 t328 t329 t332 t340 t345 y349 0 0 0) = some r := by first | (rw [hy349]; with_reducible exact H) | (have H2_ := (Option.bind_some _ _).symm.trans H; rw [hy349]; with_reducible exact H2_) | (have H2_ := (Option.bind_some _ _).symm.trans H; with_reducible exact H2_) | with_reducible exact H | (rw [hy349]; exact H) | exact H
            have Ny349 := Aside0.mk hy349
            clear hy349
            have H' := Aside0.mk H
            clear H
            go_wp2_with (first | ((with_reducible refine gate_dst (N := 103) rfl ?_); (try (refine gate_guard (by rfl) ?_; dsimp only)); refine Kd.R_lit k55 _ 55 ?hg (N := 103) ?hd (xs := ([] : List (S55))) (inner := []) (ok := fun _ => True) (okp := fun _ => True) ?hr ?hp (fun _ hk => hk) trivial (Below.refl _ _) (Nat.le_refl _) (by simp) ?_; (case hd => rfl); (case hg => rfl); (case hr => first | (go_simp; done) | (go_simp; rfl)); (case hp => exact (Reps.none _ _)); intro v350 w41 ho42 hb hg_ hnew_; clear hg_ hnew_; (first | rw [← Ny349.out] at ho42 | (simp only [Int.reduceToNat] at ho42; rw [← Ny349.out] at ho42)); have n0_ := Aside0.mk (Kd.R_below (by (with_reducible repeat (first | apply Kd.R_alloc | apply Kd.R_drewN | apply Kd.R_drew)); exact HO_4.out) hb); have n1_ := Aside0.mk (Kd.R_below (by (with_reducible repeat (first | apply Kd.R_alloc | apply Kd.R_drewN | apply Kd.R_drew)); exact HO_5.out) hb); have n2_ := Aside0.mk (Kd.R_lower ho42 (below_size (by repeat (first | (with_reducible first | exact HB.out | apply below_alloc | apply pw_below_drewN | apply below_drew1) | exact HB.out)))); have n3_ := Aside0.mk (below_step (by repeat (first | (with_reducible first | exact HB.out | apply below_alloc | apply pw_below_drewN | apply below_drew1) | exact HB.out)) hb); clear HO_4; clear HO_5; clear HB; have HO_4 := n0_; have HO_5 := n1_; have HO351 := n2_; have HB := n3_; clear n0_ n1_ n2_ n3_; clear hb ho42))
            go_loopg [17, 18, 19, 20] kj10 (fun kq v17 v18 v19 v20 w' => ∃ (x17_2 : List (S55)) (x18_2 : Int) (x19_2 : Int) (x20_2 : Int), v18 = .int .i64 x18_2 ∧ v19 = .int .i64 x19_2 ∧ v20 = .int .i64 x20_2 ∧ Aside0 (laws_FnExplained.l0 kq t328 t329 t332 t340 t345 x17_2 x18_2 x19_2 x20_2 = some r) ∧ Aside0 (kq ≤ kj10) ∧ Aside0 (Kd.R (Kd.int .i64) 2 w' w.heap.size (fun k_ => some k_ ≠ (v334 : Value).ownBlock) (.slice Ao13 t329.length co13) t329) ∧ Aside0 (Kd.R (Kd.int .i64) 2 w' w.heap.size (fun k_ => some k_ ≠ ((.slice Ao13 t329.length co13) : Value).ownBlock) v334 t332) ∧ Aside0 (Kd.R k55 55 w' w.heap.size (fun _ => True) v17 x17_2) ∧ Aside0 (Below w.heap.size w w'))
            case atStart => exact ⟨(y349), (0), (0), (0), (by first | rfl | (simp; done) | (simp [*]; done)), (by first | rfl | (simp; done) | (simp [*]; done)), (by first | rfl | (simp; done) | (simp [*]; done)), H', ⟨Nat.le_refl _⟩, ⟨by (with_reducible repeat (first | apply Kd.R_alloc | apply Kd.R_drewN | apply Kd.R_drew)); exact HO_4.out⟩, ⟨by (with_reducible repeat (first | apply Kd.R_alloc | apply Kd.R_drewN | apply Kd.R_drew)); exact HO_5.out⟩, ⟨by (with_reducible repeat (first | apply Kd.R_alloc | apply Kd.R_drewN | apply Kd.R_drew)); exact HO351.out⟩, ⟨by repeat (first | (with_reducible first | exact HB.out | apply below_alloc | apply pw_below_drewN | apply below_drew1) | exact HB.out)⟩⟩
            case round =>
              clear H'
              try clear c1
              try clear c2
              try clear p2
              try clear c3
              try clear c4
              try clear c12
              try clear c20
              try clear c20b0
              try clear c20b1
              try clear c22
              try clear c23
              try clear c23b0
              try clear c23b1
              try clear c24
              try clear c24b0
              try clear c24b1
              try clear c25
              try clear c25b0
              try clear c25b1
              try clear c26
              try clear c26b0
              try clear c26b1
              try clear c28
              try clear c29
              try clear c30
              try clear c31
              try clear c39
              try clear c40
              try clear c40b0
              try clear c40b1
              try clear p2
              obtain ⟨x17_2, x18_2, x19_2, x20_2, rfl, rfl, rfl, HA, HK2, HO_4, HO_5, HO_17, HB⟩ := hrel
              cases gk with
              | zero => exact absurd HA.out (by simp [laws_FnExplained.l0])
              | succ k2 =>
                have H := HA.out
                clear HA
                simp only [laws_FnExplained.l0] at H
                by_cases c43 : x20_2 < t328
                · rw [if_pos c43] at H
                  have c43b0 : decide (x20_2 < t328) = true := decide_eq_true c43
                  clear c43
                  by_cases c44 : 0 ≤ x20_2
                  · rw [if_pos c44] at H
                    have c44b0 : decide (0 ≤ x20_2) = true := decide_eq_true c44
                    clear c44
                    by_cases c45 : x20_2 < (t332.length : Int)
                    · rw [if_pos c45] at H
                      have c45b0 : decide (x20_2 < (t332.length : Int)) = true := decide_eq_true c45
                      clear c45
                      have HC46 := Aside0.mk H
                      clear H
                      obtain ⟨Ao47, co47, eo47⟩ := Kd.R_slice HO_5.out
                      subst eo47
                      have p358 : 0 ≤ (x20_2 : Int) := of_decide_eq_true (by first | (with_reducible assumption) | assumption)
                      have q358 : x20_2 < (t332.length : Int) := of_decide_eq_true (by first | (with_reducible assumption) | assumption)
                      obtain ⟨ad358, e358, hx358_0⟩ := Kd.at_int (Kd.R_reads' HO_5.out).2.2 x20_2 p358 q358
                      cases e358
                      replace p358 := eq_true p358
                      replace q358 := eq_true q358
                      go_upto_if 119 with (first | ((with_reducible refine gate_dst (N := 21) rfl ?_); (try (refine gate_guard (by rfl) ?_; dsimp only)); refine box_event ?hg (N := 21) ?hd (cs := #[.int .i64 0, .int .i64 0, .int .i64 0, .int .i64 0]) (t := 55) ?hr ?_; (case hd => rfl); (case hg => rfl); (case hr => first | (go_simp; done) | (go_simp; rfl)); intro gb359 hg w48 hbox hb; have n0_ := Aside0.mk (Kd.R_below (by (with_reducible repeat (first | apply Kd.R_alloc | apply Kd.R_drewN | apply Kd.R_drew)); exact HO_4.out) hb); have n1_ := Aside0.mk (Kd.R_below (by (with_reducible repeat (first | apply Kd.R_alloc | apply Kd.R_drewN | apply Kd.R_drew)); exact HO_5.out) hb); have n2_ := Aside0.mk (Kd.R_below (Kd.R_elderB (by (with_reducible repeat (first | apply Kd.R_alloc | apply Kd.R_drewN | apply Kd.R_drew)); exact HO_17.out) gb359 (Nat.le_of_eq hg.symm)) hb); have n3_ := Aside0.mk (below_step (by repeat (first | (with_reducible first | exact HB.out | apply below_alloc | apply pw_below_drewN | apply below_drew1) | exact HB.out)) hb); have n4_ := Aside0.mk (hbox); have n5_ := Aside0.mk ((by rw [hg]; exact (below_size (by repeat (first | (with_reducible first | exact HB.out | apply below_alloc | apply pw_below_drewN | apply below_drew1) | exact HB.out))) : w.heap.size ≤ gb359)); have n6_ := Aside0.mk ((by rw [hg]; exact (below_size (by repeat (first | (with_reducible first | exact HB.out | apply below_alloc | apply pw_below_drewN | apply below_drew1) | exact HB.out))) : w.heap.size ≤ gb359)); clear HO_4; clear HO_5; clear HO_17; clear HB; have HO_4 := n0_; have HO_5 := n1_; have HO_17 := n2_; have HB := n3_; have BK359 := n4_; have GW359 := n5_; have GE359 := n6_; clear n0_ n1_ n2_ n3_ n4_ n5_ n6_; clear hb hbox hg; have hcz49_0 : w48.cell? ⟨gb359, 0, none⟩ = some (.int .i64 0) := (blk_cell BK359.out 0).trans rfl; have hcz49_1 : w48.cell? ⟨gb359, 1, none⟩ = some (.int .i64 0) := (blk_cell BK359.out 1).trans rfl; have hcz49_2 : w48.cell? ⟨gb359, 2, none⟩ = some (.int .i64 0) := (blk_cell BK359.out 2).trans rfl; have hcz49_3 : w48.cell? ⟨gb359, 3, none⟩ = some (.int .i64 0) := (blk_cell BK359.out 3).trans rfl; have hfz49_0 := blk_frozen BK359.out 0; have hfz49_1 := blk_frozen BK359.out 1; have hfz49_2 := blk_frozen BK359.out 2; have hfz49_3 := blk_frozen BK359.out 3; have p360 : 0 ≤ (x20_2 : Int) := of_decide_eq_true (by first | (with_reducible assumption) | assumption); have q360 : x20_2 < (t332.length : Int) := of_decide_eq_true (by first | (with_reducible assumption) | assumption); obtain ⟨ad360, e360, hx360_0⟩ := Kd.at_int (Kd.R_reads' HO_5.out).2.2 x20_2 p360 q360; obtain rfl : ad358 = ad360 := (by injection e360); have hn360_0 : ad358.block ≠ gb359 := Kd.own_blk (Kd.R_ne HO_5.out BK359.out (by decide)); have hn360_1 : ad358.block ≠ gb359 := Kd.own_blk (Kd.R_ne HO_5.out BK359.out (by decide)); have hn360_2 : ad358.block ≠ gb359 := Kd.own_blk (Kd.R_ne HO_5.out BK359.out (by decide)); have hn360_3 : ad358.block ≠ gb359 := Kd.own_blk (Kd.R_ne HO_5.out BK359.out (by decide)); replace hx360_0 := (cell_far (p := ⟨gb359, 0, none⟩) (by first | (rw [add_block]; exact hn360_0) | (show (Addr.add _ _).block ≠ _; rw [add_block]; exact hn360_0) | exact hn360_0) (.int .i64 0)).trans hx360_0; replace hx360_0 := (cell_far (p := ⟨gb359, 1, none⟩) (by first | (rw [add_block]; exact hn360_1) | (show (Addr.add _ _).block ≠ _; rw [add_block]; exact hn360_1) | exact hn360_1) (.int .i64 x20_2)).trans hx360_0; replace hx360_0 := (cell_far (p := ⟨gb359, 2, none⟩) (by first | (rw [add_block]; exact hn360_2) | (show (Addr.add _ _).block ≠ _; rw [add_block]; exact hn360_2) | exact hn360_2) (.int .i64 (rd t332 x20_2))).trans hx360_0; replace hx360_0 := (cell_far (p := ⟨gb359, 3, none⟩) (by first | (rw [add_block]; exact hn360_3) | (show (Addr.add _ _).block ≠ _; rw [add_block]; exact hn360_3) | exact hn360_3) (.int .i64 0)).trans hx360_0; clear hn360_0; clear hn360_1; clear hn360_2; clear hn360_3; replace p360 := eq_true p360; replace q360 := eq_true q360))
                      (try simp only [Act.put, List.setIfInBounds_toArray, List.set_cons_zero, List.set_cons_succ])
                      go_cut [] (fun wc => ∃ (kq : Nat) (x360003_45 : Int), Aside0 (laws_FnExplained.j2 kq t328 t329 t332 t340 t345 x17_2 x18_2 x19_2 x20_2 0 x20_2 (rd t332 x20_2) x360003_45 = some r) ∧ Aside0 (kq ≤ k2) ∧ Aside0 (Kd.R (Kd.int .i64) 2 wc w.heap.size (fun k_ => some k_ ≠ ((.slice (some ad358) t332.length co47) : Value).ownBlock) (.slice Ao13 t329.length co13) t329) ∧ Aside0 (Kd.R (Kd.int .i64) 2 wc w.heap.size (fun k_ => some k_ ≠ ((.slice Ao13 t329.length co13) : Value).ownBlock) (.slice (some ad358) t332.length co47) t332) ∧ Aside0 (Kd.R k55 55 wc w.heap.size (fun k_ => k_ ≠ gb359) u17 x17_2) ∧ Aside0 (wc.heap[gb359]? = some (.cells #[.int .i64 0, .int .i64 x20_2, .int .i64 (rd t332 x20_2), .int .i64 x360003_45] 55 (0, 0))) ∧ Aside0 (Below w.heap.size w wc))
                      case first =>
                        have H := HC46.out
                        clear HC46
                        by_cases c50 : (rd t332 x20_2) = 4
                        · rw [if_pos c50] at H
                          have c50b0 : ((rd t332 x20_2) == 4) = true := beq_iff_eq.mpr c50
                          have c50b1 : ((rd t332 x20_2) != 4) = false := bne_eq_false_iff_eq.mpr c50
                          clear c50
                          (first | rw [c50b0] | (simp only [i64_w, i32_w]; rw [c50b0]) | skip)
                          by_cases c51 : 0 ≤ x18_2
                          · rw [if_pos c51] at H
                            have c51b0 : decide (0 ≤ x18_2) = true := decide_eq_true c51
                            clear c51
                            by_cases c52 : x18_2 < (t329.length : Int)
                            · rw [if_pos c52] at H
                              have c52b0 : decide (x18_2 < (t329.length : Int)) = true := decide_eq_true c52
                              clear c52
                              have H' := Aside0.mk H
                              clear H
                              have p361 : 0 ≤ (x18_2 : Int) := of_decide_eq_true (by first | (with_reducible assumption) | assumption)
                              have q361 : x18_2 < (t329.length : Int) := of_decide_eq_true (by first | (with_reducible assumption) | assumption)
                              obtain ⟨ad361, e361, hx361_0⟩ := Kd.at_int (Kd.R_reads' HO_4.out).2.2 x18_2 p361 q361
                              cases e361
                              have hn361_0 : ad361.block ≠ gb359 := Kd.own_blk (Kd.R_ne HO_4.out BK359.out (by decide))
                              have hn361_1 : ad361.block ≠ gb359 := Kd.own_blk (Kd.R_ne HO_4.out BK359.out (by decide))
                              have hn361_2 : ad361.block ≠ gb359 := Kd.own_blk (Kd.R_ne HO_4.out BK359.out (by decide))
                              have hn361_3 : ad361.block ≠ gb359 := Kd.own_blk (Kd.R_ne HO_4.out BK359.out (by decide))
                              replace hx361_0 := (cell_far (p := ⟨gb359, 0, none⟩) (by first | (rw [add_block]; exact hn361_0) | (show (Addr.add _ _).block ≠ _; rw [add_block]; exact hn361_0) | exact hn361_0) (.int .i64 0)).trans hx361_0
                              replace hx361_0 := (cell_far (p := ⟨gb359, 1, none⟩) (by first | (rw [add_block]; exact hn361_1) | (show (Addr.add _ _).block ≠ _; rw [add_block]; exact hn361_1) | exact hn361_1) (.int .i64 x20_2)).trans hx361_0
                              replace hx361_0 := (cell_far (p := ⟨gb359, 2, none⟩) (by first | (rw [add_block]; exact hn361_2) | (show (Addr.add _ _).block ≠ _; rw [add_block]; exact hn361_2) | exact hn361_2) (.int .i64 (rd t332 x20_2))).trans hx361_0
                              replace hx361_0 := (cell_far (p := ⟨gb359, 3, none⟩) (by first | (rw [add_block]; exact hn361_3) | (show (Addr.add _ _).block ≠ _; rw [add_block]; exact hn361_3) | exact hn361_3) (.int .i64 0)).trans hx361_0
                              clear hn361_0
                              clear hn361_1
                              clear hn361_2
                              clear hn361_3
                              replace p361 := eq_true p361
                              replace q361 := eq_true q361
                              have hcz53_0 : w48.cell? ⟨gb359, 0, none⟩ = some (.int .i64 0) := (blk_cell BK359.out 0).trans rfl
                              have hcz53_1 : w48.cell? ⟨gb359, 1, none⟩ = some (.int .i64 0) := (blk_cell BK359.out 1).trans rfl
                              have hcz53_2 : w48.cell? ⟨gb359, 2, none⟩ = some (.int .i64 0) := (blk_cell BK359.out 2).trans rfl
                              have hcz53_3 : w48.cell? ⟨gb359, 3, none⟩ = some (.int .i64 0) := (blk_cell BK359.out 3).trans rfl
                              have hfz53_0 := blk_frozen BK359.out 0
                              have hfz53_1 := blk_frozen BK359.out 1
                              have hfz53_2 := blk_frozen BK359.out 2
                              have hfz53_3 := blk_frozen BK359.out 3
                              go_wp2
                              go_meet
                              case rel => exact ⟨_, (wrap64 ((rd t329 x18_2) - 1)), H', ⟨by have := HJ10.out; have := HK2.out; first | omega | exact Nat.le_refl _⟩, ⟨by (with_reducible repeat (first | apply Kd.R_alloc | apply Kd.R_drewN | apply Kd.R_drew)); exact Kd.R_mono (Kd.R_far (p := ⟨gb359, 3, none⟩) (Kd.R_far (p := ⟨gb359, 3, none⟩) (Kd.R_far (p := ⟨gb359, 2, none⟩) (Kd.R_far (p := ⟨gb359, 1, none⟩) (Kd.R_far (p := ⟨gb359, 0, none⟩) (Kd.R_types HO_4.out BK359.out (by decide)) (fun _ hk => hk.2) (.int .i64 0)) (fun _ hk => hk.2) (.int .i64 x20_2)) (fun _ hk => hk.2) (.int .i64 (rd t332 x20_2))) (fun _ hk => hk.2) (.int .i64 0)) (fun _ hk => hk.2) (.int .i64 (wrap64 ((rd t329 x18_2) - 1)))) (fun _ hk => hk.1)⟩, ⟨by (with_reducible repeat (first | apply Kd.R_alloc | apply Kd.R_drewN | apply Kd.R_drew)); exact Kd.R_mono (Kd.R_far (p := ⟨gb359, 3, none⟩) (Kd.R_far (p := ⟨gb359, 3, none⟩) (Kd.R_far (p := ⟨gb359, 2, none⟩) (Kd.R_far (p := ⟨gb359, 1, none⟩) (Kd.R_far (p := ⟨gb359, 0, none⟩) (Kd.R_types HO_5.out BK359.out (by decide)) (fun _ hk => hk.2) (.int .i64 0)) (fun _ hk => hk.2) (.int .i64 x20_2)) (fun _ hk => hk.2) (.int .i64 (rd t332 x20_2))) (fun _ hk => hk.2) (.int .i64 0)) (fun _ hk => hk.2) (.int .i64 (wrap64 ((rd t329 x18_2) - 1)))) (fun _ hk => hk.1)⟩, ⟨by (with_reducible repeat (first | apply Kd.R_alloc | apply Kd.R_drewN | apply Kd.R_drew)); exact Kd.R_mono (Kd.R_far (p := ⟨gb359, 3, none⟩) (Kd.R_far (p := ⟨gb359, 3, none⟩) (Kd.R_far (p := ⟨gb359, 2, none⟩) (Kd.R_far (p := ⟨gb359, 1, none⟩) (Kd.R_far (p := ⟨gb359, 0, none⟩) (Kd.R_mono HO_17.out (fun k_ hk => (⟨hk, hk.2⟩ : _ ∧ k_ ≠ gb359))) (fun _ hk => hk.2) (.int .i64 0)) (fun _ hk => hk.2) (.int .i64 x20_2)) (fun _ hk => hk.2) (.int .i64 (rd t332 x20_2))) (fun _ hk => hk.2) (.int .i64 0)) (fun _ hk => hk.2) (.int .i64 (wrap64 ((rd t329 x18_2) - 1)))) (fun _ hk => hk.1.2)⟩, ⟨by (with_reducible repeat (first | refine blk_drewN ?_ _ | refine blk_drew ?_ | refine blk_alloc ?_ _)); refine blk_put (cs := #[.int .i64 0, .int .i64 x20_2, .int .i64 (rd t332 x20_2), .int .i64 0]) ?_ 3 _ rfl; (with_reducible repeat (first | refine blk_drewN ?_ _ | refine blk_drew ?_ | refine blk_alloc ?_ _)); refine blk_put (cs := #[.int .i64 0, .int .i64 x20_2, .int .i64 (rd t332 x20_2), .int .i64 0]) ?_ 3 _ rfl; (with_reducible repeat (first | refine blk_drewN ?_ _ | refine blk_drew ?_ | refine blk_alloc ?_ _)); refine blk_put (cs := #[.int .i64 0, .int .i64 x20_2, .int .i64 0, .int .i64 0]) ?_ 2 _ rfl; (with_reducible repeat (first | refine blk_drewN ?_ _ | refine blk_drew ?_ | refine blk_alloc ?_ _)); refine blk_put (cs := #[.int .i64 0, .int .i64 0, .int .i64 0, .int .i64 0]) ?_ 1 _ rfl; (with_reducible repeat (first | refine blk_drewN ?_ _ | refine blk_drew ?_ | refine blk_alloc ?_ _)); refine blk_put (cs := #[.int .i64 0, .int .i64 0, .int .i64 0, .int .i64 0]) ?_ 0 _ rfl; (with_reducible repeat (first | refine blk_drewN ?_ _ | refine blk_drew ?_ | refine blk_alloc ?_ _)); exact BK359.out⟩, ⟨by repeat (first | (with_reducible first | exact HB.out | apply below_alloc | apply pw_below_drewN | apply below_drew1 | refine below_set ?_ GE359.out) | exact HB.out)⟩⟩
                            · rw [if_neg c52] at H
                              exact absurd H (by simp)
                          · rw [if_neg c51] at H
                            exact absurd H (by simp)
                        · rw [if_neg c50] at H
                          have c50b0 : ((rd t332 x20_2) == 4) = false := beq_eq_false_iff_ne.mpr c50
                          have c50b1 : ((rd t332 x20_2) != 4) = true := bne_iff_ne.mpr c50
                          (first | rw [c50b0] | (simp only [i64_w, i32_w]; rw [c50b0]) | skip)
                          have H' := Aside0.mk H
                          clear H
                          go_wp2
                          go_meet
                          case rel => exact ⟨_, (0), H', ⟨by have := HJ10.out; have := HK2.out; first | omega | exact Nat.le_refl _⟩, ⟨by (with_reducible repeat (first | apply Kd.R_alloc | apply Kd.R_drewN | apply Kd.R_drew)); exact Kd.R_mono (Kd.R_far (p := ⟨gb359, 3, none⟩) (Kd.R_far (p := ⟨gb359, 2, none⟩) (Kd.R_far (p := ⟨gb359, 1, none⟩) (Kd.R_far (p := ⟨gb359, 0, none⟩) (Kd.R_types HO_4.out BK359.out (by decide)) (fun _ hk => hk.2) (.int .i64 0)) (fun _ hk => hk.2) (.int .i64 x20_2)) (fun _ hk => hk.2) (.int .i64 (rd t332 x20_2))) (fun _ hk => hk.2) (.int .i64 0)) (fun _ hk => hk.1)⟩, ⟨by (with_reducible repeat (first | apply Kd.R_alloc | apply Kd.R_drewN | apply Kd.R_drew)); exact Kd.R_mono (Kd.R_far (p := ⟨gb359, 3, none⟩) (Kd.R_far (p := ⟨gb359, 2, none⟩) (Kd.R_far (p := ⟨gb359, 1, none⟩) (Kd.R_far (p := ⟨gb359, 0, none⟩) (Kd.R_types HO_5.out BK359.out (by decide)) (fun _ hk => hk.2) (.int .i64 0)) (fun _ hk => hk.2) (.int .i64 x20_2)) (fun _ hk => hk.2) (.int .i64 (rd t332 x20_2))) (fun _ hk => hk.2) (.int .i64 0)) (fun _ hk => hk.1)⟩, ⟨by (with_reducible repeat (first | apply Kd.R_alloc | apply Kd.R_drewN | apply Kd.R_drew)); exact Kd.R_mono (Kd.R_far (p := ⟨gb359, 3, none⟩) (Kd.R_far (p := ⟨gb359, 2, none⟩) (Kd.R_far (p := ⟨gb359, 1, none⟩) (Kd.R_far (p := ⟨gb359, 0, none⟩) (Kd.R_mono HO_17.out (fun k_ hk => (⟨hk, hk.2⟩ : _ ∧ k_ ≠ gb359))) (fun _ hk => hk.2) (.int .i64 0)) (fun _ hk => hk.2) (.int .i64 x20_2)) (fun _ hk => hk.2) (.int .i64 (rd t332 x20_2))) (fun _ hk => hk.2) (.int .i64 0)) (fun _ hk => hk.1.2)⟩, ⟨by (with_reducible repeat (first | refine blk_drewN ?_ _ | refine blk_drew ?_ | refine blk_alloc ?_ _)); refine blk_put (cs := #[.int .i64 0, .int .i64 x20_2, .int .i64 (rd t332 x20_2), .int .i64 0]) ?_ 3 _ rfl; (with_reducible repeat (first | refine blk_drewN ?_ _ | refine blk_drew ?_ | refine blk_alloc ?_ _)); refine blk_put (cs := #[.int .i64 0, .int .i64 x20_2, .int .i64 0, .int .i64 0]) ?_ 2 _ rfl; (with_reducible repeat (first | refine blk_drewN ?_ _ | refine blk_drew ?_ | refine blk_alloc ?_ _)); refine blk_put (cs := #[.int .i64 0, .int .i64 0, .int .i64 0, .int .i64 0]) ?_ 1 _ rfl; (with_reducible repeat (first | refine blk_drewN ?_ _ | refine blk_drew ?_ | refine blk_alloc ?_ _)); refine blk_put (cs := #[.int .i64 0, .int .i64 0, .int .i64 0, .int .i64 0]) ?_ 0 _ rfl; (with_reducible repeat (first | refine blk_drewN ?_ _ | refine blk_drew ?_ | refine blk_alloc ?_ _)); exact BK359.out⟩, ⟨by repeat (first | (with_reducible first | exact HB.out | apply below_alloc | apply pw_below_drewN | apply below_drew1 | refine below_set ?_ GE359.out) | exact HB.out)⟩⟩
                      case rest =>
                        clear HC46
                        try clear c1
                        try clear c2
                        try clear p2
                        try clear c3
                        try clear p3
                        try clear q3
                        try clear hx3
                        try clear c4
                        try clear c5
                        try clear p6
                        try clear c12
                        try clear c20
                        try clear c20b0
                        try clear c20b1
                        try clear c22
                        try clear c23
                        try clear c23b0
                        try clear c23b1
                        try clear c24
                        try clear c24b0
                        try clear c24b1
                        try clear c25
                        try clear c25b0
                        try clear c25b1
                        try clear c26
                        try clear c26b0
                        try clear c26b1
                        try clear c28
                        try clear c29
                        try clear c30
                        try clear c31
                        try clear p35
                        try clear q35
                        try clear hx35
                        try clear p36
                        try clear q36
                        try clear hx36
                        try clear c39
                        try clear c40
                        try clear c40b0
                        try clear c40b1
                        try clear c43
                        try clear c43b0
                        try clear c44
                        try clear c44b0
                        try clear c45
                        try clear c45b0
                        try clear c50
                        try clear c50b0
                        try clear c50b1
                        try clear c51
                        try clear c51b0
                        try clear c52
                        try clear c52b0
                        try clear hcz49_0
                        try clear hcz49_1
                        try clear hcz49_2
                        try clear hcz49_3
                        try clear hcz53_0
                        try clear hcz53_1
                        try clear hcz53_2
                        try clear hcz53_3
                        try clear hfz49_0
                        try clear hfz49_1
                        try clear hfz49_2
                        try clear hfz49_3
                        try clear hfz53_0
                        try clear hfz53_1
                        try clear hfz53_2
                        try clear hfz53_3
                        try clear hx358_0
                        try clear hx360_0
                        try clear hx361_0
                        try clear p2
                        try clear p358
                        try clear p360
                        try clear p361
                        try clear q358
                        try clear q360
                        try clear q361
                        obtain ⟨kq, x360003_45, HA, HJ45, HO_4, HO_5, HO_17, BK359, HB⟩ := hcut
                        cases kq with
                        | zero => exact absurd HA.out (by simp [laws_FnExplained.j2])
                        | succ kj45 =>
                          have H := HA.out
                          clear HA
                          simp only [laws_FnExplained.j2] at H
                          by_cases c54 : 0 ≤ x20_2
                          · rw [if_pos c54] at H
                            have c54b0 : decide (0 ≤ x20_2) = true := decide_eq_true c54
                            clear c54
                            by_cases c55 : x20_2 < (t332.length : Int)
                            · rw [if_pos c55] at H
                              have c55b0 : decide (x20_2 < (t332.length : Int)) = true := decide_eq_true c55
                              clear c55
                              by_cases c56 : (rd t332 x20_2) = 2
                              · rw [if_pos c56] at H
                                have c56b0 : ((rd t332 x20_2) == 2) = true := beq_iff_eq.mpr c56
                                have c56b1 : ((rd t332 x20_2) != 2) = false := bne_eq_false_iff_eq.mpr c56
                                clear c56
                                by_cases c57 : (rd t332 x20_2) = 0
                                · rw [if_pos c57] at H
                                  have c57b0 : ((rd t332 x20_2) == 0) = true := beq_iff_eq.mpr c57
                                  have c57b1 : ((rd t332 x20_2) != 0) = false := bne_eq_false_iff_eq.mpr c57
                                  clear c57
                                  have H' := Aside0.mk H
                                  clear H
                                  have p362 : 0 ≤ (x20_2 : Int) := of_decide_eq_true (by first | (with_reducible assumption) | assumption)
                                  have q362 : x20_2 < (t332.length : Int) := of_decide_eq_true (by first | (with_reducible assumption) | assumption)
                                  obtain ⟨ad362, e362, hx362_0⟩ := Kd.at_int (Kd.R_reads' HO_5.out).2.2 x20_2 p362 q362
                                  obtain rfl : ad358 = ad362 := (by injection e362)
                                  replace p362 := eq_true p362
                                  replace q362 := eq_true q362
                                  have p363 : 0 ≤ (x20_2 : Int) := of_decide_eq_true (by first | (with_reducible assumption) | assumption)
                                  have q363 : x20_2 < (t332.length : Int) := of_decide_eq_true (by first | (with_reducible assumption) | assumption)
                                  obtain ⟨ad363, e363, hx363_0⟩ := Kd.at_int (Kd.R_reads' HO_5.out).2.2 x20_2 p363 q363
                                  obtain rfl : ad358 = ad363 := (by injection e363)
                                  replace p363 := eq_true p363
                                  replace q363 := eq_true q363
                                  go_wp2
                                  go_roundg kj45
                                  case measure => have := HJ10.out; have := HK2.out; have := HJ45.out; omega
                                  case rel => exact ⟨(x17_2), (wrap64 (x18_2 + 2)), (x19_2), (wrap64 (x20_2 + 1)), (by first | rfl | (simp; done) | (simp [*]; done)), (by first | rfl | (simp; done) | (simp [*]; done)), (by first | rfl | (simp; done) | (simp [*]; done)), H', ⟨by have := HJ10.out; have := HK2.out; have := HJ45.out; omega⟩, ⟨by (with_reducible repeat (first | apply Kd.R_alloc | apply Kd.R_drewN | apply Kd.R_drew)); exact HO_4.out⟩, ⟨by (with_reducible repeat (first | apply Kd.R_alloc | apply Kd.R_drewN | apply Kd.R_drew)); exact HO_5.out⟩, ⟨by (with_reducible repeat (first | apply Kd.R_alloc | apply Kd.R_drewN | apply Kd.R_drew)); exact Kd.R_mono HO_17.out (fun _ hk => trivial)⟩, ⟨by repeat (first | (with_reducible first | exact HB.out | apply below_alloc | apply pw_below_drewN | apply below_drew1 | refine below_set ?_ GE359.out) | exact HB.out)⟩⟩
                                · rw [if_neg c57] at H
                                  have c57b0 : ((rd t332 x20_2) == 0) = false := beq_eq_false_iff_ne.mpr c57
                                  have c57b1 : ((rd t332 x20_2) != 0) = true := bne_iff_ne.mpr c57
                                  by_cases c58 : x17_2.length < 4398046511104
                                  · rw [if_pos c58] at H
                                    have LMc58 := Aside0.mk c58
                                    clear c58
                                    obtain ⟨y364, hy364⟩ : ∃ y_ : List (S55), y_ = (x17_2 ++ [(⟨0, x20_2, (rd t332 x20_2), x360003_45⟩ : S55)]) := ⟨_, rfl⟩
                                    replace H : (laws_FnExplained.l0 kj45 t328 t329 t332 t340 t345 y364 (wrap64 (x18_2 + 2)) (wrap64 (x19_2 + 1)) (wrap64 (x20_2 + 1))) = some r := by first | (rw [hy364]; with_reducible exact H) | (have H2_ := (Option.bind_some _ _).symm.trans H; rw [hy364]; with_reducible exact H2_) | (have H2_ := (Option.bind_some _ _).symm.trans H; with_reducible exact H2_) | with_reducible exact H | (rw [hy364]; exact H) | exact H
                                    have Ny364 := Aside0.mk hy364
                                    clear hy364
                                    have H' := Aside0.mk H
                                    clear H
                                    have p362 : 0 ≤ (x20_2 : Int) := of_decide_eq_true (by first | (with_reducible assumption) | assumption)
                                    have q362 : x20_2 < (t332.length : Int) := of_decide_eq_true (by first | (with_reducible assumption) | assumption)
                                    obtain ⟨ad362, e362, hx362_0⟩ := Kd.at_int (Kd.R_reads' HO_5.out).2.2 x20_2 p362 q362
                                    obtain rfl : ad358 = ad362 := (by injection e362)
                                    replace p362 := eq_true p362
                                    replace q362 := eq_true q362
                                    have p363 : 0 ≤ (x20_2 : Int) := of_decide_eq_true (by first | (with_reducible assumption) | assumption)
                                    have q363 : x20_2 < (t332.length : Int) := of_decide_eq_true (by first | (with_reducible assumption) | assumption)
                                    obtain ⟨ad363, e363, hx363_0⟩ := Kd.at_int (Kd.R_reads' HO_5.out).2.2 x20_2 p363 q363
                                    obtain rfl : ad358 = ad363 := (by injection e363)
                                    replace p363 := eq_true p363
                                    replace q363 := eq_true q363
                                    have hcz59_0 : wc.cell? ⟨gb359, 0, none⟩ = some (.int .i64 0) := (blk_cell BK359.out 0).trans rfl
                                    have hcz59_1 : wc.cell? ⟨gb359, 1, none⟩ = some (.int .i64 x20_2) := (blk_cell BK359.out 1).trans rfl
                                    have hcz59_2 : wc.cell? ⟨gb359, 2, none⟩ = some (.int .i64 (rd t332 x20_2)) := (blk_cell BK359.out 2).trans rfl
                                    have hcz59_3 : wc.cell? ⟨gb359, 3, none⟩ = some (.int .i64 x360003_45) := (blk_cell BK359.out 3).trans rfl
                                    have hfz59_0 := blk_frozen BK359.out 0
                                    have hfz59_1 := blk_frozen BK359.out 1
                                    have hfz59_2 := blk_frozen BK359.out 2
                                    have hfz59_3 := blk_frozen BK359.out 3
                                    go_wp2_with (first | ((with_reducible refine gate_builtin (b := .append) (xs := #[.tmp 145, .tmp 147]) rfl ?_); (try (refine gate_guard (by rfl) ?_; dsimp only)); at_builtin; refine Kd.R_append k55 (w0 := w) w.heap.size rfl (.tmp 145) (.tmp 147) 31 55 (.agg #[(.int .i64 0), (.int .i64 0), (.int .i64 0), (.int .i64 0)]) 32 rfl Try.underlying31 info55 rfl (by decide) (by omega) u17 x17_2 (⟨0, x20_2, (rd t332 x20_2), x360003_45⟩ : S55) [.int .i64 0, .int .i64 x20_2, .int .i64 (rd t332 x20_2), .int .i64 x360003_45] (fun k_ => k_ ≠ gb359) (fun _ => False) rfl rfl ?aP (fun _ hk => hk.elim) ?aF ?aO ?aB ?aS ?aL ?_; (case aP => exact k55_mkM _ _ _ (⟨0, x20_2, (rd t332 x20_2), x360003_45⟩ : S55)); (case aB => exact (by repeat (first | (with_reducible first | exact HB.out | apply below_alloc | apply pw_below_drewN | apply below_drew1 | refine below_set ?_ GE359.out) | exact HB.out))); (case aF => exact (fun k_ hk => Kd.freshB (g := gb359) (o := .cells #[.int .i64 0, .int .i64 x20_2, .int .i64 (rd t332 x20_2), .int .i64 x360003_45] 55 (0, 0)) (by (with_reducible repeat (first | refine blk_drewN ?_ _ | refine blk_drew ?_ | refine blk_alloc ?_ _)); exact BK359.out) k_ hk)); (case aO => exact (by (with_reducible repeat (first | apply Kd.R_alloc | apply Kd.R_drewN | apply Kd.R_drew)); exact HO_17.out)); (case aS => exact (below_size (by repeat (first | (with_reducible first | exact HB.out | apply below_alloc | apply pw_below_drewN | apply below_drew1 | refine below_set ?_ GE359.out) | exact HB.out)))); (case aL => have := LMc58.out; omega); intro v365 w60 ho hb hg hat; rw [← Ny364.out] at ho; have n0_ := Aside0.mk (Kd.R_over' (by (with_reducible repeat (first | apply Kd.R_alloc | apply Kd.R_drewN | apply Kd.R_drew)); exact HO_4.out) (Kd.R_typed (by (with_reducible repeat (first | apply Kd.R_alloc | apply Kd.R_drewN | apply Kd.R_drew)); exact HO_17.out)) (by decide) hg); have n1_ := Aside0.mk (Kd.R_over' (by (with_reducible repeat (first | apply Kd.R_alloc | apply Kd.R_drewN | apply Kd.R_drew)); exact HO_5.out) (Kd.R_typed (by (with_reducible repeat (first | apply Kd.R_alloc | apply Kd.R_drewN | apply Kd.R_drew)); exact HO_17.out)) (by decide) hg); have n2_ := Aside0.mk (blk_grown (g := gb359) (o := .cells #[.int .i64 0, .int .i64 x20_2, .int .i64 (rd t332 x20_2), .int .i64 x360003_45] 55 (0, 0)) (by (with_reducible repeat (first | refine blk_drewN ?_ _ | refine blk_drew ?_ | refine blk_alloc ?_ _)); exact BK359.out) hg (Kd.R_away HO_17.out (fun _ hk => hk))); have n3_ := Aside0.mk (hb); have n4_ := Aside0.mk (ho); clear HO_4; clear HO_5; clear BK359; clear HB; clear HO_17; have HO_4 := n0_; have HO_5 := n1_; have BK359 := n2_; have HB := n3_; have HO366 := n4_; clear n0_ n1_ n2_ n3_ n4_; clear ho hb hg hat))
                                    go_roundg kj45
                                    case measure => have := HJ10.out; have := HK2.out; have := HJ45.out; omega
                                    case rel => exact ⟨(y364), (wrap64 (x18_2 + 2)), (wrap64 (x19_2 + 1)), (wrap64 (x20_2 + 1)), (by first | rfl | (simp; done) | (simp [*]; done)), (by first | rfl | (simp; done) | (simp [*]; done)), (by first | rfl | (simp; done) | (simp [*]; done)), H', ⟨by have := HJ10.out; have := HK2.out; have := HJ45.out; omega⟩, ⟨by (with_reducible repeat (first | apply Kd.R_alloc | apply Kd.R_drewN | apply Kd.R_drew)); exact HO_4.out⟩, ⟨by (with_reducible repeat (first | apply Kd.R_alloc | apply Kd.R_drewN | apply Kd.R_drew)); exact HO_5.out⟩, ⟨by (with_reducible repeat (first | apply Kd.R_alloc | apply Kd.R_drewN | apply Kd.R_drew)); exact Kd.R_mono HO366.out (fun _ hk => trivial)⟩, ⟨by repeat (first | (with_reducible first | exact HB.out | apply below_alloc | apply pw_below_drewN | apply below_drew1 | refine below_set ?_ GE359.out) | exact HB.out)⟩⟩
                                  · rw [if_neg c58] at H
                                    exact absurd H (by simp)
                              · rw [if_neg c56] at H
                                have c56b0 : ((rd t332 x20_2) == 2) = false := beq_eq_false_iff_ne.mpr c56
                                have c56b1 : ((rd t332 x20_2) != 2) = true := bne_iff_ne.mpr c56
                                by_cases c61 : (rd t332 x20_2) = 1
                                · rw [if_pos c61] at H
                                  have c61b0 : ((rd t332 x20_2) == 1) = true := beq_iff_eq.mpr c61
                                  have c61b1 : ((rd t332 x20_2) != 1) = false := bne_eq_false_iff_eq.mpr c61
                                  clear c61
                                  by_cases c62 : (rd t332 x20_2) = 0
                                  · rw [if_pos c62] at H
                                    have c62b0 : ((rd t332 x20_2) == 0) = true := beq_iff_eq.mpr c62
                                    have c62b1 : ((rd t332 x20_2) != 0) = false := bne_eq_false_iff_eq.mpr c62
                                    clear c62
                                    have H' := Aside0.mk H
                                    clear H
                                    have p362 : 0 ≤ (x20_2 : Int) := of_decide_eq_true (by first | (with_reducible assumption) | assumption)
                                    have q362 : x20_2 < (t332.length : Int) := of_decide_eq_true (by first | (with_reducible assumption) | assumption)
                                    obtain ⟨ad362, e362, hx362_0⟩ := Kd.at_int (Kd.R_reads' HO_5.out).2.2 x20_2 p362 q362
                                    obtain rfl : ad358 = ad362 := (by injection e362)
                                    replace p362 := eq_true p362
                                    replace q362 := eq_true q362
                                    have p367 : 0 ≤ (x20_2 : Int) := of_decide_eq_true (by first | (with_reducible assumption) | assumption)
                                    have q367 : x20_2 < (t332.length : Int) := of_decide_eq_true (by first | (with_reducible assumption) | assumption)
                                    obtain ⟨ad367, e367, hx367_0⟩ := Kd.at_int (Kd.R_reads' HO_5.out).2.2 x20_2 p367 q367
                                    obtain rfl : ad358 = ad367 := (by injection e367)
                                    replace p367 := eq_true p367
                                    replace q367 := eq_true q367
                                    have p368 : 0 ≤ (x20_2 : Int) := of_decide_eq_true (by first | (with_reducible assumption) | assumption)
                                    have q368 : x20_2 < (t332.length : Int) := of_decide_eq_true (by first | (with_reducible assumption) | assumption)
                                    obtain ⟨ad368, e368, hx368_0⟩ := Kd.at_int (Kd.R_reads' HO_5.out).2.2 x20_2 p368 q368
                                    obtain rfl : ad358 = ad368 := (by injection e368)
                                    replace p368 := eq_true p368
                                    replace q368 := eq_true q368
                                    go_wp2
                                    go_roundg kj45
                                    case measure => have := HJ10.out; have := HK2.out; have := HJ45.out; omega
                                    case rel => exact ⟨(x17_2), (x18_2), (x19_2), (wrap64 (x20_2 + 1)), (by first | rfl | (simp; done) | (simp [*]; done)), (by first | rfl | (simp; done) | (simp [*]; done)), (by first | rfl | (simp; done) | (simp [*]; done)), H', ⟨by have := HJ10.out; have := HK2.out; have := HJ45.out; omega⟩, ⟨by (with_reducible repeat (first | apply Kd.R_alloc | apply Kd.R_drewN | apply Kd.R_drew)); exact HO_4.out⟩, ⟨by (with_reducible repeat (first | apply Kd.R_alloc | apply Kd.R_drewN | apply Kd.R_drew)); exact HO_5.out⟩, ⟨by (with_reducible repeat (first | apply Kd.R_alloc | apply Kd.R_drewN | apply Kd.R_drew)); exact Kd.R_mono HO_17.out (fun _ hk => trivial)⟩, ⟨by repeat (first | (with_reducible first | exact HB.out | apply below_alloc | apply pw_below_drewN | apply below_drew1 | refine below_set ?_ GE359.out) | exact HB.out)⟩⟩
                                  · rw [if_neg c62] at H
                                    have c62b0 : ((rd t332 x20_2) == 0) = false := beq_eq_false_iff_ne.mpr c62
                                    have c62b1 : ((rd t332 x20_2) != 0) = true := bne_iff_ne.mpr c62
                                    by_cases c63 : x17_2.length < 4398046511104
                                    · rw [if_pos c63] at H
                                      have LMc63 := Aside0.mk c63
                                      clear c63
                                      obtain ⟨y369, hy369⟩ : ∃ y_ : List (S55), y_ = (x17_2 ++ [(⟨0, x20_2, (rd t332 x20_2), x360003_45⟩ : S55)]) := ⟨_, rfl⟩
                                      replace H : (laws_FnExplained.l0 kj45 t328 t329 t332 t340 t345 y369 x18_2 (wrap64 (x19_2 + 1)) (wrap64 (x20_2 + 1))) = some r := by first | (rw [hy369]; with_reducible exact H) | (have H2_ := (Option.bind_some _ _).symm.trans H; rw [hy369]; with_reducible exact H2_) | (have H2_ := (Option.bind_some _ _).symm.trans H; with_reducible exact H2_) | with_reducible exact H | (rw [hy369]; exact H) | exact H
                                      have Ny369 := Aside0.mk hy369
                                      clear hy369
                                      have H' := Aside0.mk H
                                      clear H
                                      have p362 : 0 ≤ (x20_2 : Int) := of_decide_eq_true (by first | (with_reducible assumption) | assumption)
                                      have q362 : x20_2 < (t332.length : Int) := of_decide_eq_true (by first | (with_reducible assumption) | assumption)
                                      obtain ⟨ad362, e362, hx362_0⟩ := Kd.at_int (Kd.R_reads' HO_5.out).2.2 x20_2 p362 q362
                                      obtain rfl : ad358 = ad362 := (by injection e362)
                                      replace p362 := eq_true p362
                                      replace q362 := eq_true q362
                                      have p367 : 0 ≤ (x20_2 : Int) := of_decide_eq_true (by first | (with_reducible assumption) | assumption)
                                      have q367 : x20_2 < (t332.length : Int) := of_decide_eq_true (by first | (with_reducible assumption) | assumption)
                                      obtain ⟨ad367, e367, hx367_0⟩ := Kd.at_int (Kd.R_reads' HO_5.out).2.2 x20_2 p367 q367
                                      obtain rfl : ad358 = ad367 := (by injection e367)
                                      replace p367 := eq_true p367
                                      replace q367 := eq_true q367
                                      have p368 : 0 ≤ (x20_2 : Int) := of_decide_eq_true (by first | (with_reducible assumption) | assumption)
                                      have q368 : x20_2 < (t332.length : Int) := of_decide_eq_true (by first | (with_reducible assumption) | assumption)
                                      obtain ⟨ad368, e368, hx368_0⟩ := Kd.at_int (Kd.R_reads' HO_5.out).2.2 x20_2 p368 q368
                                      obtain rfl : ad358 = ad368 := (by injection e368)
                                      replace p368 := eq_true p368
                                      replace q368 := eq_true q368
                                      have hcz64_0 : wc.cell? ⟨gb359, 0, none⟩ = some (.int .i64 0) := (blk_cell BK359.out 0).trans rfl
                                      have hcz64_1 : wc.cell? ⟨gb359, 1, none⟩ = some (.int .i64 x20_2) := (blk_cell BK359.out 1).trans rfl
                                      have hcz64_2 : wc.cell? ⟨gb359, 2, none⟩ = some (.int .i64 (rd t332 x20_2)) := (blk_cell BK359.out 2).trans rfl
                                      have hcz64_3 : wc.cell? ⟨gb359, 3, none⟩ = some (.int .i64 x360003_45) := (blk_cell BK359.out 3).trans rfl
                                      have hfz64_0 := blk_frozen BK359.out 0
                                      have hfz64_1 := blk_frozen BK359.out 1
                                      have hfz64_2 := blk_frozen BK359.out 2
                                      have hfz64_3 := blk_frozen BK359.out 3
                                      go_wp2_with (first | ((with_reducible refine gate_builtin (b := .append) (xs := #[.tmp 145, .tmp 147]) rfl ?_); (try (refine gate_guard (by rfl) ?_; dsimp only)); at_builtin; refine Kd.R_append k55 (w0 := w) w.heap.size rfl (.tmp 145) (.tmp 147) 31 55 (.agg #[(.int .i64 0), (.int .i64 0), (.int .i64 0), (.int .i64 0)]) 32 rfl Try.underlying31 info55 rfl (by decide) (by omega) u17 x17_2 (⟨0, x20_2, (rd t332 x20_2), x360003_45⟩ : S55) [.int .i64 0, .int .i64 x20_2, .int .i64 (rd t332 x20_2), .int .i64 x360003_45] (fun k_ => k_ ≠ gb359) (fun _ => False) rfl rfl ?aP (fun _ hk => hk.elim) ?aF ?aO ?aB ?aS ?aL ?_; (case aP => exact k55_mkM _ _ _ (⟨0, x20_2, (rd t332 x20_2), x360003_45⟩ : S55)); (case aB => exact (by repeat (first | (with_reducible first | exact HB.out | apply below_alloc | apply pw_below_drewN | apply below_drew1 | refine below_set ?_ GE359.out) | exact HB.out))); (case aF => exact (fun k_ hk => Kd.freshB (g := gb359) (o := .cells #[.int .i64 0, .int .i64 x20_2, .int .i64 (rd t332 x20_2), .int .i64 x360003_45] 55 (0, 0)) (by (with_reducible repeat (first | refine blk_drewN ?_ _ | refine blk_drew ?_ | refine blk_alloc ?_ _)); exact BK359.out) k_ hk)); (case aO => exact (by (with_reducible repeat (first | apply Kd.R_alloc | apply Kd.R_drewN | apply Kd.R_drew)); exact HO_17.out)); (case aS => exact (below_size (by repeat (first | (with_reducible first | exact HB.out | apply below_alloc | apply pw_below_drewN | apply below_drew1 | refine below_set ?_ GE359.out) | exact HB.out)))); (case aL => have := LMc63.out; omega); intro v370 w65 ho hb hg hat; rw [← Ny369.out] at ho; have n0_ := Aside0.mk (Kd.R_over' (by (with_reducible repeat (first | apply Kd.R_alloc | apply Kd.R_drewN | apply Kd.R_drew)); exact HO_4.out) (Kd.R_typed (by (with_reducible repeat (first | apply Kd.R_alloc | apply Kd.R_drewN | apply Kd.R_drew)); exact HO_17.out)) (by decide) hg); have n1_ := Aside0.mk (Kd.R_over' (by (with_reducible repeat (first | apply Kd.R_alloc | apply Kd.R_drewN | apply Kd.R_drew)); exact HO_5.out) (Kd.R_typed (by (with_reducible repeat (first | apply Kd.R_alloc | apply Kd.R_drewN | apply Kd.R_drew)); exact HO_17.out)) (by decide) hg); have n2_ := Aside0.mk (blk_grown (g := gb359) (o := .cells #[.int .i64 0, .int .i64 x20_2, .int .i64 (rd t332 x20_2), .int .i64 x360003_45] 55 (0, 0)) (by (with_reducible repeat (first | refine blk_drewN ?_ _ | refine blk_drew ?_ | refine blk_alloc ?_ _)); exact BK359.out) hg (Kd.R_away HO_17.out (fun _ hk => hk))); have n3_ := Aside0.mk (hb); have n4_ := Aside0.mk (ho); clear HO_4; clear HO_5; clear BK359; clear HB; clear HO_17; have HO_4 := n0_; have HO_5 := n1_; have BK359 := n2_; have HB := n3_; have HO371 := n4_; clear n0_ n1_ n2_ n3_ n4_; clear ho hb hg hat))
                                      go_roundg kj45
                                      case measure => have := HJ10.out; have := HK2.out; have := HJ45.out; omega
                                      case rel => exact ⟨(y369), (x18_2), (wrap64 (x19_2 + 1)), (wrap64 (x20_2 + 1)), (by first | rfl | (simp; done) | (simp [*]; done)), (by first | rfl | (simp; done) | (simp [*]; done)), (by first | rfl | (simp; done) | (simp [*]; done)), H', ⟨by have := HJ10.out; have := HK2.out; have := HJ45.out; omega⟩, ⟨by (with_reducible repeat (first | apply Kd.R_alloc | apply Kd.R_drewN | apply Kd.R_drew)); exact HO_4.out⟩, ⟨by (with_reducible repeat (first | apply Kd.R_alloc | apply Kd.R_drewN | apply Kd.R_drew)); exact HO_5.out⟩, ⟨by (with_reducible repeat (first | apply Kd.R_alloc | apply Kd.R_drewN | apply Kd.R_drew)); exact Kd.R_mono HO371.out (fun _ hk => trivial)⟩, ⟨by repeat (first | (with_reducible first | exact HB.out | apply below_alloc | apply pw_below_drewN | apply below_drew1 | refine below_set ?_ GE359.out) | exact HB.out)⟩⟩
                                    · rw [if_neg c63] at H
                                      exact absurd H (by simp)
                                · rw [if_neg c61] at H
                                  have c61b0 : ((rd t332 x20_2) == 1) = false := beq_eq_false_iff_ne.mpr c61
                                  have c61b1 : ((rd t332 x20_2) != 1) = true := bne_iff_ne.mpr c61
                                  by_cases c66 : (rd t332 x20_2) = 0
                                  · rw [if_pos c66] at H
                                    have c66b0 : ((rd t332 x20_2) == 0) = true := beq_iff_eq.mpr c66
                                    have c66b1 : ((rd t332 x20_2) != 0) = false := bne_eq_false_iff_eq.mpr c66
                                    clear c66
                                    have H' := Aside0.mk H
                                    clear H
                                    have p362 : 0 ≤ (x20_2 : Int) := of_decide_eq_true (by first | (with_reducible assumption) | assumption)
                                    have q362 : x20_2 < (t332.length : Int) := of_decide_eq_true (by first | (with_reducible assumption) | assumption)
                                    obtain ⟨ad362, e362, hx362_0⟩ := Kd.at_int (Kd.R_reads' HO_5.out).2.2 x20_2 p362 q362
                                    obtain rfl : ad358 = ad362 := (by injection e362)
                                    replace p362 := eq_true p362
                                    replace q362 := eq_true q362
                                    have p367 : 0 ≤ (x20_2 : Int) := of_decide_eq_true (by first | (with_reducible assumption) | assumption)
                                    have q367 : x20_2 < (t332.length : Int) := of_decide_eq_true (by first | (with_reducible assumption) | assumption)
                                    obtain ⟨ad367, e367, hx367_0⟩ := Kd.at_int (Kd.R_reads' HO_5.out).2.2 x20_2 p367 q367
                                    obtain rfl : ad358 = ad367 := (by injection e367)
                                    replace p367 := eq_true p367
                                    replace q367 := eq_true q367
                                    have p372 : 0 ≤ (x20_2 : Int) := of_decide_eq_true (by first | (with_reducible assumption) | assumption)
                                    have q372 : x20_2 < (t332.length : Int) := of_decide_eq_true (by first | (with_reducible assumption) | assumption)
                                    obtain ⟨ad372, e372, hx372_0⟩ := Kd.at_int (Kd.R_reads' HO_5.out).2.2 x20_2 p372 q372
                                    obtain rfl : ad358 = ad372 := (by injection e372)
                                    replace p372 := eq_true p372
                                    replace q372 := eq_true q372
                                    go_wp2
                                    go_roundg kj45
                                    case measure => have := HJ10.out; have := HK2.out; have := HJ45.out; omega
                                    case rel => exact ⟨(x17_2), (wrap64 (x18_2 + 1)), (x19_2), (wrap64 (x20_2 + 1)), (by first | rfl | (simp; done) | (simp [*]; done)), (by first | rfl | (simp; done) | (simp [*]; done)), (by first | rfl | (simp; done) | (simp [*]; done)), H', ⟨by have := HJ10.out; have := HK2.out; have := HJ45.out; omega⟩, ⟨by (with_reducible repeat (first | apply Kd.R_alloc | apply Kd.R_drewN | apply Kd.R_drew)); exact HO_4.out⟩, ⟨by (with_reducible repeat (first | apply Kd.R_alloc | apply Kd.R_drewN | apply Kd.R_drew)); exact HO_5.out⟩, ⟨by (with_reducible repeat (first | apply Kd.R_alloc | apply Kd.R_drewN | apply Kd.R_drew)); exact Kd.R_mono HO_17.out (fun _ hk => trivial)⟩, ⟨by repeat (first | (with_reducible first | exact HB.out | apply below_alloc | apply pw_below_drewN | apply below_drew1 | refine below_set ?_ GE359.out) | exact HB.out)⟩⟩
                                  · rw [if_neg c66] at H
                                    have c66b0 : ((rd t332 x20_2) == 0) = false := beq_eq_false_iff_ne.mpr c66
                                    have c66b1 : ((rd t332 x20_2) != 0) = true := bne_iff_ne.mpr c66
                                    by_cases c67 : x17_2.length < 4398046511104
                                    · rw [if_pos c67] at H
                                      have LMc67 := Aside0.mk c67
                                      clear c67
                                      obtain ⟨y373, hy373⟩ : ∃ y_ : List (S55), y_ = (x17_2 ++ [(⟨0, x20_2, (rd t332 x20_2), x360003_45⟩ : S55)]) := ⟨_, rfl⟩
                                      replace H : (laws_FnExplained.l0 kj45 t328 t329 t332 t340 t345 y373 (wrap64 (x18_2 + 1)) (wrap64 (x19_2 + 1)) (wrap64 (x20_2 + 1))) = some r := by first | (rw [hy373]; with_reducible exact H) | (have H2_ := (Option.bind_some _ _).symm.trans H; rw [hy373]; with_reducible exact H2_) | (have H2_ := (Option.bind_some _ _).symm.trans H; with_reducible exact H2_) | with_reducible exact H | (rw [hy373]; exact H) | exact H
                                      have Ny373 := Aside0.mk hy373
                                      clear hy373
                                      have H' := Aside0.mk H
                                      clear H
                                      have p362 : 0 ≤ (x20_2 : Int) := of_decide_eq_true (by first | (with_reducible assumption) | assumption)
                                      have q362 : x20_2 < (t332.length : Int) := of_decide_eq_true (by first | (with_reducible assumption) | assumption)
                                      obtain ⟨ad362, e362, hx362_0⟩ := Kd.at_int (Kd.R_reads' HO_5.out).2.2 x20_2 p362 q362
                                      obtain rfl : ad358 = ad362 := (by injection e362)
                                      replace p362 := eq_true p362
                                      replace q362 := eq_true q362
                                      have p367 : 0 ≤ (x20_2 : Int) := of_decide_eq_true (by first | (with_reducible assumption) | assumption)
                                      have q367 : x20_2 < (t332.length : Int) := of_decide_eq_true (by first | (with_reducible assumption) | assumption)
                                      obtain ⟨ad367, e367, hx367_0⟩ := Kd.at_int (Kd.R_reads' HO_5.out).2.2 x20_2 p367 q367
                                      obtain rfl : ad358 = ad367 := (by injection e367)
                                      replace p367 := eq_true p367
                                      replace q367 := eq_true q367
                                      have p372 : 0 ≤ (x20_2 : Int) := of_decide_eq_true (by first | (with_reducible assumption) | assumption)
                                      have q372 : x20_2 < (t332.length : Int) := of_decide_eq_true (by first | (with_reducible assumption) | assumption)
                                      obtain ⟨ad372, e372, hx372_0⟩ := Kd.at_int (Kd.R_reads' HO_5.out).2.2 x20_2 p372 q372
                                      obtain rfl : ad358 = ad372 := (by injection e372)
                                      replace p372 := eq_true p372
                                      replace q372 := eq_true q372
                                      have hcz68_0 : wc.cell? ⟨gb359, 0, none⟩ = some (.int .i64 0) := (blk_cell BK359.out 0).trans rfl
                                      have hcz68_1 : wc.cell? ⟨gb359, 1, none⟩ = some (.int .i64 x20_2) := (blk_cell BK359.out 1).trans rfl
                                      have hcz68_2 : wc.cell? ⟨gb359, 2, none⟩ = some (.int .i64 (rd t332 x20_2)) := (blk_cell BK359.out 2).trans rfl
                                      have hcz68_3 : wc.cell? ⟨gb359, 3, none⟩ = some (.int .i64 x360003_45) := (blk_cell BK359.out 3).trans rfl
                                      have hfz68_0 := blk_frozen BK359.out 0
                                      have hfz68_1 := blk_frozen BK359.out 1
                                      have hfz68_2 := blk_frozen BK359.out 2
                                      have hfz68_3 := blk_frozen BK359.out 3
                                      go_wp2_with (first | ((with_reducible refine gate_builtin (b := .append) (xs := #[.tmp 145, .tmp 147]) rfl ?_); (try (refine gate_guard (by rfl) ?_; dsimp only)); at_builtin; refine Kd.R_append k55 (w0 := w) w.heap.size rfl (.tmp 145) (.tmp 147) 31 55 (.agg #[(.int .i64 0), (.int .i64 0), (.int .i64 0), (.int .i64 0)]) 32 rfl Try.underlying31 info55 rfl (by decide) (by omega) u17 x17_2 (⟨0, x20_2, (rd t332 x20_2), x360003_45⟩ : S55) [.int .i64 0, .int .i64 x20_2, .int .i64 (rd t332 x20_2), .int .i64 x360003_45] (fun k_ => k_ ≠ gb359) (fun _ => False) rfl rfl ?aP (fun _ hk => hk.elim) ?aF ?aO ?aB ?aS ?aL ?_; (case aP => exact k55_mkM _ _ _ (⟨0, x20_2, (rd t332 x20_2), x360003_45⟩ : S55)); (case aB => exact (by repeat (first | (with_reducible first | exact HB.out | apply below_alloc | apply pw_below_drewN | apply below_drew1 | refine below_set ?_ GE359.out) | exact HB.out))); (case aF => exact (fun k_ hk => Kd.freshB (g := gb359) (o := .cells #[.int .i64 0, .int .i64 x20_2, .int .i64 (rd t332 x20_2), .int .i64 x360003_45] 55 (0, 0)) (by (with_reducible repeat (first | refine blk_drewN ?_ _ | refine blk_drew ?_ | refine blk_alloc ?_ _)); exact BK359.out) k_ hk)); (case aO => exact (by (with_reducible repeat (first | apply Kd.R_alloc | apply Kd.R_drewN | apply Kd.R_drew)); exact HO_17.out)); (case aS => exact (below_size (by repeat (first | (with_reducible first | exact HB.out | apply below_alloc | apply pw_below_drewN | apply below_drew1 | refine below_set ?_ GE359.out) | exact HB.out)))); (case aL => have := LMc67.out; omega); intro v374 w69 ho hb hg hat; rw [← Ny373.out] at ho; have n0_ := Aside0.mk (Kd.R_over' (by (with_reducible repeat (first | apply Kd.R_alloc | apply Kd.R_drewN | apply Kd.R_drew)); exact HO_4.out) (Kd.R_typed (by (with_reducible repeat (first | apply Kd.R_alloc | apply Kd.R_drewN | apply Kd.R_drew)); exact HO_17.out)) (by decide) hg); have n1_ := Aside0.mk (Kd.R_over' (by (with_reducible repeat (first | apply Kd.R_alloc | apply Kd.R_drewN | apply Kd.R_drew)); exact HO_5.out) (Kd.R_typed (by (with_reducible repeat (first | apply Kd.R_alloc | apply Kd.R_drewN | apply Kd.R_drew)); exact HO_17.out)) (by decide) hg); have n2_ := Aside0.mk (blk_grown (g := gb359) (o := .cells #[.int .i64 0, .int .i64 x20_2, .int .i64 (rd t332 x20_2), .int .i64 x360003_45] 55 (0, 0)) (by (with_reducible repeat (first | refine blk_drewN ?_ _ | refine blk_drew ?_ | refine blk_alloc ?_ _)); exact BK359.out) hg (Kd.R_away HO_17.out (fun _ hk => hk))); have n3_ := Aside0.mk (hb); have n4_ := Aside0.mk (ho); clear HO_4; clear HO_5; clear BK359; clear HB; clear HO_17; have HO_4 := n0_; have HO_5 := n1_; have BK359 := n2_; have HB := n3_; have HO375 := n4_; clear n0_ n1_ n2_ n3_ n4_; clear ho hb hg hat))
                                      go_roundg kj45
                                      case measure => have := HJ10.out; have := HK2.out; have := HJ45.out; omega
                                      case rel => exact ⟨(y373), (wrap64 (x18_2 + 1)), (wrap64 (x19_2 + 1)), (wrap64 (x20_2 + 1)), (by first | rfl | (simp; done) | (simp [*]; done)), (by first | rfl | (simp; done) | (simp [*]; done)), (by first | rfl | (simp; done) | (simp [*]; done)), H', ⟨by have := HJ10.out; have := HK2.out; have := HJ45.out; omega⟩, ⟨by (with_reducible repeat (first | apply Kd.R_alloc | apply Kd.R_drewN | apply Kd.R_drew)); exact HO_4.out⟩, ⟨by (with_reducible repeat (first | apply Kd.R_alloc | apply Kd.R_drewN | apply Kd.R_drew)); exact HO_5.out⟩, ⟨by (with_reducible repeat (first | apply Kd.R_alloc | apply Kd.R_drewN | apply Kd.R_drew)); exact Kd.R_mono HO375.out (fun _ hk => trivial)⟩, ⟨by repeat (first | (with_reducible first | exact HB.out | apply below_alloc | apply pw_below_drewN | apply below_drew1 | refine below_set ?_ GE359.out) | exact HB.out)⟩⟩
                                    · rw [if_neg c67] at H
                                      exact absurd H (by simp)
                            · rw [if_neg c55] at H
                              exact absurd H (by simp)
                          · rw [if_neg c54] at H
                            exact absurd H (by simp)
                    · rw [if_neg c45] at H
                      exact absurd H (by simp)
                  · rw [if_neg c44] at H
                    exact absurd H (by simp)
                · rw [if_neg c43] at H
                  have c43b0 : decide (x20_2 < t328) = false := decide_eq_false c43
                  clear c43
                  replace H := Option.bind_eq_some_iff.mp H
                  obtain ⟨⟨t352, t353⟩, A700, H⟩ := H
                  replace H : (if t353 = 0 then (if (t352.length : Int) = 1 then (if 0 < (t352.length : Int) then ((laws_likeInts.f k2 (rd_L2 t352 0) t329).bind fun t357 => (if t357 = true then (if x19_2 = t340 then (some ((t340 == 0) == (t345 == 4))) else (some false)) else (some false))) else (none)) else (some false)) else (some false)) = some r := H
                  have A70 := Aside0.mk A700
                  clear A700
                  by_cases c71 : t353 = 0
                  · rw [if_pos c71] at H
                    have c71b0 : (t353 == 0) = true := beq_iff_eq.mpr c71
                    have c71b1 : (t353 != 0) = false := bne_eq_false_iff_eq.mpr c71
                    clear c71
                    by_cases c72 : (t352.length : Int) = 1
                    · rw [if_pos c72] at H
                      have c72b0 : ((t352.length : Int) == 1) = true := beq_iff_eq.mpr c72
                      have c72b1 : ((t352.length : Int) != 1) = false := bne_eq_false_iff_eq.mpr c72
                      clear c72
                      by_cases c73 : 0 < (t352.length : Int)
                      · rw [if_pos c73] at H
                        have c73b0 : decide (0 < (t352.length : Int)) = true := decide_eq_true c73
                        have c73b1 : decide (0 < t352.length) = true := decide_eq_true (by omega)
                        clear c73
                        replace H := Option.bind_eq_some_iff.mp H
                        obtain ⟨t357, A740, H⟩ := H
                        replace H : (if t357 = true then (if x19_2 = t340 then (some ((t340 == 0) == (t345 == 4))) else (some false)) else (some false)) = some r := H
                        have A74 := Aside0.mk A740
                        clear A740
                        by_cases c75 : t357 = true
                        · subst c75
                          have H1 : (if x19_2 = t340 then (some ((t340 == 0) == (t345 == 4))) else (some false)) = some r := by rw [if_pos rfl] at H; exact H
                          clear H
                          have H := H1
                          clear H1
                          by_cases c76 : x19_2 = t340
                          · rw [if_pos c76] at H
                            have c76b0 : (x19_2 == t340) = true := beq_iff_eq.mpr c76
                            have c76b1 : (x19_2 != t340) = false := bne_eq_false_iff_eq.mpr c76
                            clear c76
                            obtain rfl := Option.some.inj H
                            obtain ⟨Ao77, co77, eo77⟩ := Kd.R_slice HO_17.out
                            subst eo77
                            go_wp2_with (first | ((with_reducible refine gate_callee (f := 33) rfl ?_); refine goesL_ (some 154) rfl rfl Try.func33 (by kernel_rfl) rfl #[.int .i64 t328, .int .i64 1, .slice Ao77 x17_2.length co77] rfl (by (try simp only [List.map_toArray, List.map_cons, List.map_nil]); first | done | rfl | (simp only [List.length_drop, List.length_take]; rfl)) ?_; (with_reducible refine (impl_GatherBooks.calls k2 t328 1 _ _ x17_2 t352 t353 _ ?side1 ?side2 A70.out).mono ?_); (case side1 => repeat (first | exact (Kd.R_reads' HO_17.out).2.2 | (with_reducible refine Kd.C_alloc ?_ _) | (with_reducible refine Kd.C_drewN ?_ _) | (with_reducible refine Kd.C_drew ?_))); (case side2 => exact (Kd.R_reads' HO_17.out).2.1); rintro e w78 ⟨v354, rfl, ho0, hb⟩; refine ⟨_, rfl, ?_⟩; have n0_ := Aside0.mk (Kd.R_below (by (with_reducible repeat (first | apply Kd.R_alloc | apply Kd.R_drewN | apply Kd.R_drew)); exact HO_4.out) hb); have n1_ := Aside0.mk (Kd.R_below (by (with_reducible repeat (first | apply Kd.R_alloc | apply Kd.R_drewN | apply Kd.R_drew)); exact HO_5.out) hb); have n2_ := Aside0.mk (Kd.R_below (by (with_reducible repeat (first | apply Kd.R_alloc | apply Kd.R_drewN | apply Kd.R_drew)); exact HO_17.out) hb); have n3_ := Aside0.mk (Kd.S_lower (Kd.S_new' (Kd.S_new' ho0 (Kd.R_lt (by (with_reducible repeat (first | apply Kd.R_alloc | apply Kd.R_drewN | apply Kd.R_drew)); exact HO_4.out))) (Kd.R_lt (by (with_reducible repeat (first | apply Kd.R_alloc | apply Kd.R_drewN | apply Kd.R_drew)); exact HO_5.out))) (below_size (by repeat (first | (with_reducible first | exact HB.out | apply below_alloc | apply pw_below_drewN | apply below_drew1) | exact HB.out)))); have n4_ := Aside0.mk (below_step (by repeat (first | (with_reducible first | exact HB.out | apply below_alloc | apply pw_below_drewN | apply below_drew1) | exact HB.out)) hb); clear HO_4; clear HO_5; clear HO_17; clear HB; have HO_4 := n0_; have HO_5 := n1_; have HO_17 := n2_; have HO355 := n3_; have HB := n4_; clear n0_ n1_ n2_ n3_ n4_; (try clear hb); (try clear hb2); (try clear hk); (try clear hi); (try clear ho0); obtain ⟨Ao79, co79, eo79⟩ := Kd.S_slice HO355.out; subst eo79; have p356 : 0 ≤ (0 : Int) := (by omega); have q356 : 0 < (t352.length : Int) := of_decide_eq_true (by first | (with_reducible assumption) | assumption); obtain ⟨ad356, A356_0, c356_0, e356, hx356_0, hl356_0, hi356_0⟩ := at_L2 (Kd.S_reads' HO355.out).2.2 0 p356 q356; cases e356; obtain ⟨ce356, hce356, hMe356, hcc356⟩ := Kd.S_get HO355.out [] 0 p356 (by first | exact q356 | exact of_decide_eq_true (by first | (with_reducible assumption) | assumption) | (have e_ := (Kd.S_reads' HO355.out).1; omega)); obtain ⟨ve356_0, rfl, ge356_0⟩ := hMe356; have hv356_0 := hcc356 0 _ rfl; rw [Nat.add_zero, show ((Kd.slice 2 (Kd.int .i64))).sz = 1 from rfl, Nat.mul_one] at hv356_0; replace hv356_0 := Option.some.inj (hv356_0.symm.trans hx356_0); rw [hv356_0] at ge356_0; have HL356_0 := Aside0.mk (show Kd.R (Kd.int .i64) 2 _ _ _ _ (rd_L2 t352 0) from ge356_0); clear hv356_0 ge356_0; clear hcc356 hce356; have qi356 : (0 < t352.length) = True := eq_true (by omega); (try rw [show ((0 : Int)).toNat = 0 from rfl] at hx356_0); (try rw [Addr.add_zero'] at hx356_0); have HR356_0 := Aside0.mk hi356_0; have HC356_0 := Aside0.mk hl356_0; clear hi356_0 hl356_0; replace p356 := eq_true p356; replace q356 := eq_true q356) | (go_at_call 43; (with_reducible refine (laws_likeInts.calls k2 _ _ (rd_L2 t352 0) _ _ t329 true _ ?side1 ?side2 ?side3 ?side4 A74.out).mono ?_); (case side1 => repeat (first | exact (by repeat (first | (with_reducible exact HR356_0.out) | (with_reducible refine Kd.C_alloc ?_ _) | (with_reducible refine Kd.C_drewN ?_ _) | (with_reducible refine Kd.C_drew ?_) | exact HR356_0.out)) | (with_reducible refine Kd.C_alloc ?_ _) | (with_reducible refine Kd.C_drewN ?_ _) | (with_reducible refine Kd.C_drew ?_))); (case side2 => exact HC356_0.out); (case side3 => repeat (first | exact (Kd.R_reads' HO_4.out).2.2 | (with_reducible refine Kd.C_alloc ?_ _) | (with_reducible refine Kd.C_drewN ?_ _) | (with_reducible refine Kd.C_drew ?_))); (case side4 => exact (Kd.R_reads' HO_4.out).2.1); rintro e w' ⟨rfl, ⟨nd, rfl⟩⟩))
                            go_ret
                            exact ⟨by first | rfl | (simp [errW_none, errW_some] <;> rfl) | (simp [*, errW_none, errW_some] <;> rfl), by repeat (first | (with_reducible first | exact HB.out | apply below_alloc | apply pw_below_drewN | apply below_drew1) | exact HB.out)⟩
                          · rw [if_neg c76] at H
                            have c76b0 : (x19_2 == t340) = false := beq_eq_false_iff_ne.mpr c76
                            have c76b1 : (x19_2 != t340) = true := bne_iff_ne.mpr c76
                            exact absurd ((Option.some.inj H).trans hr_.out) (by decide)
                        · replace c75 := Bool.eq_false_iff.mpr c75
                          subst c75
                          have H1 : (some false) = some r := by rw [if_neg (show ¬ (false = true) by decide)] at H; exact H
                          clear H
                          have H := H1
                          clear H1
                          exact absurd ((Option.some.inj H).trans hr_.out) (by decide)
                      · rw [if_neg c73] at H
                        exact absurd H (by simp)
                    · rw [if_neg c72] at H
                      have c72b0 : ((t352.length : Int) == 1) = false := beq_eq_false_iff_ne.mpr c72
                      have c72b1 : ((t352.length : Int) != 1) = true := bne_iff_ne.mpr c72
                      exact absurd ((Option.some.inj H).trans hr_.out) (by decide)
                  · rw [if_neg c71] at H
                    have c71b0 : (t353 == 0) = false := beq_eq_false_iff_ne.mpr c71
                    have c71b1 : (t353 != 0) = true := bne_iff_ne.mpr c71
                    exact absurd ((Option.some.inj H).trans hr_.out) (by decide)
          · rw [if_neg c40] at H
            have c40b0 : (t333 == 0) = false := beq_eq_false_iff_ne.mpr c40
            have c40b1 : (t333 != 0) = true := bne_iff_ne.mpr c40
            obtain rfl := Option.some.inj H
            go_wp2
            go_ret
            exact ⟨by first | rfl | (simp [errW_none, errW_some] <;> rfl) | (simp [*, errW_none, errW_some] <;> rfl), by repeat (first | (with_reducible first | exact HB.out | apply below_alloc | apply pw_below_drewN | apply below_drew1) | exact HB.out)⟩

end Go.Proofs.Ythmeohanbggnlaa.PFnExplained
