-- Written by a program of this session.
import Derived.Test.YtpndkekgoadjkaaDoorPFnExactSetupOfx0
import Derived.Test.YtpndkekgoadjkaaDoorPFnExactSetupOfx1
import Derived.Test.YtpndkekgoadjkaaDoorPFnExactSetupOfx2
import Derived.Test.YtpndkekgoadjkaaDoorPFnExactSetupOfx5
namespace Go.Proofs.YtpndkekgoadjkaaDoor.PFnExactSetupOf
open Go.RowKit Go.Proofs.YtpndkekgoadjkaaDoorW.PrintWords Go.Proofs.YtpndkekgoadjkaaDoorW.PrintLast Go.Proofs.YtpndkekgoadjkaaDoorW.PrintMore
attribute [local go_sem] max2_int min2_int max_two min_two max_three min_three max_four min_four   -- for this text's walks alone
set_option linter.unusedVariables false
set_option linter.unusedSimpArgs false

/-! ### laws_FnExactSetupOf: function 4 -/
mutual
def laws_FnExactSetupOf.j0 : Nat → Int → Int → ByteArray → List (S56) → Int → List (S56) → Bool → Int → Int → Option (Bool)
  | 0, _, _, _, _, _, _, _, _, _ => none
  | k + 1, x0, x1, x3, x9, x10, x11, x46, x229000, x229001 => if x46 = true then (some false) else ((laws_markUnitS.f k x11 1).bind fun bt242 => ((laws_heldUnitS.f k bt242.2 1).bind fun t244 => (if t244 < 0 then (some false) else (if t244 = bt242.1 then ((laws_toPiece.f x229000 x229001).bind fun bt245 => ((impl_SetupOf.f k x0 x1 bt245.1 bt245.2 x3).bind fun bt247 => ((laws_eqUnitS.f k bt247.1 x9).bind fun t251 => (if t251 = true then (laws_FnExactSetupOf.j1 k bt242.2 bt242.1 (bt247.2 != x10)) else (laws_FnExactSetupOf.j1 k bt242.2 bt242.1 true))))) else (some false)))))
def laws_FnExactSetupOf.j1 : Nat → List (S56) → Int → Bool → Option (Bool)
  | 0, _, _, _ => none
  | k + 1, x11, x13, x75 => if x75 = true then (some false) else ((laws_heldUnitS.f k x11 1).bind fun t252 => (if t252 < 0 then (some false) else (if t252 = x13 then (some true) else (some false))))
end
def laws_FnExactSetupOf.f (k : Nat) (a0 : Int) (a1 : Int) (a2_0 : Int) (a2_1 : Int) (a3 : ByteArray) : Option (Bool) := if (a3.size : Int) > 1048576 then (some true) else ((laws_toPiece.f a2_0 a2_1).bind fun bt229 => ((spec_SetupOf.f k a0 a1 bt229.1 bt229.2 a3).bind fun bt231 => ((laws_toPiece.f a2_0 a2_1).bind fun bt235 => ((impl_SetupOf.f k a0 a1 bt235.1 bt235.2 a3).bind fun bt237 => ((laws_eqUnitS.f k bt237.1 bt231.1).bind fun t241 => (if t241 = true then (laws_FnExactSetupOf.j0 k a0 a1 a3 bt231.1 bt231.2 bt237.1 (bt237.2 != bt231.2) a2_0 a2_1) else (laws_FnExactSetupOf.j0 k a0 a1 a3 bt231.1 bt231.2 bt237.1 true a2_0 a2_1)))))))
theorem laws_FnExactSetupOf.mono_l : ∀ k, (∀ y0 y1 y2 y3 y4 y5 y6 y7 y8, LeO (laws_FnExactSetupOf.j0 k y0 y1 y2 y3 y4 y5 y6 y7 y8) (laws_FnExactSetupOf.j0 (k + 1) y0 y1 y2 y3 y4 y5 y6 y7 y8)) ∧ (∀ y0 y1 y2, LeO (laws_FnExactSetupOf.j1 k y0 y1 y2) (laws_FnExactSetupOf.j1 (k + 1) y0 y1 y2))
  | 0 => ⟨fun _ _ _ _ _ _ _ _ _ r h => by simp [laws_FnExactSetupOf.j0] at h, fun _ _ _ r h => by simp [laws_FnExactSetupOf.j1] at h⟩
  | k + 1 => by
    obtain ⟨ih0, ih1⟩ := laws_FnExactSetupOf.mono_l k
    refine ⟨?_, ?_⟩
    · intro y0 y1 y2 y3 y4 y5 y6 y7 y8
      unfold laws_FnExactSetupOf.j0
      repeat' first
      | (with_reducible exact ih0 _ _ _ _ _ _ _ _ _)
      | (with_reducible exact ih1 _ _ _)
      | (with_reducible exact impl_SetupOf.mono _ _ _ _ _ _)
      | (with_reducible exact laws_eqUnitS.mono _ _ _)
      | (with_reducible exact laws_heldUnitS.mono _ _ _)
      | (with_reducible exact laws_markUnitS.mono _ _ _)
      | (with_reducible exact spec_SetupOf.mono _ _ _ _ _ _)
      | (with_reducible exact LeO.refl _)
      | (with_reducible exact LeO.none _)
      | (with_reducible refine LeO.ite ?_ ?_)
      | (with_reducible refine LeO.bind ?_ (fun _ => ?_))
      | exact ih0 _ _ _ _ _ _ _ _ _
      | exact ih1 _ _ _
      | exact impl_SetupOf.mono _ _ _ _ _ _
      | exact laws_eqUnitS.mono _ _ _
      | exact laws_heldUnitS.mono _ _ _
      | exact laws_markUnitS.mono _ _ _
      | exact spec_SetupOf.mono _ _ _ _ _ _
      | exact LeO.none _
      | refine LeO.ite ?_ ?_
      | refine LeO.bind ?_ (fun _ => ?_)
    · intro y0 y1 y2
      unfold laws_FnExactSetupOf.j1
      repeat' first
      | (with_reducible exact ih0 _ _ _ _ _ _ _ _ _)
      | (with_reducible exact ih1 _ _ _)
      | (with_reducible exact impl_SetupOf.mono _ _ _ _ _ _)
      | (with_reducible exact laws_eqUnitS.mono _ _ _)
      | (with_reducible exact laws_heldUnitS.mono _ _ _)
      | (with_reducible exact laws_markUnitS.mono _ _ _)
      | (with_reducible exact spec_SetupOf.mono _ _ _ _ _ _)
      | (with_reducible exact LeO.refl _)
      | (with_reducible exact LeO.none _)
      | (with_reducible refine LeO.ite ?_ ?_)
      | (with_reducible refine LeO.bind ?_ (fun _ => ?_))
      | exact ih0 _ _ _ _ _ _ _ _ _
      | exact ih1 _ _ _
      | exact impl_SetupOf.mono _ _ _ _ _ _
      | exact laws_eqUnitS.mono _ _ _
      | exact laws_heldUnitS.mono _ _ _
      | exact laws_markUnitS.mono _ _ _
      | exact spec_SetupOf.mono _ _ _ _ _ _
      | exact LeO.none _
      | refine LeO.ite ?_ ?_
      | refine LeO.bind ?_ (fun _ => ?_)
theorem laws_FnExactSetupOf.mono : ∀ a0 a1 a2 a3 a4 k, LeO (laws_FnExactSetupOf.f k a0 a1 a2 a3 a4) (laws_FnExactSetupOf.f (k + 1) a0 a1 a2 a3 a4) := by
  intro a0 a1 a2 a3 a4 k
  obtain ⟨ih0, ih1⟩ := laws_FnExactSetupOf.mono_l k
  unfold laws_FnExactSetupOf.f
  repeat' first
      | (with_reducible exact ih0 _ _ _ _ _ _ _ _ _)
      | (with_reducible exact ih1 _ _ _)
      | (with_reducible exact impl_SetupOf.mono _ _ _ _ _ _)
      | (with_reducible exact laws_eqUnitS.mono _ _ _)
      | (with_reducible exact laws_heldUnitS.mono _ _ _)
      | (with_reducible exact laws_markUnitS.mono _ _ _)
      | (with_reducible exact spec_SetupOf.mono _ _ _ _ _ _)
      | (with_reducible exact LeO.refl _)
      | (with_reducible exact LeO.none _)
      | (with_reducible refine LeO.ite ?_ ?_)
      | (with_reducible refine LeO.bind ?_ (fun _ => ?_))
      | exact ih0 _ _ _ _ _ _ _ _ _
      | exact ih1 _ _ _
      | exact impl_SetupOf.mono _ _ _ _ _ _
      | exact laws_eqUnitS.mono _ _ _
      | exact laws_heldUnitS.mono _ _ _
      | exact laws_markUnitS.mono _ _ _
      | exact spec_SetupOf.mono _ _ _ _ _ _
      | exact LeO.none _
      | refine LeO.ite ?_ ?_
      | refine LeO.bind ?_ (fun _ => ?_)
theorem laws_FnExactSetupOf.j0_no {k : Nat} {y0 : Int} {y1 : Int} {y2 : ByteArray} {y3 : List (S56)} {y4 : Int} {y5 : List (S56)} {y7 : Int} {y8 : Int} {r : Bool} (h : laws_FnExactSetupOf.j0 k y0 y1 y2 y3 y4 y5 true y7 y8 = some r) (hr : r = true) : False := by
  cases k with
  | zero => cases h
  | succ k => rw [laws_FnExactSetupOf.j0, if_pos rfl] at h; exact absurd ((Option.some.inj h).trans hr) (by decide)
theorem laws_FnExactSetupOf.j1_no {k : Nat} {y0 : List (S56)} {y1 : Int} {r : Bool} (h : laws_FnExactSetupOf.j1 k y0 y1 true = some r) (hr : r = true) : False := by
  cases k with
  | zero => cases h
  | succ k => rw [laws_FnExactSetupOf.j1, if_pos rfl] at h; exact absurd ((Option.some.inj h).trans hr) (by decide)
set_option maxHeartbeats 8000000 in
set_option maxRecDepth 100000 in
theorem laws_FnExactSetupOf.calls (k : Nat) (a0 : Int) (a1 : Int) (a2_0 : Int) (a2_1 : Int) (a3 : ByteArray) (r : Bool) (w : World) (hr_ : Aside0 (r = true)) (h : laws_FnExactSetupOf.f k a0 a1 a2_0 a2_1 a3 = some r) :
    Calls Tryd.prog 4 #[.int .i64 a0, .int .i64 a1, .agg #[.int .i64 a2_0, .int .i64 a2_1], .string a3] w fun e w' => e = .returned (.bool r) ∧ Below w.heap.size w w' := by
  have hu23 := Tryd.underlying23
  have HB := Aside0.mk (Below.refl w.heap.size w)
  have H : (if (a3.size : Int) > 1048576 then (some true) else ((laws_toPiece.f a2_0 a2_1).bind fun bt229 => ((spec_SetupOf.f k a0 a1 bt229.1 bt229.2 a3).bind fun bt231 => ((laws_toPiece.f a2_0 a2_1).bind fun bt235 => ((impl_SetupOf.f k a0 a1 bt235.1 bt235.2 a3).bind fun bt237 => ((laws_eqUnitS.f k bt237.1 bt231.1).bind fun t241 => (if t241 = true then (laws_FnExactSetupOf.j0 k a0 a1 a3 bt231.1 bt231.2 bt237.1 (bt237.2 != bt231.2) a2_0 a2_1) else (laws_FnExactSetupOf.j0 k a0 a1 a3 bt231.1 bt231.2 bt237.1 true a2_0 a2_1)))))))) = some r := h
  clear h
  by_cases c5 : (a3.size : Int) > 1048576
  · rw [if_pos c5] at H
    have c5b0 : decide (1048576 < (a3.size : Int)) = true := decide_eq_true c5
    have c5b1 : decide (1048576 < a3.size) = true := decide_eq_true (by omega)
    clear c5
    obtain rfl := Option.some.inj H
    go_enter Tryd.func4, Tryd.ntmps4
    go_wp2_with (first | ((with_reducible refine gate_dst (N := 6) rfl ?_); refine box_event ?hg (N := 6) ?hd (cs := #[.int .i64 a2_0, .int .i64 a2_1]) (t := 23) ?hr ?_; (case hd => rfl); (case hg => rfl); (case hr => first | (go_simp; done) | (go_simp; rfl)); intro gb228 hg w6 hbox hb; have n0_ := Aside0.mk (below_step (by repeat (first | (with_reducible first | exact HB.out | apply below_alloc | apply pw_below_drewN | apply below_drew1) | exact HB.out)) hb); have n1_ := Aside0.mk (hbox); have n2_ := Aside0.mk ((by rw [hg]; exact (below_size (by repeat (first | (with_reducible first | exact HB.out | apply below_alloc | apply pw_below_drewN | apply below_drew1) | exact HB.out))) : w.heap.size ≤ gb228)); have n3_ := Aside0.mk ((by rw [hg]; exact (below_size (by repeat (first | (with_reducible first | exact HB.out | apply below_alloc | apply pw_below_drewN | apply below_drew1) | exact HB.out))) : w.heap.size ≤ gb228)); clear HB; have HB := n0_; have BK228 := n1_; have GW228 := n2_; have GE228 := n3_; clear n0_ n1_ n2_ n3_; clear hb hbox hg))
    go_ret
    exact ⟨by first | rfl | (simp [errW_none, errW_some] <;> rfl) | (simp [*, errW_none, errW_some] <;> rfl), by repeat (first | (with_reducible first | exact HB.out | apply below_alloc | apply pw_below_drewN | apply below_drew1 | refine below_set ?_ GE228.out) | exact HB.out)⟩
  · rw [if_neg c5] at H
    have c5b0 : decide (1048576 < (a3.size : Int)) = false := decide_eq_false c5
    have c5b1 : decide (1048576 < a3.size) = false := decide_eq_false (by omega)
    clear c5
    replace H := Option.bind_eq_some_iff.mp H
    obtain ⟨⟨t229, t230⟩, A70, H⟩ := H
    replace H : ((spec_SetupOf.f k a0 a1 t229 t230 a3).bind fun bt231 => ((laws_toPiece.f a2_0 a2_1).bind fun bt235 => ((impl_SetupOf.f k a0 a1 bt235.1 bt235.2 a3).bind fun bt237 => ((laws_eqUnitS.f k bt237.1 bt231.1).bind fun t241 => (if t241 = true then (laws_FnExactSetupOf.j0 k a0 a1 a3 bt231.1 bt231.2 bt237.1 (bt237.2 != bt231.2) a2_0 a2_1) else (laws_FnExactSetupOf.j0 k a0 a1 a3 bt231.1 bt231.2 bt237.1 true a2_0 a2_1)))))) = some r := H
    have A7 := Aside0.mk A70
    clear A70
    replace H := Option.bind_eq_some_iff.mp H
    obtain ⟨⟨t231, t234⟩, A80, H⟩ := H
    replace H : ((laws_toPiece.f a2_0 a2_1).bind fun bt235 => ((impl_SetupOf.f k a0 a1 bt235.1 bt235.2 a3).bind fun bt237 => ((laws_eqUnitS.f k bt237.1 t231).bind fun t241 => (if t241 = true then (laws_FnExactSetupOf.j0 k a0 a1 a3 t231 t234 bt237.1 (bt237.2 != t234) a2_0 a2_1) else (laws_FnExactSetupOf.j0 k a0 a1 a3 t231 t234 bt237.1 true a2_0 a2_1))))) = some r := H
    have A8 := Aside0.mk A80
    clear A80
    replace H := Option.bind_eq_some_iff.mp H
    obtain ⟨⟨t235, t236⟩, A90, H⟩ := H
    replace H : ((impl_SetupOf.f k a0 a1 t235 t236 a3).bind fun bt237 => ((laws_eqUnitS.f k bt237.1 t231).bind fun t241 => (if t241 = true then (laws_FnExactSetupOf.j0 k a0 a1 a3 t231 t234 bt237.1 (bt237.2 != t234) a2_0 a2_1) else (laws_FnExactSetupOf.j0 k a0 a1 a3 t231 t234 bt237.1 true a2_0 a2_1)))) = some r := H
    have A9 := Aside0.mk A90
    clear A90
    replace H := Option.bind_eq_some_iff.mp H
    obtain ⟨⟨t237, t240⟩, A100, H⟩ := H
    replace H : ((laws_eqUnitS.f k t237 t231).bind fun t241 => (if t241 = true then (laws_FnExactSetupOf.j0 k a0 a1 a3 t231 t234 t237 (t240 != t234) a2_0 a2_1) else (laws_FnExactSetupOf.j0 k a0 a1 a3 t231 t234 t237 true a2_0 a2_1))) = some r := H
    have A10 := Aside0.mk A100
    clear A100
    have HC11 := Aside0.mk H
    clear H
    go_enter Tryd.func4, Tryd.ntmps4
    go_upto_region 5 with (first | ((with_reducible refine gate_dst (N := 6) rfl ?_); refine box_event ?hg (N := 6) ?hd (cs := #[.int .i64 a2_0, .int .i64 a2_1]) (t := 23) ?hr ?_; (case hd => rfl); (case hg => rfl); (case hr => first | (go_simp; done) | (go_simp; rfl)); intro gb228 hg w12 hbox hb; have n0_ := Aside0.mk (below_step (by repeat (first | (with_reducible first | exact HB.out | apply below_alloc | apply pw_below_drewN | apply below_drew1) | exact HB.out)) hb); have n1_ := Aside0.mk (hbox); have n2_ := Aside0.mk ((by rw [hg]; exact (below_size (by repeat (first | (with_reducible first | exact HB.out | apply below_alloc | apply pw_below_drewN | apply below_drew1) | exact HB.out))) : w.heap.size ≤ gb228)); have n3_ := Aside0.mk ((by rw [hg]; exact (below_size (by repeat (first | (with_reducible first | exact HB.out | apply below_alloc | apply pw_below_drewN | apply below_drew1) | exact HB.out))) : w.heap.size ≤ gb228)); clear HB; have HB := n0_; have BK228 := n1_; have GW228 := n2_; have GE228 := n3_; clear n0_ n1_ n2_ n3_; clear hb hbox hg; have hcz13_0 : w12.cell? ⟨gb228, 0, none⟩ = some (.int .i64 a2_0) := (blk_cell BK228.out 0).trans rfl; have hcz13_1 : w12.cell? ⟨gb228, 1, none⟩ = some (.int .i64 a2_1) := (blk_cell BK228.out 1).trans rfl; have hfz13_0 := blk_frozen BK228.out 0; have hfz13_1 := blk_frozen BK228.out 1) | ((with_reducible refine gate_callee (f := 7) rfl ?_); refine goesL_ (some 24) rfl rfl Tryd.func7 (by kernel_rfl) rfl #[.agg #[.int .i64 a2_0, .int .i64 a2_1]] rfl (by (try simp only [List.map_toArray, List.map_cons, List.map_nil]); first | done | rfl | (simp only [List.length_drop, List.length_take]; rfl)) ?_; (with_reducible refine (laws_toPiece.calls a2_0 a2_1 t229 t230 _ A7.out).mono ?_); rintro e w14 ⟨rfl, hb⟩; refine ⟨_, rfl, ?_⟩; have n0_ := Aside0.mk (blk_below (g := gb228) (o := .cells #[.int .i64 a2_0, .int .i64 a2_1] 23 (0, 0)) (by (with_reducible repeat (first | refine blk_drewN ?_ _ | refine blk_drew ?_ | refine blk_alloc ?_ _)); exact BK228.out) hb); have n1_ := Aside0.mk (below_step (by repeat (first | (with_reducible first | exact HB.out | apply below_alloc | apply pw_below_drewN | apply below_drew1 | refine below_set ?_ GE228.out) | exact HB.out)) hb); clear BK228; clear HB; have BK228 := n0_; have HB := n1_; clear n0_ n1_; (try clear hb); (try clear hb2); (try clear hk); (try clear hi)) | ((with_reducible refine gate_callee (f := 10) rfl ?_); refine goesL_ (some 26) rfl rfl Tryd.func10 (by kernel_rfl) rfl #[.int .i64 a0, .int .i64 a1, .agg #[.int .i64 t229, .int .i64 t230], .string a3] rfl (by (try simp only [List.map_toArray, List.map_cons, List.map_nil]); first | done | rfl | (simp only [List.length_drop, List.length_take]; rfl)) ?_; (with_reducible refine (spec_SetupOf.calls k a0 a1 t229 t230 a3 t231 t234 _ A8.out).mono ?_); rintro e w15 ⟨v232, rfl, ho0, hb⟩; refine ⟨_, rfl, ?_⟩; have n0_ := Aside0.mk (Kd.R_lower ho0 (below_size (by repeat (first | (with_reducible first | exact HB.out | apply below_alloc | apply pw_below_drewN | apply below_drew1 | refine below_set ?_ GE228.out) | exact HB.out)))); have n1_ := Aside0.mk (blk_below (g := gb228) (o := .cells #[.int .i64 a2_0, .int .i64 a2_1] 23 (0, 0)) (by (with_reducible repeat (first | refine blk_drewN ?_ _ | refine blk_drew ?_ | refine blk_alloc ?_ _)); exact BK228.out) hb); have n2_ := Aside0.mk (below_step (by repeat (first | (with_reducible first | exact HB.out | apply below_alloc | apply pw_below_drewN | apply below_drew1 | refine below_set ?_ GE228.out) | exact HB.out)) hb); clear BK228; clear HB; have HO233 := n0_; have BK228 := n1_; have HB := n2_; clear n0_ n1_ n2_; (try clear hb); (try clear hb2); (try clear hk); (try clear hi); (try clear ho0); have hcz16_0 : w15.cell? ⟨gb228, 0, none⟩ = some (.int .i64 a2_0) := (blk_cell BK228.out 0).trans rfl; have hcz16_1 : w15.cell? ⟨gb228, 1, none⟩ = some (.int .i64 a2_1) := (blk_cell BK228.out 1).trans rfl; have hfz16_0 := blk_frozen BK228.out 0; have hfz16_1 := blk_frozen BK228.out 1) | ((with_reducible refine gate_callee (f := 7) rfl ?_); refine goesL_ (some 33) rfl rfl Tryd.func7 (by kernel_rfl) rfl #[.agg #[.int .i64 a2_0, .int .i64 a2_1]] rfl (by (try simp only [List.map_toArray, List.map_cons, List.map_nil]); first | done | rfl | (simp only [List.length_drop, List.length_take]; rfl)) ?_; (with_reducible refine (laws_toPiece.calls a2_0 a2_1 t235 t236 _ A9.out).mono ?_); rintro e w17 ⟨rfl, hb⟩; refine ⟨_, rfl, ?_⟩; have n0_ := Aside0.mk (Kd.R_below (by (with_reducible repeat (first | apply Kd.R_alloc | apply Kd.R_drewN | apply Kd.R_drew)); exact HO233.out) hb); have n1_ := Aside0.mk (blk_below (g := gb228) (o := .cells #[.int .i64 a2_0, .int .i64 a2_1] 23 (0, 0)) (by (with_reducible repeat (first | refine blk_drewN ?_ _ | refine blk_drew ?_ | refine blk_alloc ?_ _)); exact BK228.out) hb); have n2_ := Aside0.mk (below_step (by repeat (first | (with_reducible first | exact HB.out | apply below_alloc | apply pw_below_drewN | apply below_drew1 | refine below_set ?_ GE228.out) | exact HB.out)) hb); clear HO233; clear BK228; clear HB; have HO233 := n0_; have BK228 := n1_; have HB := n2_; clear n0_ n1_ n2_; (try clear hb); (try clear hb2); (try clear hk); (try clear hi)) | ((with_reducible refine gate_callee (f := 11) rfl ?_); refine goesL_ (some 35) rfl rfl Tryd.func11 (by kernel_rfl) rfl #[.int .i64 a0, .int .i64 a1, .agg #[.int .i64 t235, .int .i64 t236], .string a3] rfl (by (try simp only [List.map_toArray, List.map_cons, List.map_nil]); first | done | rfl | (simp only [List.length_drop, List.length_take]; rfl)) ?_; (with_reducible refine (impl_SetupOf.calls k a0 a1 t235 t236 a3 t237 t240 _ A10.out).mono ?_); rintro e w18 ⟨v238, rfl, ho0, hb⟩; refine ⟨_, rfl, ?_⟩; have n0_ := Aside0.mk (Kd.R_elder' (by (with_reducible repeat (first | apply Kd.R_alloc | apply Kd.R_drewN | apply Kd.R_drew)); exact HO233.out) (Kd.R_base ho0) hb); have n1_ := Aside0.mk (Kd.R_lower (Kd.R_new' ho0 (Kd.R_lt (by (with_reducible repeat (first | apply Kd.R_alloc | apply Kd.R_drewN | apply Kd.R_drew)); exact HO233.out))) (below_size (by repeat (first | (with_reducible first | exact HB.out | apply below_alloc | apply pw_below_drewN | apply below_drew1 | refine below_set ?_ GE228.out) | exact HB.out)))); have n2_ := Aside0.mk (blk_below (g := gb228) (o := .cells #[.int .i64 a2_0, .int .i64 a2_1] 23 (0, 0)) (by (with_reducible repeat (first | refine blk_drewN ?_ _ | refine blk_drew ?_ | refine blk_alloc ?_ _)); exact BK228.out) hb); have n3_ := Aside0.mk (below_step (by repeat (first | (with_reducible first | exact HB.out | apply below_alloc | apply pw_below_drewN | apply below_drew1 | refine below_set ?_ GE228.out) | exact HB.out)) hb); clear HO233; clear BK228; clear HB; have HO233 := n0_; have HO239 := n1_; have BK228 := n2_; have HB := n3_; clear n0_ n1_ n2_ n3_; (try clear hb); (try clear hb2); (try clear hk); (try clear hi); (try clear ho0)))
    (try simp only [Act.put, List.setIfInBounds_toArray, List.set_cons_zero, List.set_cons_succ])
    go_cut [46] (fun v46 wc => ∃ (kq : Nat) (x46_10 : Bool), v46 = .bool x46_10 ∧ Aside0 (laws_FnExactSetupOf.j0 kq a0 a1 a3 t231 t234 t237 x46_10 a2_0 a2_1 = some r) ∧ Aside0 (kq ≤ k) ∧ Aside0 (Kd.R k56 56 wc w.heap.size (fun k_ => some k_ ≠ (v238 : Value).ownBlock) v232 t231) ∧ Aside0 (Kd.R k56 56 wc w.heap.size (fun k_ => some k_ ≠ (v232 : Value).ownBlock) v238 t237) ∧ Aside0 (wc.heap[gb228]? = some (.cells #[.int .i64 a2_0, .int .i64 a2_1] 23 (0, 0))) ∧ Aside0 (Below w.heap.size w wc))
    case first =>
      have H := HC11.out
      clear HC11
      replace H := Option.bind_eq_some_iff.mp H
      obtain ⟨t241, A190, H⟩ := H
      replace H : (if t241 = true then (laws_FnExactSetupOf.j0 k a0 a1 a3 t231 t234 t237 (t240 != t234) a2_0 a2_1) else (laws_FnExactSetupOf.j0 k a0 a1 a3 t231 t234 t237 true a2_0 a2_1)) = some r := H
      have A19 := Aside0.mk A190
      clear A190
      by_cases c20 : t241 = true
      · subst c20
        have H1 : (laws_FnExactSetupOf.j0 k a0 a1 a3 t231 t234 t237 (t240 != t234) a2_0 a2_1) = some r := by rw [if_pos rfl] at H; exact H
        clear H
        have H := H1
        clear H1
        have H' := Aside0.mk H
        clear H
        obtain ⟨Ao21, co21, eo21⟩ := Kd.R_slice HO239.out
        subst eo21
        obtain ⟨Ao22, co22, eo22⟩ := Kd.R_slice HO233.out
        subst eo22
        go_wp2_with (first | ((with_reducible refine gate_callee (f := 12) rfl ?_); refine goesL_ (some 40) rfl rfl Tryd.func12 (by kernel_rfl) rfl #[.slice Ao21 t237.length co21, .slice Ao22 t231.length co22] rfl (by (try simp only [List.map_toArray, List.map_cons, List.map_nil]); first | done | rfl | (simp only [List.length_drop, List.length_take]; rfl)) ?_; (with_reducible refine (laws_eqUnitS.calls k _ _ t237 _ _ t231 true _ ?side1 ?side2 ?side3 ?side4 A19.out).mono ?_); (case side1 => repeat (first | exact (Kd.R_reads' HO239.out).2.2 | (with_reducible refine Kd.C_alloc ?_ _) | (with_reducible refine Kd.C_drewN ?_ _) | (with_reducible refine Kd.C_drew ?_))); (case side2 => exact (Kd.R_reads' HO239.out).2.1); (case side3 => repeat (first | exact (Kd.R_reads' HO233.out).2.2 | (with_reducible refine Kd.C_alloc ?_ _) | (with_reducible refine Kd.C_drewN ?_ _) | (with_reducible refine Kd.C_drew ?_))); (case side4 => exact (Kd.R_reads' HO233.out).2.1); rintro e w23 ⟨rfl, hb⟩; refine ⟨_, rfl, ?_⟩; have n0_ := Aside0.mk (Kd.R_below (by (with_reducible repeat (first | apply Kd.R_alloc | apply Kd.R_drewN | apply Kd.R_drew)); exact HO233.out) hb); have n1_ := Aside0.mk (Kd.R_below (by (with_reducible repeat (first | apply Kd.R_alloc | apply Kd.R_drewN | apply Kd.R_drew)); exact HO239.out) hb); have n2_ := Aside0.mk (blk_below (g := gb228) (o := .cells #[.int .i64 a2_0, .int .i64 a2_1] 23 (0, 0)) (by (with_reducible repeat (first | refine blk_drewN ?_ _ | refine blk_drew ?_ | refine blk_alloc ?_ _)); exact BK228.out) hb); have n3_ := Aside0.mk (below_step (by repeat (first | (with_reducible first | exact HB.out | apply below_alloc | apply pw_below_drewN | apply below_drew1 | refine below_set ?_ GE228.out) | exact HB.out)) hb); clear HO233; clear HO239; clear BK228; clear HB; have HO233 := n0_; have HO239 := n1_; have BK228 := n2_; have HB := n3_; clear n0_ n1_ n2_ n3_; (try clear hb); (try clear hb2); (try clear hk); (try clear hi)))
        go_meet
        case rel => exact ⟨_, ((t240 != t234)), (by first | rfl | (simp; done) | (simp [*]; done)), H', ⟨by first | omega | exact Nat.le_refl _⟩, ⟨by (with_reducible repeat (first | apply Kd.R_alloc | apply Kd.R_drewN | apply Kd.R_drew)); exact Kd.R_mono HO233.out (fun _ hk => hk.2)⟩, ⟨by (with_reducible repeat (first | apply Kd.R_alloc | apply Kd.R_drewN | apply Kd.R_drew)); exact Kd.R_mono HO239.out (fun _ hk => hk.2)⟩, ⟨by (with_reducible repeat (first | refine blk_drewN ?_ _ | refine blk_drew ?_ | refine blk_alloc ?_ _)); exact BK228.out⟩, ⟨by repeat (first | (with_reducible first | exact HB.out | apply below_alloc | apply pw_below_drewN | apply below_drew1 | refine below_set ?_ GE228.out) | exact HB.out)⟩⟩
      · replace c20 := Bool.eq_false_iff.mpr c20
        subst c20
        have H1 : (laws_FnExactSetupOf.j0 k a0 a1 a3 t231 t234 t237 true a2_0 a2_1) = some r := by rw [if_neg (show ¬ (false = true) by decide)] at H; exact H
        clear H
        have H := H1
        clear H1
        (first | exact (laws_FnExactSetupOf.j0_no H hr_.out).elim | exact (laws_FnExactSetupOf.j1_no H hr_.out).elim)
    case rest =>
      clear HC11
      try clear c1
      try clear c2
      try clear p2
      try clear c4
      try clear c5
      try clear c5b0
      try clear c5b1
      try clear c7
      try clear c10
      try clear c11
      try clear c12
      try clear c20
      try clear hcz13_0
      try clear hcz13_1
      try clear hcz16_0
      try clear hcz16_1
      try clear hfz13_0
      try clear hfz13_1
      try clear hfz16_0
      try clear hfz16_1
      obtain ⟨kq, x46_10, rfl, HA, HJ10, HO_9, HO_11, BK228, HB⟩ := hcut
      cases kq with
      | zero => exact absurd HA.out (by simp [laws_FnExactSetupOf.j0])
      | succ kj10 =>
        have H := HA.out
        clear HA
        simp only [laws_FnExactSetupOf.j0] at H
        by_cases c27 : x46_10 = true
        · subst c27
          have H1 : (some false) = some r := by rw [if_pos rfl] at H; exact H
          clear H
          have H := H1
          clear H1
          exact absurd ((Option.some.inj H).trans hr_.out) (by decide)
        · replace c27 := Bool.eq_false_iff.mpr c27
          subst c27
          have H1 : ((laws_markUnitS.f kj10 t237 1).bind fun bt242 => ((laws_heldUnitS.f kj10 bt242.2 1).bind fun t244 => (if t244 < 0 then (some false) else (if t244 = bt242.1 then ((laws_toPiece.f a2_0 a2_1).bind fun bt245 => ((impl_SetupOf.f kj10 a0 a1 bt245.1 bt245.2 a3).bind fun bt247 => ((laws_eqUnitS.f kj10 bt247.1 t231).bind fun t251 => (if t251 = true then (laws_FnExactSetupOf.j1 kj10 bt242.2 bt242.1 (bt247.2 != t234)) else (laws_FnExactSetupOf.j1 kj10 bt242.2 bt242.1 true))))) else (some false))))) = some r := by rw [if_neg (show ¬ (false = true) by decide)] at H; exact H
          clear H
          have H := H1
          clear H1
          replace H := Option.bind_eq_some_iff.mp H
          obtain ⟨⟨t242, t243⟩, A280, H⟩ := H
          replace H : ((laws_heldUnitS.f kj10 t243 1).bind fun t244 => (if t244 < 0 then (some false) else (if t244 = t242 then ((laws_toPiece.f a2_0 a2_1).bind fun bt245 => ((impl_SetupOf.f kj10 a0 a1 bt245.1 bt245.2 a3).bind fun bt247 => ((laws_eqUnitS.f kj10 bt247.1 t231).bind fun t251 => (if t251 = true then (laws_FnExactSetupOf.j1 kj10 t243 t242 (bt247.2 != t234)) else (laws_FnExactSetupOf.j1 kj10 t243 t242 true))))) else (some false)))) = some r := H
          have A28 := Aside0.mk A280
          clear A280
          replace H := Option.bind_eq_some_iff.mp H
          obtain ⟨t244, A290, H⟩ := H
          replace H : (if t244 < 0 then (some false) else (if t244 = t242 then ((laws_toPiece.f a2_0 a2_1).bind fun bt245 => ((impl_SetupOf.f kj10 a0 a1 bt245.1 bt245.2 a3).bind fun bt247 => ((laws_eqUnitS.f kj10 bt247.1 t231).bind fun t251 => (if t251 = true then (laws_FnExactSetupOf.j1 kj10 t243 t242 (bt247.2 != t234)) else (laws_FnExactSetupOf.j1 kj10 t243 t242 true))))) else (some false))) = some r := H
          have A29 := Aside0.mk A290
          clear A290
          by_cases c30 : t244 < 0
          · rw [if_pos c30] at H
            have c30b0 : decide (t244 < 0) = true := decide_eq_true c30
            clear c30
            exact absurd ((Option.some.inj H).trans hr_.out) (by decide)
          · rw [if_neg c30] at H
            have c30b0 : decide (t244 < 0) = false := decide_eq_false c30
            clear c30
            by_cases c31 : t244 = t242
            · rw [if_pos c31] at H
              have c31b0 : (t244 == t242) = true := beq_iff_eq.mpr c31
              have c31b1 : (t244 != t242) = false := bne_eq_false_iff_eq.mpr c31
              clear c31
              replace H := Option.bind_eq_some_iff.mp H
              obtain ⟨⟨t245, t246⟩, A320, H⟩ := H
              replace H : ((impl_SetupOf.f kj10 a0 a1 t245 t246 a3).bind fun bt247 => ((laws_eqUnitS.f kj10 bt247.1 t231).bind fun t251 => (if t251 = true then (laws_FnExactSetupOf.j1 kj10 t243 t242 (bt247.2 != t234)) else (laws_FnExactSetupOf.j1 kj10 t243 t242 true)))) = some r := H
              have A32 := Aside0.mk A320
              clear A320
              replace H := Option.bind_eq_some_iff.mp H
              obtain ⟨⟨t247, t250⟩, A330, H⟩ := H
              replace H : ((laws_eqUnitS.f kj10 t247 t231).bind fun t251 => (if t251 = true then (laws_FnExactSetupOf.j1 kj10 t243 t242 (t250 != t234)) else (laws_FnExactSetupOf.j1 kj10 t243 t242 true))) = some r := H
              have A33 := Aside0.mk A330
              clear A330
              have HC34 := Aside0.mk H
              clear H
              obtain ⟨Ao35, co35, eo35⟩ := Kd.R_slice HO_11.out
              subst eo35
              go_upto_region 16 with (first | ((with_reducible refine gate_callee (f := 13) rfl ?_); refine goesL_ (some 49) rfl rfl Tryd.func13 (by kernel_rfl) rfl #[.slice Ao35 t237.length co35, .int .i64 1] rfl (by (try simp only [List.map_toArray, List.map_cons, List.map_nil]); first | done | rfl | (simp only [List.length_drop, List.length_take]; rfl)) ?_; (with_reducible refine (laws_markUnitS.calls kj10 (fun k_ => some k_ = (.slice Ao35 t237.length co35 : Value).ownBlock) (.slice Ao35 t237.length co35) t237 1 t242 t243 w _ ?side1 ?side2 A28.out).mono ?_); (case side1 => repeat (first | (with_reducible first | exact HB.out | apply below_alloc | apply pw_below_drewN | apply below_drew1 | refine below_set ?_ GE228.out) | exact HB.out)); (case side2 => exact Kd.R_tight rfl HO_11.out); rintro e w36 ⟨rfl, hy0, hb, hkp⟩; refine ⟨_, rfl, ?_⟩; have n0_ := Aside0.mk (Kd.R_mono (ok' := fun k_ => some k_ ≠ (.slice Ao35 t237.length co35 : Value).ownBlock) (Kd.R_keptB (HO_9.out) hkp (fun k_ hk_ hs_ => (hk_) hs_)) (fun k_ hk_ => hk_.1)); have n1_ := Aside0.mk (Kd.R_reok rfl hy0 (fun k_ e_ => HO_11.out.1 k_ e_)); have n2_ := Aside0.mk (blk_kept (by (with_reducible repeat (first | refine blk_drewN ?_ _ | refine blk_drew ?_ | refine blk_alloc ?_ _)); exact BK228.out) hkp (fun hs_ => (fun e_ => (Kd.R_ne HO_11.out BK228.out (by decide)) e_) hs_)); have n3_ := Aside0.mk (hb); clear HO_9; clear HO_11; clear BK228; clear HB; have HO_9 := n0_; have HO_11 := n1_; have BK228 := n2_; have HB := n3_; clear n0_ n1_ n2_ n3_; (try clear hb); (try clear hkp); (try clear hy0)) | ((with_reducible refine gate_callee (f := 14) rfl ?_); refine goesL_ (some 52) rfl rfl Tryd.func14 (by kernel_rfl) rfl #[.slice Ao35 t243.length co35, .int .i64 1] rfl (by (try simp only [List.map_toArray, List.map_cons, List.map_nil]); first | done | (rw [show t243.length = t237.length from (Kd.R_reads' HO_11.out).1.symm] <;> rfl) | rfl | (simp only [List.length_drop, List.length_take]; rfl)) ?_; (with_reducible refine (laws_heldUnitS.calls kj10 _ _ t243 1 t244 _ ?side1 ?side2 A29.out).mono ?_); (case side1 => repeat (first | exact (Kd.R_reads' HO_11.out).2.2 | (with_reducible refine Kd.C_alloc ?_ _) | (with_reducible refine Kd.C_drewN ?_ _) | (with_reducible refine Kd.C_drew ?_))); (case side2 => rw [show t243.length = t237.length from (Kd.R_reads' HO_11.out).1.symm]; exact (Kd.R_reads' HO_11.out).2.1); rintro e w' ⟨rfl, ⟨nd, rfl⟩⟩; refine ⟨_, rfl, ?_⟩; have hcz37_0 : w36.cell? ⟨gb228, 0, none⟩ = some (.int .i64 a2_0) := (blk_cell BK228.out 0).trans rfl; have hcz37_1 : w36.cell? ⟨gb228, 1, none⟩ = some (.int .i64 a2_1) := (blk_cell BK228.out 1).trans rfl; have hfz37_0 := blk_frozen BK228.out 0; have hfz37_1 := blk_frozen BK228.out 1) | ((with_reducible refine gate_callee (f := 7) rfl ?_); refine goesL_ (some 62) rfl rfl Tryd.func7 (by kernel_rfl) rfl #[.agg #[.int .i64 a2_0, .int .i64 a2_1]] rfl (by (try simp only [List.map_toArray, List.map_cons, List.map_nil]); first | done | rfl | (simp only [List.length_drop, List.length_take]; rfl)) ?_; (with_reducible refine (laws_toPiece.calls a2_0 a2_1 t245 t246 _ A32.out).mono ?_); rintro e w38 ⟨rfl, hb⟩; refine ⟨_, rfl, ?_⟩; have n0_ := Aside0.mk (Kd.R_below (by (with_reducible repeat (first | apply Kd.R_alloc | apply Kd.R_drewN | apply Kd.R_drew)); exact HO_9.out) hb); have n1_ := Aside0.mk (Kd.R_below (by (with_reducible repeat (first | apply Kd.R_alloc | apply Kd.R_drewN | apply Kd.R_drew)); exact HO_11.out) hb); have n2_ := Aside0.mk (blk_below (g := gb228) (o := .cells #[.int .i64 a2_0, .int .i64 a2_1] 23 (0, 0)) (by (with_reducible repeat (first | refine blk_drewN ?_ _ | refine blk_drew ?_ | refine blk_alloc ?_ _)); exact BK228.out) hb); have n3_ := Aside0.mk (below_step (by repeat (first | (with_reducible first | exact HB.out | apply below_alloc | apply pw_below_drewN | apply below_drew1 | refine below_set ?_ GE228.out) | exact HB.out)) hb); clear HO_9; clear HO_11; clear BK228; clear HB; have HO_9 := n0_; have HO_11 := n1_; have BK228 := n2_; have HB := n3_; clear n0_ n1_ n2_ n3_; (try clear hb); (try clear hb2); (try clear hk); (try clear hi)) | ((with_reducible refine gate_callee (f := 11) rfl ?_); refine goesL_ (some 64) rfl rfl Tryd.func11 (by kernel_rfl) rfl #[.int .i64 a0, .int .i64 a1, .agg #[.int .i64 t245, .int .i64 t246], .string a3] rfl (by (try simp only [List.map_toArray, List.map_cons, List.map_nil]); first | done | rfl | (simp only [List.length_drop, List.length_take]; rfl)) ?_; (with_reducible refine (impl_SetupOf.calls kj10 a0 a1 t245 t246 a3 t247 t250 _ A33.out).mono ?_); rintro e w39 ⟨v248, rfl, ho0, hb⟩; refine ⟨_, rfl, ?_⟩; have n0_ := Aside0.mk (Kd.R_elder' (by (with_reducible repeat (first | apply Kd.R_alloc | apply Kd.R_drewN | apply Kd.R_drew)); exact HO_9.out) (Kd.R_base ho0) hb); have n1_ := Aside0.mk (Kd.R_elder' (by (with_reducible repeat (first | apply Kd.R_alloc | apply Kd.R_drewN | apply Kd.R_drew)); exact HO_11.out) (Kd.R_base ho0) hb); have n2_ := Aside0.mk (Kd.R_lower (Kd.R_new' (Kd.R_new' ho0 (Kd.R_lt (by (with_reducible repeat (first | apply Kd.R_alloc | apply Kd.R_drewN | apply Kd.R_drew)); exact HO_9.out))) (Kd.R_lt (by (with_reducible repeat (first | apply Kd.R_alloc | apply Kd.R_drewN | apply Kd.R_drew)); exact HO_11.out))) (below_size (by repeat (first | (with_reducible first | exact HB.out | apply below_alloc | apply pw_below_drewN | apply below_drew1 | refine below_set ?_ GE228.out) | exact HB.out)))); have n3_ := Aside0.mk (blk_below (g := gb228) (o := .cells #[.int .i64 a2_0, .int .i64 a2_1] 23 (0, 0)) (by (with_reducible repeat (first | refine blk_drewN ?_ _ | refine blk_drew ?_ | refine blk_alloc ?_ _)); exact BK228.out) hb); have n4_ := Aside0.mk (below_step (by repeat (first | (with_reducible first | exact HB.out | apply below_alloc | apply pw_below_drewN | apply below_drew1 | refine below_set ?_ GE228.out) | exact HB.out)) hb); clear HO_9; clear HO_11; clear BK228; clear HB; have HO_9 := n0_; have HO_11 := n1_; have HO249 := n2_; have BK228 := n3_; have HB := n4_; clear n0_ n1_ n2_ n3_ n4_; (try clear hb); (try clear hb2); (try clear hk); (try clear hi); (try clear ho0)))
              (try simp only [Act.put, List.setIfInBounds_toArray, List.set_cons_zero, List.set_cons_succ])
              go_cut [75] (fun v75 wc => ∃ (kq : Nat) (x75_33 : Bool), v75 = .bool x75_33 ∧ Aside0 (laws_FnExactSetupOf.j1 kq t243 t242 x75_33 = some r) ∧ Aside0 (kq ≤ kj10) ∧ Aside0 (Kd.R k56 56 wc w.heap.size (fun _ => True) (.slice Ao35 t237.length co35) t243) ∧ Aside0 (wc.heap[gb228]? = some (.cells #[.int .i64 a2_0, .int .i64 a2_1] 23 (0, 0))) ∧ Aside0 (Below w.heap.size w wc))
              case first =>
                have H := HC34.out
                clear HC34
                replace H := Option.bind_eq_some_iff.mp H
                obtain ⟨t251, A400, H⟩ := H
                replace H : (if t251 = true then (laws_FnExactSetupOf.j1 kj10 t243 t242 (t250 != t234)) else (laws_FnExactSetupOf.j1 kj10 t243 t242 true)) = some r := H
                have A40 := Aside0.mk A400
                clear A400
                by_cases c41 : t251 = true
                · subst c41
                  have H1 : (laws_FnExactSetupOf.j1 kj10 t243 t242 (t250 != t234)) = some r := by rw [if_pos rfl] at H; exact H
                  clear H
                  have H := H1
                  clear H1
                  have H' := Aside0.mk H
                  clear H
                  obtain ⟨Ao42, co42, eo42⟩ := Kd.R_slice HO249.out
                  subst eo42
                  obtain ⟨Ao43, co43, eo43⟩ := Kd.R_slice HO_9.out
                  subst eo43
                  go_wp2_with (first | ((with_reducible refine gate_callee (f := 12) rfl ?_); refine goesL_ (some 69) rfl rfl Tryd.func12 (by kernel_rfl) rfl #[.slice Ao42 t247.length co42, .slice Ao43 t231.length co43] rfl (by (try simp only [List.map_toArray, List.map_cons, List.map_nil]); first | done | rfl | (simp only [List.length_drop, List.length_take]; rfl)) ?_; (with_reducible refine (laws_eqUnitS.calls kj10 _ _ t247 _ _ t231 true _ ?side1 ?side2 ?side3 ?side4 A40.out).mono ?_); (case side1 => repeat (first | exact (Kd.R_reads' HO249.out).2.2 | (with_reducible refine Kd.C_alloc ?_ _) | (with_reducible refine Kd.C_drewN ?_ _) | (with_reducible refine Kd.C_drew ?_))); (case side2 => exact (Kd.R_reads' HO249.out).2.1); (case side3 => repeat (first | exact (Kd.R_reads' HO_9.out).2.2 | (with_reducible refine Kd.C_alloc ?_ _) | (with_reducible refine Kd.C_drewN ?_ _) | (with_reducible refine Kd.C_drew ?_))); (case side4 => exact (Kd.R_reads' HO_9.out).2.1); rintro e w44 ⟨rfl, hb⟩; refine ⟨_, rfl, ?_⟩; have n0_ := Aside0.mk (Kd.R_below (by (with_reducible repeat (first | apply Kd.R_alloc | apply Kd.R_drewN | apply Kd.R_drew)); exact HO_9.out) hb); have n1_ := Aside0.mk (Kd.R_below (by (with_reducible repeat (first | apply Kd.R_alloc | apply Kd.R_drewN | apply Kd.R_drew)); exact HO_11.out) hb); have n2_ := Aside0.mk (Kd.R_below (by (with_reducible repeat (first | apply Kd.R_alloc | apply Kd.R_drewN | apply Kd.R_drew)); exact HO249.out) hb); have n3_ := Aside0.mk (blk_below (g := gb228) (o := .cells #[.int .i64 a2_0, .int .i64 a2_1] 23 (0, 0)) (by (with_reducible repeat (first | refine blk_drewN ?_ _ | refine blk_drew ?_ | refine blk_alloc ?_ _)); exact BK228.out) hb); have n4_ := Aside0.mk (below_step (by repeat (first | (with_reducible first | exact HB.out | apply below_alloc | apply pw_below_drewN | apply below_drew1 | refine below_set ?_ GE228.out) | exact HB.out)) hb); clear HO_9; clear HO_11; clear HO249; clear BK228; clear HB; have HO_9 := n0_; have HO_11 := n1_; have HO249 := n2_; have BK228 := n3_; have HB := n4_; clear n0_ n1_ n2_ n3_ n4_; (try clear hb); (try clear hb2); (try clear hk); (try clear hi)))
                  go_meet
                  case rel => exact ⟨_, ((t250 != t234)), (by first | rfl | (simp; done) | (simp [*]; done)), H', ⟨by have := HJ10.out; first | omega | exact Nat.le_refl _⟩, ⟨by (with_reducible repeat (first | apply Kd.R_alloc | apply Kd.R_drewN | apply Kd.R_drew)); exact Kd.R_mono HO_11.out (fun _ hk => trivial)⟩, ⟨by (with_reducible repeat (first | refine blk_drewN ?_ _ | refine blk_drew ?_ | refine blk_alloc ?_ _)); exact BK228.out⟩, ⟨by repeat (first | (with_reducible first | exact HB.out | apply below_alloc | apply pw_below_drewN | apply below_drew1 | refine below_set ?_ GE228.out) | exact HB.out)⟩⟩
                · replace c41 := Bool.eq_false_iff.mpr c41
                  subst c41
                  have H1 : (laws_FnExactSetupOf.j1 kj10 t243 t242 true) = some r := by rw [if_neg (show ¬ (false = true) by decide)] at H; exact H
                  clear H
                  have H := H1
                  clear H1
                  (first | exact (laws_FnExactSetupOf.j0_no H hr_.out).elim | exact (laws_FnExactSetupOf.j1_no H hr_.out).elim)
              case rest =>
                clear HC34
                try clear c1
                try clear c2
                try clear p2
                try clear c3
                try clear c4
                try clear c5
                try clear c5b0
                try clear c5b1
                try clear c7
                try clear c10
                try clear c11
                try clear c12
                try clear c13
                try clear c14
                try clear c20
                try clear c27
                try clear c30
                try clear c30b0
                try clear c31
                try clear c31b0
                try clear c31b1
                try clear c41
                try clear hcz13_0
                try clear hcz13_1
                try clear hcz16_0
                try clear hcz16_1
                try clear hcz37_0
                try clear hcz37_1
                try clear hfz13_0
                try clear hfz13_1
                try clear hfz16_0
                try clear hfz16_1
                try clear hfz37_0
                try clear hfz37_1
                try clear p2
                obtain ⟨kq, x75_33, rfl, HA, HJ33, HO_11, BK228, HB⟩ := hcut
                have hl11_33 := (Kd.R_reads' HO_11.out).1
                rw [hl11_33] at HO_11
                (try simp only [hl11_33])
                (try simp only [hl11_33] at BK228)
                cases kq with
                | zero => exact absurd HA.out (by simp [laws_FnExactSetupOf.j1])
                | succ kj33 =>
                  have H := HA.out
                  clear HA
                  simp only [laws_FnExactSetupOf.j1] at H
                  by_cases c48 : x75_33 = true
                  · subst c48
                    have H1 : (some false) = some r := by rw [if_pos rfl] at H; exact H
                    clear H
                    have H := H1
                    clear H1
                    exact absurd ((Option.some.inj H).trans hr_.out) (by decide)
                  · replace c48 := Bool.eq_false_iff.mpr c48
                    subst c48
                    have H1 : ((laws_heldUnitS.f kj33 t243 1).bind fun t252 => (if t252 < 0 then (some false) else (if t252 = t242 then (some true) else (some false)))) = some r := by rw [if_neg (show ¬ (false = true) by decide)] at H; exact H
                    clear H
                    have H := H1
                    clear H1
                    replace H := Option.bind_eq_some_iff.mp H
                    obtain ⟨t252, A490, H⟩ := H
                    replace H : (if t252 < 0 then (some false) else (if t252 = t242 then (some true) else (some false))) = some r := H
                    have A49 := Aside0.mk A490
                    clear A490
                    by_cases c50 : t252 < 0
                    · rw [if_pos c50] at H
                      have c50b0 : decide (t252 < 0) = true := decide_eq_true c50
                      clear c50
                      exact absurd ((Option.some.inj H).trans hr_.out) (by decide)
                    · rw [if_neg c50] at H
                      have c50b0 : decide (t252 < 0) = false := decide_eq_false c50
                      clear c50
                      by_cases c51 : t252 = t242
                      · rw [if_pos c51] at H
                        have c51b0 : (t252 == t242) = true := beq_iff_eq.mpr c51
                        have c51b1 : (t252 != t242) = false := bne_eq_false_iff_eq.mpr c51
                        clear c51
                        obtain rfl := Option.some.inj H
                        go_wp2_with (first | ((with_reducible refine gate_callee (f := 14) rfl ?_); refine goesL_ (some 78) rfl rfl Tryd.func14 (by kernel_rfl) rfl #[.slice Ao35 t243.length co35, .int .i64 1] rfl (by (try simp only [List.map_toArray, List.map_cons, List.map_nil]); first | done | rfl | (simp only [List.length_drop, List.length_take]; rfl)) ?_; (with_reducible refine (laws_heldUnitS.calls kj33 _ _ t243 1 t252 _ ?side1 ?side2 A49.out).mono ?_); (case side1 => repeat (first | exact (Kd.R_reads' HO_11.out).2.2 | (with_reducible refine Kd.C_alloc ?_ _) | (with_reducible refine Kd.C_drewN ?_ _) | (with_reducible refine Kd.C_drew ?_))); (case side2 => exact (Kd.R_reads' HO_11.out).2.1); rintro e w' ⟨rfl, ⟨nd, rfl⟩⟩; refine ⟨_, rfl, ?_⟩))
                        go_ret
                        exact ⟨by first | rfl | (simp [errW_none, errW_some] <;> rfl) | (simp [*, errW_none, errW_some] <;> rfl), by repeat (first | (with_reducible first | exact HB.out | apply below_alloc | apply pw_below_drewN | apply below_drew1 | refine below_set ?_ GE228.out) | exact HB.out)⟩
                      · rw [if_neg c51] at H
                        have c51b0 : (t252 == t242) = false := beq_eq_false_iff_ne.mpr c51
                        have c51b1 : (t252 != t242) = true := bne_iff_ne.mpr c51
                        exact absurd ((Option.some.inj H).trans hr_.out) (by decide)
            · rw [if_neg c31] at H
              have c31b0 : (t244 == t242) = false := beq_eq_false_iff_ne.mpr c31
              have c31b1 : (t244 != t242) = true := bne_iff_ne.mpr c31
              exact absurd ((Option.some.inj H).trans hr_.out) (by decide)

end Go.Proofs.YtpndkekgoadjkaaDoor.PFnExactSetupOf
