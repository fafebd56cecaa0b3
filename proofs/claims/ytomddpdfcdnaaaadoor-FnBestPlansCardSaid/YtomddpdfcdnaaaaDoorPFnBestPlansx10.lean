import Derived.Test.YtomddpdfcdnaaaaDoorPFnBestPlansx0
import Derived.Test.YtomddpdfcdnaaaaDoorPFnBestPlansx1
import Derived.Test.YtomddpdfcdnaaaaDoorPFnBestPlansx3
import Derived.Test.YtomddpdfcdnaaaaDoorPFnBestPlansx4
import Derived.Test.YtomddpdfcdnaaaaDoorPFnBestPlansx7
import Derived.Test.YtomddpdfcdnaaaaDoorPFnBestPlansx9
namespace Go.Proofs.YtomddpdfcdnaaaaDoor.PFnBestPlans
open Go.RowKit Go.Proofs.YtomddpdfcdnaaaaDoorW.PrintWords Go.Proofs.YtomddpdfcdnaaaaDoorW.PrintLast Go.Proofs.YtomddpdfcdnaaaaDoorW.PrintMore
attribute [local go_sem] max2_int min2_int max_two min_two max_three min_three max_four min_four   -- for this text's walks alone
set_option linter.unusedVariables false
set_option linter.unusedSimpArgs false

def impl_DensityBound.l0 : Nat → Int → Int → Int → List (S50) → Int → Int → Option (Int × Int)
 | 0, _, _, _, _, _, _ => none
 | k + 1, x0, x1, x9, x19, x20, x21 => if x21 < x20 then (if 0 ≤ x21 then (if x21 < (x19.length : Int) then (if (wrap64 (((rd_T50 x19 x21).f0) * ((rd_T50 x19 x21).f1))) = 0 then (none) else (impl_DensityBound.l0 k x0 x1 (mx x9 (wrap64 (Int.tdiv (wrap64 ((wrap64 (x0 * x1)) * ((rd_T50 x19 x21).f2))) (wrap64 (((rd_T50 x19 x21).f0) * ((rd_T50 x19 x21).f1)))))) x19 x20 (wrap64 (x21 + 1)))) else (none)) else (none)) else (some (x9, 0))
def impl_DensityBound.f (k : Nat) (a0 : Int) (a1 : Int) (l2 : List (S50)) : Option (Int × Int) := (impl_checkTable.f a0 a1 l2).bind fun t295 => (if t295 = 0 then (impl_DensityBound.l0 k a0 a1 0 l2 (l2.length : Int) 0) else (some (0, t295)))
theorem impl_DensityBound.mono_l : ∀ k, (∀ y0 y1 y2 y3 y4 y5, LeO (impl_DensityBound.l0 k y0 y1 y2 y3 y4 y5) (impl_DensityBound.l0 (k + 1) y0 y1 y2 y3 y4 y5))
 | 0 => fun _ _ _ _ _ _ r h => by simp [impl_DensityBound.l0] at h
 | k + 1 => by
  have ih0 := impl_DensityBound.mono_l k
  ·intro y0 y1 y2 y3 y4 y5
   unfold impl_DensityBound.l0
   repeat' first
   | (with_reducible exact ih0 _ _ _ _ _ _)
   | (with_reducible exact LeO.refl _)
   | (with_reducible exact LeO.none _)
   | (with_reducible refine LeO.ite ?_ ?_)
   | (with_reducible refine LeO.bind ?_ (fun _ => ?_))
   | exact ih0 _ _ _ _ _ _
   | exact LeO.none _
   | refine LeO.ite ?_ ?_
   | refine LeO.bind ?_ (fun _ => ?_)
theorem impl_DensityBound.mono : ∀ a0 a1 a2 k, LeO (impl_DensityBound.f k a0 a1 a2) (impl_DensityBound.f (k + 1) a0 a1 a2) := by
 intro a0 a1 a2 k
 have ih0 := impl_DensityBound.mono_l k
 unfold impl_DensityBound.f
 repeat' first
   | (with_reducible exact ih0 _ _ _ _ _ _)
   | (with_reducible exact LeO.refl _)
   | (with_reducible exact LeO.none _)
   | (with_reducible refine LeO.ite ?_ ?_)
   | (with_reducible refine LeO.bind ?_ (fun _ => ?_))
   | exact ih0 _ _ _ _ _ _
   | exact LeO.none _
   | refine LeO.ite ?_ ?_
   | refine LeO.bind ?_ (fun _ => ?_)
set_option maxHeartbeats 8000000 in
set_option maxRecDepth 100000 in
theorem impl_DensityBound.calls (k : Nat) (a0 : Int) (a1 : Int) (A2 : Option Addr) (c2 : Nat) (l2 : List (S50)) (r1 : Int) (r2 : Int) (w : World) (hr2 : Kd.C k50 w A2 l2.length l2) (hc2 : l2.length ≤ c2) (h : impl_DensityBound.f k a0 a1 l2 = some (r1, r2)) :
  Calls Tryd.prog 30 #[.int .i64 a0, .int .i64 a1, .slice A2 l2.length c2] w fun e w' => e = .returned (.tuple #[.int .i64 r1, .int .i64 r2]) ∧ Below w.heap.size w w' := by
 have hu50 := Tryd.underlying50
 have HR2 := Aside0.mk hr2
 have HC2 := Aside0.mk hc2
 clear hr2 hc2
 have HB := Aside0.mk (Below.refl w.heap.size w)
 have H : ((impl_checkTable.f a0 a1 l2).bind fun t295 => (if t295 = 0 then (impl_DensityBound.l0 k a0 a1 0 l2 (l2.length : Int) 0) else (some (0, t295)))) = some (r1, r2) := h
 clear h
 replace H := Option.bind_eq_some_iff.mp H
 obtain ⟨t295, A40, H⟩ := H
 replace H : (if t295 = 0 then (impl_DensityBound.l0 k a0 a1 0 l2 (l2.length : Int) 0) else (some (0, t295))) = some (r1, r2) := H
 have A4 := Aside0.mk A40
 clear A40
 by_cases c5 : t295 = 0
 ·rw [if_pos c5] at H
  have c5b0 : (t295 == 0) = true := beq_iff_eq.mpr c5
  have c5b1 : (t295 != 0) = false := bne_eq_false_iff_eq.mpr c5
  clear c5
  have H' := Aside0.mk H
  clear H
  go_enter Tryd.func30, Tryd.ntmps30
  go_wp2_with (first | ((with_reducible refine gate_callee (f := 43) rfl ?_); refine goesL_ (some 15) rfl rfl Tryd.func43 (by kernel_rfl) rfl #[.int .i64 a0, .int .i64 a1, .slice A2 l2.length c2] rfl (by (try simp only [List.map_toArray, List.map_cons, List.map_nil]); first | done | rfl | (simp only [List.length_drop, List.length_take]; rfl)) ?_; (with_reducible refine (impl_checkTable.calls a0 a1 _ _ l2 t295 _ ?side1 ?side2 A4.out).mono ?_); (case side1 => repeat (first | exact HR2.out | (with_reducible refine Kd.C_alloc ?_ _) | (with_reducible refine Kd.C_drewN ?_ _) | (with_reducible refine Kd.C_drew ?_))); (case side2 => exact HC2.out); rintro e w6 ⟨rfl, hb⟩; refine ⟨_, rfl, ?_⟩; have n0_ := Aside0.mk (below_step (by repeat (first | (with_reducible first | exact HB.out | apply below_alloc | apply pw_below_drewN | apply below_drew1) | exact HB.out)) hb); clear HB; have HB := n0_; clear n0_; (try clear hb)))
  go_loopg [9, 21] k (fun kq v9 v21 w' => ∃ (x9_1 : Int) (x21_1 : Int), v9 = .int .i64 x9_1 ∧ v21 = .int .i64 x21_1 ∧ Aside0 (impl_DensityBound.l0 kq a0 a1 x9_1 l2 (l2.length : Int) x21_1 = some (r1, r2)) ∧ Aside0 (kq ≤ k) ∧ Aside0 (Below w.heap.size w w'))
  case atStart => exact ⟨(0), (0), (by first | rfl | (simp; done) | (simp [*]; done)), (by first | rfl | (simp; done) | (simp [*]; done)), H', ⟨Nat.le_refl _⟩, ⟨by repeat (first | (with_reducible first | exact HB.out | apply below_alloc | apply pw_below_drewN | apply below_drew1) | exact HB.out)⟩⟩
  case round =>
   clear H'
   try clear c2
   try clear p2
   try clear c3
   try clear c4
   try clear c5
   try clear c5b0
   try clear c5b1
   obtain ⟨x9_1, x21_1, rfl, rfl, HA, HK1, HB⟩ := hrel
   cases gk with
   | zero => exact absurd HA.out (by simp [impl_DensityBound.l0])
   | succ k1 =>
    have H := HA.out
    clear HA
    simp only [impl_DensityBound.l0] at H
    by_cases c7 : x21_1 < (l2.length : Int)
    ·rw [if_pos c7] at H
     have c7b0 : decide (x21_1 < (l2.length : Int)) = true := decide_eq_true c7
     clear c7
     by_cases c8 : 0 ≤ x21_1
     ·rw [if_pos c8] at H
      have c8b0 : decide (0 ≤ x21_1) = true := decide_eq_true c8
      clear c8
      by_cases c9 : x21_1 < (l2.length : Int)
      ·rw [if_pos c9] at H
       have c9b0 : decide (x21_1 < (l2.length : Int)) = true := decide_eq_true c9
       clear c9
       by_cases c10 : (wrap64 (((rd_T50 l2 x21_1).f0) * ((rd_T50 l2 x21_1).f1))) = 0
       ·rw [if_pos c10] at H
        exact absurd H (by simp)
       ·rw [if_neg c10] at H
        have c10b0 : ((wrap64 (((rd_T50 l2 x21_1).f0) * ((rd_T50 l2 x21_1).f1))) == 0) = false := beq_eq_false_iff_ne.mpr c10
        have c10b1 : ((wrap64 (((rd_T50 l2 x21_1).f0) * ((rd_T50 l2 x21_1).f1))) != 0) = true := bne_iff_ne.mpr c10
        obtain ⟨ji11, hji11⟩ : ∃ j_ : Int, (mx x9_1 (wrap64 (Int.tdiv (wrap64 ((wrap64 (a0 * a1)) * ((rd_T50 l2 x21_1).f2))) (wrap64 (((rd_T50 l2 x21_1).f0) * ((rd_T50 l2 x21_1).f1)))))) = j_ := ⟨_, rfl⟩
        replace H : (impl_DensityBound.l0 k1 a0 a1 ji11 l2 (l2.length : Int) (wrap64 (x21_1 + 1))) = some (r1, r2) := by first | (rw [hji11] at H; exact H) | (simp only [hji11] at H ⊢; exact H)
        have hji11_ : (if x9_1 < (wrap64 (Int.tdiv (wrap64 ((wrap64 (a0 * a1)) * ((rd_T50 l2 x21_1).f2))) (wrap64 (((rd_T50 l2 x21_1).f0) * ((rd_T50 l2 x21_1).f1))))) then (wrap64 (Int.tdiv (wrap64 ((wrap64 (a0 * a1)) * ((rd_T50 l2 x21_1).f2))) (wrap64 (((rd_T50 l2 x21_1).f0) * ((rd_T50 l2 x21_1).f1))))) else x9_1) = ji11 := hji11
        have H' := Aside0.mk H
        clear H
        have p296 : 0 ≤ (x21_1 : Int) := of_decide_eq_true (by first | (with_reducible assumption) | assumption)
        have q296 : x21_1 < (l2.length : Int) := of_decide_eq_true (by first | (with_reducible assumption) | assumption)
        obtain ⟨ad296, e296, hx296_0, hx296_1, hx296_2⟩ := at_T50 HR2.out x21_1 p296 q296
        cases e296
        replace hx296_0 := (HB.out.cell (World.block_lt_of_cell? _ _ hx296_0)).trans hx296_0
        replace hx296_1 := (HB.out.cell (World.block_lt_of_cell? _ _ hx296_1)).trans hx296_1
        replace hx296_2 := (HB.out.cell (World.block_lt_of_cell? _ _ hx296_2)).trans hx296_2
        replace p296 := eq_true p296
        replace q296 := eq_true q296
        go_wp2_with (first | ((with_reducible refine gate_dst (N := 11) rfl ?_); refine box_event ?hg (N := 11) ?hd (cs := #[.int .i64 0, .int .i64 0, .int .i64 0]) (t := 50) ?hr ?_; (case hd => rfl); (case hg => rfl); (case hr => first | (go_simp; done) | (go_simp; rfl)); intro gb297 hg w12 hbox hb; have n0_ := Aside0.mk (below_step (by repeat (first | (with_reducible first | exact HB.out | apply below_alloc | apply pw_below_drewN | apply below_drew1) | exact HB.out)) hb); have n1_ := Aside0.mk (hbox); have n2_ := Aside0.mk ((by rw [hg]; exact (below_size (by repeat (first | (with_reducible first | exact HB.out | apply below_alloc | apply pw_below_drewN | apply below_drew1) | exact HB.out))) : w.heap.size ≤ gb297)); have n3_ := n2_; clear HB; have HB := n0_; have BK297 := n1_; have GW297 := n2_; have GE297 := n3_; clear n0_ n1_ n2_ n3_; clear hb hbox hg; have hcz13_0 : w12.cell? ⟨gb297, 0, none⟩ = some (.int .i64 0) := (blk_cell BK297.out 0).trans rfl; have hcz13_1 : w12.cell? ⟨gb297, 1, none⟩ = some (.int .i64 0) := (blk_cell BK297.out 1).trans rfl; have hcz13_2 : w12.cell? ⟨gb297, 2, none⟩ = some (.int .i64 0) := (blk_cell BK297.out 2).trans rfl; have hfz13_0 := blk_frozen BK297.out 0; have hfz13_1 := blk_frozen BK297.out 1; have hfz13_2 := blk_frozen BK297.out 2))
        go_roundg k1
        case measure => have := HK1.out; omega
        case rel => exact ⟨(ji11), (wrap64 (x21_1 + 1)), (by first | rfl | (simp; done) | (simp only [← hji11] <;> (first | rfl | simp)) | (simp [*]; done)), (by first | rfl | (simp; done) | (simp [*]; done)), H', ⟨by have := HK1.out; omega⟩, ⟨by repeat (first | (with_reducible first | exact HB.out | apply below_alloc | apply pw_below_drewN | apply below_drew1 | refine below_set ?_ GE297.out) | exact HB.out)⟩⟩
      ·rw [if_neg c9] at H
       exact absurd H (by simp)
     ·rw [if_neg c8] at H
      exact absurd H (by simp)
    ·rw [if_neg c7] at H
     have c7b0 : decide (x21_1 < (l2.length : Int)) = false := decide_eq_false c7
     clear c7
     simp only [Option.some.injEq, Prod.mk.injEq] at H
     obtain ⟨rfl, rfl⟩ := H
     go_wp2
     go_ret2
     exact ⟨by first | rfl | (simp [errW_none, errW_some] <;> rfl) | (simp [*, errW_none, errW_some] <;> rfl), by repeat (first | (with_reducible first | exact HB.out | apply below_alloc | apply pw_below_drewN | apply below_drew1) | exact HB.out)⟩
 ·rw [if_neg c5] at H
  have c5b0 : (t295 == 0) = false := beq_eq_false_iff_ne.mpr c5
  have c5b1 : (t295 != 0) = true := bne_iff_ne.mpr c5
  simp only [Option.some.injEq, Prod.mk.injEq] at H
  obtain ⟨rfl, rfl⟩ := H
  go_enter Tryd.func30, Tryd.ntmps30
  go_wp2_with (first | ((with_reducible refine gate_callee (f := 43) rfl ?_); refine goesL_ (some 15) rfl rfl Tryd.func43 (by kernel_rfl) rfl #[.int .i64 a0, .int .i64 a1, .slice A2 l2.length c2] rfl (by (try simp only [List.map_toArray, List.map_cons, List.map_nil]); first | done | rfl | (simp only [List.length_drop, List.length_take]; rfl)) ?_; (with_reducible refine (impl_checkTable.calls a0 a1 _ _ l2 t295 _ ?side1 ?side2 A4.out).mono ?_); (case side1 => repeat (first | exact HR2.out | (with_reducible refine Kd.C_alloc ?_ _) | (with_reducible refine Kd.C_drewN ?_ _) | (with_reducible refine Kd.C_drew ?_))); (case side2 => exact HC2.out); rintro e w14 ⟨rfl, hb⟩; refine ⟨_, rfl, ?_⟩; have n0_ := Aside0.mk (below_step (by repeat (first | (with_reducible first | exact HB.out | apply below_alloc | apply pw_below_drewN | apply below_drew1) | exact HB.out)) hb); clear HB; have HB := n0_; clear n0_; (try clear hb)))
  go_ret2
  exact ⟨by first | rfl | (simp [errW_none, errW_some] <;> rfl) | (simp [*, errW_none, errW_some] <;> rfl), by repeat (first | (with_reducible first | exact HB.out | apply below_alloc | apply pw_below_drewN | apply below_drew1) | exact HB.out)⟩

def spec_DensityBound.l0 : Nat → Int → Int → List (S50) → Int → Int → Option (Int × Int)
 | 0, _, _, _, _, _ => none
 | k + 1, x0, x1, x2, x9, x10 => if x10 < (x2.length : Int) then (if 0 ≤ x10 then (if (wrap64 (((rd_T50 x2 x10).f0) * ((rd_T50 x2 x10).f1))) = 0 then (none) else (spec_DensityBound.l0 k x0 x1 x2 (mx x9 (wrap64 (Int.tdiv (wrap64 ((wrap64 (x0 * x1)) * ((rd_T50 x2 x10).f2))) (wrap64 (((rd_T50 x2 x10).f0) * ((rd_T50 x2 x10).f1)))))) (wrap64 (x10 + 1)))) else (none)) else (some (x9, 0))
def spec_DensityBound.f (k : Nat) (a0 : Int) (a1 : Int) (l2 : List (S50)) : Option (Int × Int) := (spec_l12Code.f k a0 a1 l2).bind fun t298 => (if t298 = 0 then (spec_DensityBound.l0 k a0 a1 l2 0 0) else (some (0, t298)))
theorem spec_DensityBound.mono_l : ∀ k, (∀ y0 y1 y2 y3 y4, LeO (spec_DensityBound.l0 k y0 y1 y2 y3 y4) (spec_DensityBound.l0 (k + 1) y0 y1 y2 y3 y4))
 | 0 => fun _ _ _ _ _ r h => by simp [spec_DensityBound.l0] at h
 | k + 1 => by
  have ih0 := spec_DensityBound.mono_l k
  ·intro y0 y1 y2 y3 y4
   unfold spec_DensityBound.l0
   repeat' first
   | (with_reducible exact ih0 _ _ _ _ _)
   | (with_reducible exact spec_l12Code.mono _ _ _ _)
   | (with_reducible exact LeO.refl _)
   | (with_reducible exact LeO.none _)
   | (with_reducible refine LeO.ite ?_ ?_)
   | (with_reducible refine LeO.bind ?_ (fun _ => ?_))
   | exact ih0 _ _ _ _ _
   | exact spec_l12Code.mono _ _ _ _
   | exact LeO.none _
   | refine LeO.ite ?_ ?_
   | refine LeO.bind ?_ (fun _ => ?_)
theorem spec_DensityBound.mono : ∀ a0 a1 a2 k, LeO (spec_DensityBound.f k a0 a1 a2) (spec_DensityBound.f (k + 1) a0 a1 a2) := by
 intro a0 a1 a2 k
 have ih0 := spec_DensityBound.mono_l k
 unfold spec_DensityBound.f
 repeat' first
   | (with_reducible exact ih0 _ _ _ _ _)
   | (with_reducible exact spec_l12Code.mono _ _ _ _)
   | (with_reducible exact LeO.refl _)
   | (with_reducible exact LeO.none _)
   | (with_reducible refine LeO.ite ?_ ?_)
   | (with_reducible refine LeO.bind ?_ (fun _ => ?_))
   | exact ih0 _ _ _ _ _
   | exact spec_l12Code.mono _ _ _ _
   | exact LeO.none _
   | refine LeO.ite ?_ ?_
   | refine LeO.bind ?_ (fun _ => ?_)
set_option maxHeartbeats 8000000 in
set_option maxRecDepth 100000 in
theorem spec_DensityBound.calls (k : Nat) (a0 : Int) (a1 : Int) (A2 : Option Addr) (c2 : Nat) (l2 : List (S50)) (r1 : Int) (r2 : Int) (w : World) (hr2 : Kd.C k50 w A2 l2.length l2) (hc2 : l2.length ≤ c2) (h : spec_DensityBound.f k a0 a1 l2 = some (r1, r2)) :
  Calls Tryd.prog 31 #[.int .i64 a0, .int .i64 a1, .slice A2 l2.length c2] w fun e w' => e = .returned (.tuple #[.int .i64 r1, .int .i64 r2]) ∧ Below w.heap.size w w' := by
 have HR2 := Aside0.mk hr2
 have HC2 := Aside0.mk hc2
 clear hr2 hc2
 have HB := Aside0.mk (Below.refl w.heap.size w)
 have H : ((spec_l12Code.f k a0 a1 l2).bind fun t298 => (if t298 = 0 then (spec_DensityBound.l0 k a0 a1 l2 0 0) else (some (0, t298)))) = some (r1, r2) := h
 clear h
 replace H := Option.bind_eq_some_iff.mp H
 obtain ⟨t298, A40, H⟩ := H
 replace H : (if t298 = 0 then (spec_DensityBound.l0 k a0 a1 l2 0 0) else (some (0, t298))) = some (r1, r2) := H
 have A4 := Aside0.mk A40
 clear A40
 by_cases c5 : t298 = 0
 ·rw [if_pos c5] at H
  have c5b0 : (t298 == 0) = true := beq_iff_eq.mpr c5
  have c5b1 : (t298 != 0) = false := bne_eq_false_iff_eq.mpr c5
  clear c5
  have H' := Aside0.mk H
  clear H
  go_enter Tryd.func31, Tryd.ntmps31
  go_wp2_with (first | (go_at_call 36; (with_reducible refine (spec_l12Code.calls k a0 a1 _ _ l2 t298 _ ?side1 ?side2 A4.out).mono ?_); (case side1 => repeat (first | exact HR2.out | (with_reducible refine Kd.C_alloc ?_ _) | (with_reducible refine Kd.C_drewN ?_ _) | (with_reducible refine Kd.C_drew ?_))); (case side2 => exact HC2.out); rintro e w6 ⟨rfl, hb⟩; have n0_ := Aside0.mk (below_step (by repeat (first | (with_reducible first | exact HB.out | apply below_alloc | apply pw_below_drewN | apply below_drew1) | exact HB.out)) hb); clear HB; have HB := n0_; clear n0_; (try clear hb)))
  repeat (go_quiet (first | (go_at_call 36; (with_reducible refine (spec_l12Code.calls k a0 a1 _ _ l2 t298 _ ?side1 ?side2 A4.out).mono ?_); (case side1 => repeat (first | exact HR2.out | (with_reducible refine Kd.C_alloc ?_ _) | (with_reducible refine Kd.C_drewN ?_ _) | (with_reducible refine Kd.C_drew ?_))); (case side2 => exact HC2.out); rintro e w6 ⟨rfl, hb⟩; have n0_ := Aside0.mk (below_step (by repeat (first | (with_reducible first | exact HB.out | apply below_alloc | apply pw_below_drewN | apply below_drew1) | exact HB.out)) hb); clear HB; have HB := n0_; clear n0_; (try clear hb))); try go_wp2_with (first | (go_at_call 36; (with_reducible refine (spec_l12Code.calls k a0 a1 _ _ l2 t298 _ ?side1 ?side2 A4.out).mono ?_); (case side1 => repeat (first | exact HR2.out | (with_reducible refine Kd.C_alloc ?_ _) | (with_reducible refine Kd.C_drewN ?_ _) | (with_reducible refine Kd.C_drew ?_))); (case side2 => exact HC2.out); rintro e w6 ⟨rfl, hb⟩; have n0_ := Aside0.mk (below_step (by repeat (first | (with_reducible first | exact HB.out | apply below_alloc | apply pw_below_drewN | apply below_drew1) | exact HB.out)) hb); clear HB; have HB := n0_; clear n0_; (try clear hb))))
  go_loopg [9, 10] k (fun kq v9 v10 w' => ∃ (x9_1 : Int) (x10_1 : Int), v9 = .int .i64 x9_1 ∧ v10 = .int .i64 x10_1 ∧ Aside0 (spec_DensityBound.l0 kq a0 a1 l2 x9_1 x10_1 = some (r1, r2)) ∧ Aside0 (kq ≤ k) ∧ Aside0 (Below w.heap.size w w'))
  case atStart => exact ⟨(0), (0), (by first | rfl | (simp; done) | (simp [*]; done)), (by first | rfl | (simp; done) | (simp [*]; done)), H', ⟨Nat.le_refl _⟩, ⟨by repeat (first | (with_reducible first | exact HB.out | apply below_alloc | apply pw_below_drewN | apply below_drew1) | exact HB.out)⟩⟩
  case round =>
   clear H'
   try clear c2
   try clear p2
   try clear c3
   try clear c5
   try clear c5b0
   try clear c5b1
   obtain ⟨x9_1, x10_1, rfl, rfl, HA, HK1, HB⟩ := hrel
   cases gk with
   | zero => exact absurd HA.out (by simp [spec_DensityBound.l0])
   | succ k1 =>
    have H := HA.out
    clear HA
    simp only [spec_DensityBound.l0] at H
    by_cases c7 : x10_1 < (l2.length : Int)
    ·rw [if_pos c7] at H
     have c7b0 : decide (x10_1 < (l2.length : Int)) = true := decide_eq_true c7
     clear c7
     by_cases c8 : 0 ≤ x10_1
     ·rw [if_pos c8] at H
      have c8b0 : decide (0 ≤ x10_1) = true := decide_eq_true c8
      clear c8
      by_cases c9 : (wrap64 (((rd_T50 l2 x10_1).f0) * ((rd_T50 l2 x10_1).f1))) = 0
      ·rw [if_pos c9] at H
       exact absurd H (by simp)
      ·rw [if_neg c9] at H
       have c9b0 : ((wrap64 (((rd_T50 l2 x10_1).f0) * ((rd_T50 l2 x10_1).f1))) == 0) = false := beq_eq_false_iff_ne.mpr c9
       have c9b1 : ((wrap64 (((rd_T50 l2 x10_1).f0) * ((rd_T50 l2 x10_1).f1))) != 0) = true := bne_iff_ne.mpr c9
       obtain ⟨ji10, hji10⟩ : ∃ j_ : Int, (mx x9_1 (wrap64 (Int.tdiv (wrap64 ((wrap64 (a0 * a1)) * ((rd_T50 l2 x10_1).f2))) (wrap64 (((rd_T50 l2 x10_1).f0) * ((rd_T50 l2 x10_1).f1)))))) = j_ := ⟨_, rfl⟩
       replace H : (spec_DensityBound.l0 k1 a0 a1 l2 ji10 (wrap64 (x10_1 + 1))) = some (r1, r2) := by first | (rw [hji10] at H; exact H) | (simp only [hji10] at H ⊢; exact H)
       have hji10_ : (if x9_1 < (wrap64 (Int.tdiv (wrap64 ((wrap64 (a0 * a1)) * ((rd_T50 l2 x10_1).f2))) (wrap64 (((rd_T50 l2 x10_1).f0) * ((rd_T50 l2 x10_1).f1))))) then (wrap64 (Int.tdiv (wrap64 ((wrap64 (a0 * a1)) * ((rd_T50 l2 x10_1).f2))) (wrap64 (((rd_T50 l2 x10_1).f0) * ((rd_T50 l2 x10_1).f1))))) else x9_1) = ji10 := hji10
       have H' := Aside0.mk H
       clear H
       have p299 : 0 ≤ (x10_1 : Int) := of_decide_eq_true (by first | (with_reducible assumption) | assumption)
       have q299 : x10_1 < (l2.length : Int) := of_decide_eq_true (by first | (with_reducible assumption) | assumption)
       obtain ⟨ad299, e299, hx299_0, hx299_1, hx299_2⟩ := at_T50 HR2.out x10_1 p299 q299
       cases e299
       replace hx299_0 := (HB.out.cell (World.block_lt_of_cell? _ _ hx299_0)).trans hx299_0
       replace hx299_1 := (HB.out.cell (World.block_lt_of_cell? _ _ hx299_1)).trans hx299_1
       replace hx299_2 := (HB.out.cell (World.block_lt_of_cell? _ _ hx299_2)).trans hx299_2
       replace p299 := eq_true p299
       replace q299 := eq_true q299
       have p300 : 0 ≤ (x10_1 : Int) := of_decide_eq_true (by first | (with_reducible assumption) | assumption)
       have q300 : x10_1 < (l2.length : Int) := of_decide_eq_true (by first | (with_reducible assumption) | assumption)
       obtain ⟨ad300, e300, hx300_0, hx300_1, hx300_2⟩ := at_T50 HR2.out x10_1 p300 q300
       obtain rfl : ad299 = ad300 := (by injection e300)
       replace hx300_0 := (HB.out.cell (World.block_lt_of_cell? _ _ hx300_0)).trans hx300_0
       replace hx300_1 := (HB.out.cell (World.block_lt_of_cell? _ _ hx300_1)).trans hx300_1
       replace hx300_2 := (HB.out.cell (World.block_lt_of_cell? _ _ hx300_2)).trans hx300_2
       replace p300 := eq_true p300
       replace q300 := eq_true q300
       have p301 : 0 ≤ (x10_1 : Int) := of_decide_eq_true (by first | (with_reducible assumption) | assumption)
       have q301 : x10_1 < (l2.length : Int) := of_decide_eq_true (by first | (with_reducible assumption) | assumption)
       obtain ⟨ad301, e301, hx301_0, hx301_1, hx301_2⟩ := at_T50 HR2.out x10_1 p301 q301
       obtain rfl : ad299 = ad301 := (by injection e301)
       replace hx301_0 := (HB.out.cell (World.block_lt_of_cell? _ _ hx301_0)).trans hx301_0
       replace hx301_1 := (HB.out.cell (World.block_lt_of_cell? _ _ hx301_1)).trans hx301_1
       replace hx301_2 := (HB.out.cell (World.block_lt_of_cell? _ _ hx301_2)).trans hx301_2
       replace p301 := eq_true p301
       replace q301 := eq_true q301
       go_wp2
       repeat (go_quiet (fail); try go_wp2)
       go_roundg k1
       case measure => have := HK1.out; omega
       case rel => exact ⟨(ji10), (wrap64 (x10_1 + 1)), (by first | rfl | (simp; done) | (simp only [← hji10] <;> (first | rfl | simp)) | (simp [*]; done)), (by first | rfl | (simp; done) | (simp [*]; done)), H', ⟨by have := HK1.out; omega⟩, ⟨by repeat (first | (with_reducible first | exact HB.out | apply below_alloc | apply pw_below_drewN | apply below_drew1) | exact HB.out)⟩⟩
     ·rw [if_neg c8] at H
      exact absurd H (by simp)
    ·rw [if_neg c7] at H
     have c7b0 : decide (x10_1 < (l2.length : Int)) = false := decide_eq_false c7
     clear c7
     simp only [Option.some.injEq, Prod.mk.injEq] at H
     obtain ⟨rfl, rfl⟩ := H
     go_wp2
     repeat (go_quiet (fail); try go_wp2)
     go_ret2
     exact ⟨by first | rfl | (simp [errW_none, errW_some] <;> rfl) | (simp [*, errW_none, errW_some] <;> rfl), by repeat (first | (with_reducible first | exact HB.out | apply below_alloc | apply pw_below_drewN | apply below_drew1) | exact HB.out)⟩
 ·rw [if_neg c5] at H
  have c5b0 : (t298 == 0) = false := beq_eq_false_iff_ne.mpr c5
  have c5b1 : (t298 != 0) = true := bne_iff_ne.mpr c5
  simp only [Option.some.injEq, Prod.mk.injEq] at H
  obtain ⟨rfl, rfl⟩ := H
  go_enter Tryd.func31, Tryd.ntmps31
  go_wp2_with (first | (go_at_call 36; (with_reducible refine (spec_l12Code.calls k a0 a1 _ _ l2 t298 _ ?side1 ?side2 A4.out).mono ?_); (case side1 => repeat (first | exact HR2.out | (with_reducible refine Kd.C_alloc ?_ _) | (with_reducible refine Kd.C_drewN ?_ _) | (with_reducible refine Kd.C_drew ?_))); (case side2 => exact HC2.out); rintro e w11 ⟨rfl, hb⟩; have n0_ := Aside0.mk (below_step (by repeat (first | (with_reducible first | exact HB.out | apply below_alloc | apply pw_below_drewN | apply below_drew1) | exact HB.out)) hb); clear HB; have HB := n0_; clear n0_; (try clear hb)))
  repeat (go_quiet (first | (go_at_call 36; (with_reducible refine (spec_l12Code.calls k a0 a1 _ _ l2 t298 _ ?side1 ?side2 A4.out).mono ?_); (case side1 => repeat (first | exact HR2.out | (with_reducible refine Kd.C_alloc ?_ _) | (with_reducible refine Kd.C_drewN ?_ _) | (with_reducible refine Kd.C_drew ?_))); (case side2 => exact HC2.out); rintro e w11 ⟨rfl, hb⟩; have n0_ := Aside0.mk (below_step (by repeat (first | (with_reducible first | exact HB.out | apply below_alloc | apply pw_below_drewN | apply below_drew1) | exact HB.out)) hb); clear HB; have HB := n0_; clear n0_; (try clear hb))); try go_wp2_with (first | (go_at_call 36; (with_reducible refine (spec_l12Code.calls k a0 a1 _ _ l2 t298 _ ?side1 ?side2 A4.out).mono ?_); (case side1 => repeat (first | exact HR2.out | (with_reducible refine Kd.C_alloc ?_ _) | (with_reducible refine Kd.C_drewN ?_ _) | (with_reducible refine Kd.C_drew ?_))); (case side2 => exact HC2.out); rintro e w11 ⟨rfl, hb⟩; have n0_ := Aside0.mk (below_step (by repeat (first | (with_reducible first | exact HB.out | apply below_alloc | apply pw_below_drewN | apply below_drew1) | exact HB.out)) hb); clear HB; have HB := n0_; clear n0_; (try clear hb))))
  go_ret2
  exact ⟨by first | rfl | (simp [errW_none, errW_some] <;> rfl) | (simp [*, errW_none, errW_some] <;> rfl), by repeat (first | (with_reducible first | exact HB.out | apply below_alloc | apply pw_below_drewN | apply below_drew1) | exact HB.out)⟩

def laws_FnBestPlans.j0 : Nat → Int → Int → List (S50) → ByteArray → Int → Int → Int → Int → Bool → Option (Bool)
 | 0, _, _, _, _, _, _, _, _, _ => none
 | k + 1, x3, x4, x5, x6, x7, x10, x15, x20, x141 => if x141 = true then (some false) else (if x7 = 0 then ((impl_PlanValue.f k x3 x4 x5 x6).bind fun bt328 => (if bt328.2 = 0 then (if bt328.1 = x10 then (if x15 ≤ x10 then (some (decide (x10 ≤ x20))) else (some false)) else (some false)) else (some false))) else (some true))
def laws_FnBestPlans.f (k : Nat) (l0 : List Int) : Option (Bool) := (laws_big.f l0).bind fun t302 => (if t302 = true then (some true) else ((spec_DrawBestPlan.f k l0).bind fun bt303 => ((impl_BestPlan.f bt303.1 bt303.2.1 bt303.2.2).bind fun bt308 => ((spec_BestPlan.f k bt303.1 bt303.2.1 bt303.2.2).bind fun bt310 => ((impl_BestValue.f bt303.1 bt303.2.1 bt303.2.2).bind fun bt312 => ((spec_BestValue.f k bt303.1 bt303.2.1 bt303.2.2).bind fun bt314 => ((impl_BestKind.f k bt303.1 bt303.2.1 bt303.2.2).bind fun bt316 => ((spec_BestKind.f k bt303.1 bt303.2.1 bt303.2.2).bind fun bt319 => ((impl_DensityBound.f k bt303.1 bt303.2.1 bt303.2.2).bind fun bt322 => ((spec_DensityBound.f k bt303.1 bt303.2.1 bt303.2.2).bind fun bt324 => (if bt308.2 = bt310.2 then (if bt308.1.toList = bt310.1.toList then (if bt312.2 = bt314.2 then (if bt312.1 = bt314.1 then (if bt316.2.2 = bt319.2.2 then (if bt316.1 = bt319.1 then (if bt316.2.1 = bt319.2.1 then (if bt322.2 = bt324.2 then (if bt322.1 = bt324.1 then ((impl_IsCatalogue.f bt303.2.2).bind fun t326 => ((spec_IsCatalogue.f k bt303.2.2).bind fun t327 => (laws_FnBestPlans.j0 k bt303.1 bt303.2.1 bt303.2.2 bt308.1 bt308.2 bt312.1 bt316.2.1 bt322.1 (t326 != t327)))) else (laws_FnBestPlans.j0 k bt303.1 bt303.2.1 bt303.2.2 bt308.1 bt308.2 bt312.1 bt316.2.1 bt322.1 true)) else (laws_FnBestPlans.j0 k bt303.1 bt303.2.1 bt303.2.2 bt308.1 bt308.2 bt312.1 bt316.2.1 bt322.1 true)) else (laws_FnBestPlans.j0 k bt303.1 bt303.2.1 bt303.2.2 bt308.1 bt308.2 bt312.1 bt316.2.1 bt322.1 true)) else (laws_FnBestPlans.j0 k bt303.1 bt303.2.1 bt303.2.2 bt308.1 bt308.2 bt312.1 bt316.2.1 bt322.1 true)) else (laws_FnBestPlans.j0 k bt303.1 bt303.2.1 bt303.2.2 bt308.1 bt308.2 bt312.1 bt316.2.1 bt322.1 true)) else (laws_FnBestPlans.j0 k bt303.1 bt303.2.1 bt303.2.2 bt308.1 bt308.2 bt312.1 bt316.2.1 bt322.1 true)) else (laws_FnBestPlans.j0 k bt303.1 bt303.2.1 bt303.2.2 bt308.1 bt308.2 bt312.1 bt316.2.1 bt322.1 true)) else (laws_FnBestPlans.j0 k bt303.1 bt303.2.1 bt303.2.2 bt308.1 bt308.2 bt312.1 bt316.2.1 bt322.1 true)) else (laws_FnBestPlans.j0 k bt303.1 bt303.2.1 bt303.2.2 bt308.1 bt308.2 bt312.1 bt316.2.1 bt322.1 true))))))))))))
theorem laws_FnBestPlans.mono_l : ∀ k, (∀ y0 y1 y2 y3 y4 y5 y6 y7 y8, LeO (laws_FnBestPlans.j0 k y0 y1 y2 y3 y4 y5 y6 y7 y8) (laws_FnBestPlans.j0 (k + 1) y0 y1 y2 y3 y4 y5 y6 y7 y8))
 | 0 => fun _ _ _ _ _ _ _ _ _ r h => by simp [laws_FnBestPlans.j0] at h
 | k + 1 => by
  have ih0 := laws_FnBestPlans.mono_l k
  ·intro y0 y1 y2 y3 y4 y5 y6 y7 y8
   unfold laws_FnBestPlans.j0
   repeat' first
   | (with_reducible exact ih0 _ _ _ _ _ _ _ _ _)
   | (with_reducible exact impl_BestKind.mono _ _ _ _)
   | (with_reducible exact impl_DensityBound.mono _ _ _ _)
   | (with_reducible exact impl_PlanValue.mono _ _ _ _ _)
   | (with_reducible exact spec_BestKind.mono _ _ _ _)
   | (with_reducible exact spec_BestPlan.mono _ _ _ _)
   | (with_reducible exact spec_BestValue.mono _ _ _ _)
   | (with_reducible exact spec_DensityBound.mono _ _ _ _)
   | (with_reducible exact spec_DrawBestPlan.mono _ _)
   | (with_reducible exact spec_IsCatalogue.mono _ _)
   | (with_reducible exact LeO.refl _)
   | (with_reducible exact LeO.none _)
   | (with_reducible refine LeO.ite ?_ ?_)
   | (with_reducible refine LeO.bind ?_ (fun _ => ?_))
   | exact ih0 _ _ _ _ _ _ _ _ _
   | exact impl_BestKind.mono _ _ _ _
   | exact impl_DensityBound.mono _ _ _ _
   | exact impl_PlanValue.mono _ _ _ _ _
   | exact spec_BestKind.mono _ _ _ _
   | exact spec_BestPlan.mono _ _ _ _
   | exact spec_BestValue.mono _ _ _ _
   | exact spec_DensityBound.mono _ _ _ _
   | exact spec_DrawBestPlan.mono _ _
   | exact spec_IsCatalogue.mono _ _
   | exact LeO.none _
   | refine LeO.ite ?_ ?_
   | refine LeO.bind ?_ (fun _ => ?_)
theorem laws_FnBestPlans.mono : ∀ a0 k, LeO (laws_FnBestPlans.f k a0) (laws_FnBestPlans.f (k + 1) a0) := by
 intro a0 k
 have ih0 := laws_FnBestPlans.mono_l k
 unfold laws_FnBestPlans.f
 repeat' first
   | (with_reducible exact ih0 _ _ _ _ _ _ _ _ _)
   | (with_reducible exact impl_BestKind.mono _ _ _ _)
   | (with_reducible exact impl_DensityBound.mono _ _ _ _)
   | (with_reducible exact impl_PlanValue.mono _ _ _ _ _)
   | (with_reducible exact spec_BestKind.mono _ _ _ _)
   | (with_reducible exact spec_BestPlan.mono _ _ _ _)
   | (with_reducible exact spec_BestValue.mono _ _ _ _)
   | (with_reducible exact spec_DensityBound.mono _ _ _ _)
   | (with_reducible exact spec_DrawBestPlan.mono _ _)
   | (with_reducible exact spec_IsCatalogue.mono _ _)
   | (with_reducible exact LeO.refl _)
   | (with_reducible exact LeO.none _)
   | (with_reducible refine LeO.ite ?_ ?_)
   | (with_reducible refine LeO.bind ?_ (fun _ => ?_))
   | exact ih0 _ _ _ _ _ _ _ _ _
   | exact impl_BestKind.mono _ _ _ _
   | exact impl_DensityBound.mono _ _ _ _
   | exact impl_PlanValue.mono _ _ _ _ _
   | exact spec_BestKind.mono _ _ _ _
   | exact spec_BestPlan.mono _ _ _ _
   | exact spec_BestValue.mono _ _ _ _
   | exact spec_DensityBound.mono _ _ _ _
   | exact spec_DrawBestPlan.mono _ _
   | exact spec_IsCatalogue.mono _ _
   | exact LeO.none _
   | refine LeO.ite ?_ ?_
   | refine LeO.bind ?_ (fun _ => ?_)
theorem laws_FnBestPlans.j0_no {k : Nat} {y0 : Int} {y1 : Int} {y2 : List (S50)} {y3 : ByteArray} {y4 : Int} {y5 : Int} {y6 : Int} {y7 : Int} {r : Bool} (h : laws_FnBestPlans.j0 k y0 y1 y2 y3 y4 y5 y6 y7 true = some r) (hr : r = true) : False := by
 cases k with
 | zero => cases h
 | succ k => rw [laws_FnBestPlans.j0, if_pos rfl] at h; exact absurd ((Option.some.inj h).trans hr) (by decide)
set_option maxHeartbeats 8000000 in
set_option maxRecDepth 100000 in
theorem laws_FnBestPlans.calls (k : Nat) (A0 : Option Addr) (c0 : Nat) (l0 : List Int) (r : Bool) (w : World) (hT_ : TabL w) (hr0 : Kd.C (Kd.int .u8) w A0 l0.length l0) (hc0 : l0.length ≤ c0) (hr_ : Aside0 (r = true)) (h : laws_FnBestPlans.f k l0 = some r) :
  Calls Tryd.prog 7 #[.slice A0 l0.length c0] w fun e w' => e = .returned (.bool r) ∧ Below w.heap.size w w' := by
 have HR0 := Aside0.mk hr0
 have HC0 := Aside0.mk hc0
 clear hr0 hc0
 have HTL_ := Aside0.mk hT_
 clear hT_
 have HB := Aside0.mk (Below.refl w.heap.size w)
 have H : ((laws_big.f l0).bind fun t302 => (if t302 = true then (some true) else ((spec_DrawBestPlan.f k l0).bind fun bt303 => ((impl_BestPlan.f bt303.1 bt303.2.1 bt303.2.2).bind fun bt308 => ((spec_BestPlan.f k bt303.1 bt303.2.1 bt303.2.2).bind fun bt310 => ((impl_BestValue.f bt303.1 bt303.2.1 bt303.2.2).bind fun bt312 => ((spec_BestValue.f k bt303.1 bt303.2.1 bt303.2.2).bind fun bt314 => ((impl_BestKind.f k bt303.1 bt303.2.1 bt303.2.2).bind fun bt316 => ((spec_BestKind.f k bt303.1 bt303.2.1 bt303.2.2).bind fun bt319 => ((impl_DensityBound.f k bt303.1 bt303.2.1 bt303.2.2).bind fun bt322 => ((spec_DensityBound.f k bt303.1 bt303.2.1 bt303.2.2).bind fun bt324 => (if bt308.2 = bt310.2 then (if bt308.1.toList = bt310.1.toList then (if bt312.2 = bt314.2 then (if bt312.1 = bt314.1 then (if bt316.2.2 = bt319.2.2 then (if bt316.1 = bt319.1 then (if bt316.2.1 = bt319.2.1 then (if bt322.2 = bt324.2 then (if bt322.1 = bt324.1 then ((impl_IsCatalogue.f bt303.2.2).bind fun t326 => ((spec_IsCatalogue.f k bt303.2.2).bind fun t327 => (laws_FnBestPlans.j0 k bt303.1 bt303.2.1 bt303.2.2 bt308.1 bt308.2 bt312.1 bt316.2.1 bt322.1 (t326 != t327)))) else (laws_FnBestPlans.j0 k bt303.1 bt303.2.1 bt303.2.2 bt308.1 bt308.2 bt312.1 bt316.2.1 bt322.1 true)) else (laws_FnBestPlans.j0 k bt303.1 bt303.2.1 bt303.2.2 bt308.1 bt308.2 bt312.1 bt316.2.1 bt322.1 true)) else (laws_FnBestPlans.j0 k bt303.1 bt303.2.1 bt303.2.2 bt308.1 bt308.2 bt312.1 bt316.2.1 bt322.1 true)) else (laws_FnBestPlans.j0 k bt303.1 bt303.2.1 bt303.2.2 bt308.1 bt308.2 bt312.1 bt316.2.1 bt322.1 true)) else (laws_FnBestPlans.j0 k bt303.1 bt303.2.1 bt303.2.2 bt308.1 bt308.2 bt312.1 bt316.2.1 bt322.1 true)) else (laws_FnBestPlans.j0 k bt303.1 bt303.2.1 bt303.2.2 bt308.1 bt308.2 bt312.1 bt316.2.1 bt322.1 true)) else (laws_FnBestPlans.j0 k bt303.1 bt303.2.1 bt303.2.2 bt308.1 bt308.2 bt312.1 bt316.2.1 bt322.1 true)) else (laws_FnBestPlans.j0 k bt303.1 bt303.2.1 bt303.2.2 bt308.1 bt308.2 bt312.1 bt316.2.1 bt322.1 true)) else (laws_FnBestPlans.j0 k bt303.1 bt303.2.1 bt303.2.2 bt308.1 bt308.2 bt312.1 bt316.2.1 bt322.1 true))))))))))))) = some r := h
 clear h
 replace H := Option.bind_eq_some_iff.mp H
 obtain ⟨t302, A20, H⟩ := H
 replace H : (if t302 = true then (some true) else ((spec_DrawBestPlan.f k l0).bind fun bt303 => ((impl_BestPlan.f bt303.1 bt303.2.1 bt303.2.2).bind fun bt308 => ((spec_BestPlan.f k bt303.1 bt303.2.1 bt303.2.2).bind fun bt310 => ((impl_BestValue.f bt303.1 bt303.2.1 bt303.2.2).bind fun bt312 => ((spec_BestValue.f k bt303.1 bt303.2.1 bt303.2.2).bind fun bt314 => ((impl_BestKind.f k bt303.1 bt303.2.1 bt303.2.2).bind fun bt316 => ((spec_BestKind.f k bt303.1 bt303.2.1 bt303.2.2).bind fun bt319 => ((impl_DensityBound.f k bt303.1 bt303.2.1 bt303.2.2).bind fun bt322 => ((spec_DensityBound.f k bt303.1 bt303.2.1 bt303.2.2).bind fun bt324 => (if bt308.2 = bt310.2 then (if bt308.1.toList = bt310.1.toList then (if bt312.2 = bt314.2 then (if bt312.1 = bt314.1 then (if bt316.2.2 = bt319.2.2 then (if bt316.1 = bt319.1 then (if bt316.2.1 = bt319.2.1 then (if bt322.2 = bt324.2 then (if bt322.1 = bt324.1 then ((impl_IsCatalogue.f bt303.2.2).bind fun t326 => ((spec_IsCatalogue.f k bt303.2.2).bind fun t327 => (laws_FnBestPlans.j0 k bt303.1 bt303.2.1 bt303.2.2 bt308.1 bt308.2 bt312.1 bt316.2.1 bt322.1 (t326 != t327)))) else (laws_FnBestPlans.j0 k bt303.1 bt303.2.1 bt303.2.2 bt308.1 bt308.2 bt312.1 bt316.2.1 bt322.1 true)) else (laws_FnBestPlans.j0 k bt303.1 bt303.2.1 bt303.2.2 bt308.1 bt308.2 bt312.1 bt316.2.1 bt322.1 true)) else (laws_FnBestPlans.j0 k bt303.1 bt303.2.1 bt303.2.2 bt308.1 bt308.2 bt312.1 bt316.2.1 bt322.1 true)) else (laws_FnBestPlans.j0 k bt303.1 bt303.2.1 bt303.2.2 bt308.1 bt308.2 bt312.1 bt316.2.1 bt322.1 true)) else (laws_FnBestPlans.j0 k bt303.1 bt303.2.1 bt303.2.2 bt308.1 bt308.2 bt312.1 bt316.2.1 bt322.1 true)) else (laws_FnBestPlans.j0 k bt303.1 bt303.2.1 bt303.2.2 bt308.1 bt308.2 bt312.1 bt316.2.1 bt322.1 true)) else (laws_FnBestPlans.j0 k bt303.1 bt303.2.1 bt303.2.2 bt308.1 bt308.2 bt312.1 bt316.2.1 bt322.1 true)) else (laws_FnBestPlans.j0 k bt303.1 bt303.2.1 bt303.2.2 bt308.1 bt308.2 bt312.1 bt316.2.1 bt322.1 true)) else (laws_FnBestPlans.j0 k bt303.1 bt303.2.1 bt303.2.2 bt308.1 bt308.2 bt312.1 bt316.2.1 bt322.1 true)))))))))))) = some r := H
 have A2 := Aside0.mk A20
 clear A20
 by_cases c3 : t302 = true
 ·subst c3
  have H1 : (some true) = some r := by rw [if_pos rfl] at H; exact H
  clear H
  have H := H1
  clear H1
  obtain rfl := Option.some.inj H
  go_enter Tryd.func7, Tryd.ntmps7
  go_wp2_with (first | ((with_reducible refine gate_callee (f := 24) rfl ?_); refine goesL_ (some 27) rfl rfl Tryd.func24 (by kernel_rfl) rfl #[.slice A0 l0.length c0] rfl (by (try simp only [List.map_toArray, List.map_cons, List.map_nil]); first | done | rfl | (simp only [List.length_drop, List.length_take]; rfl)) ?_; (with_reducible refine (laws_big.calls _ _ l0 true _ ?side1 ?side2 A2.out).mono ?_); (case side1 => repeat (first | exact HR0.out | (with_reducible refine Kd.C_alloc ?_ _) | (with_reducible refine Kd.C_drewN ?_ _) | (with_reducible refine Kd.C_drew ?_))); (case side2 => exact HC0.out); rintro e w' ⟨rfl, ⟨nd, rfl⟩⟩; refine ⟨_, rfl, ?_⟩))
  go_ret
  exact ⟨by first | rfl | (simp [errW_none, errW_some] <;> rfl) | (simp [*, errW_none, errW_some] <;> rfl), by repeat (first | (with_reducible first | exact HB.out | apply below_alloc | apply pw_below_drewN | apply below_drew1) | exact HB.out)⟩
 ·replace c3 := Bool.eq_false_iff.mpr c3
  subst c3
  have H1 : ((spec_DrawBestPlan.f k l0).bind fun bt303 => ((impl_BestPlan.f bt303.1 bt303.2.1 bt303.2.2).bind fun bt308 => ((spec_BestPlan.f k bt303.1 bt303.2.1 bt303.2.2).bind fun bt310 => ((impl_BestValue.f bt303.1 bt303.2.1 bt303.2.2).bind fun bt312 => ((spec_BestValue.f k bt303.1 bt303.2.1 bt303.2.2).bind fun bt314 => ((impl_BestKind.f k bt303.1 bt303.2.1 bt303.2.2).bind fun bt316 => ((spec_BestKind.f k bt303.1 bt303.2.1 bt303.2.2).bind fun bt319 => ((impl_DensityBound.f k bt303.1 bt303.2.1 bt303.2.2).bind fun bt322 => ((spec_DensityBound.f k bt303.1 bt303.2.1 bt303.2.2).bind fun bt324 => (if bt308.2 = bt310.2 then (if bt308.1.toList = bt310.1.toList then (if bt312.2 = bt314.2 then (if bt312.1 = bt314.1 then (if bt316.2.2 = bt319.2.2 then (if bt316.1 = bt319.1 then (if bt316.2.1 = bt319.2.1 then (if bt322.2 = bt324.2 then (if bt322.1 = bt324.1 then ((impl_IsCatalogue.f bt303.2.2).bind fun t326 => ((spec_IsCatalogue.f k bt303.2.2).bind fun t327 => (laws_FnBestPlans.j0 k bt303.1 bt303.2.1 bt303.2.2 bt308.1 bt308.2 bt312.1 bt316.2.1 bt322.1 (t326 != t327)))) else (laws_FnBestPlans.j0 k bt303.1 bt303.2.1 bt303.2.2 bt308.1 bt308.2 bt312.1 bt316.2.1 bt322.1 true)) else (laws_FnBestPlans.j0 k bt303.1 bt303.2.1 bt303.2.2 bt308.1 bt308.2 bt312.1 bt316.2.1 bt322.1 true)) else (laws_FnBestPlans.j0 k bt303.1 bt303.2.1 bt303.2.2 bt308.1 bt308.2 bt312.1 bt316.2.1 bt322.1 true)) else (laws_FnBestPlans.j0 k bt303.1 bt303.2.1 bt303.2.2 bt308.1 bt308.2 bt312.1 bt316.2.1 bt322.1 true)) else (laws_FnBestPlans.j0 k bt303.1 bt303.2.1 bt303.2.2 bt308.1 bt308.2 bt312.1 bt316.2.1 bt322.1 true)) else (laws_FnBestPlans.j0 k bt303.1 bt303.2.1 bt303.2.2 bt308.1 bt308.2 bt312.1 bt316.2.1 bt322.1 true)) else (laws_FnBestPlans.j0 k bt303.1 bt303.2.1 bt303.2.2 bt308.1 bt308.2 bt312.1 bt316.2.1 bt322.1 true)) else (laws_FnBestPlans.j0 k bt303.1 bt303.2.1 bt303.2.2 bt308.1 bt308.2 bt312.1 bt316.2.1 bt322.1 true)) else (laws_FnBestPlans.j0 k bt303.1 bt303.2.1 bt303.2.2 bt308.1 bt308.2 bt312.1 bt316.2.1 bt322.1 true))))))))))) = some r := by rw [if_neg (show ¬ (false = true) by decide)] at H; exact H
  clear H
  have H := H1
  clear H1
  replace H := Option.bind_eq_some_iff.mp H
  obtain ⟨⟨t303, t304, t305⟩, A40, H⟩ := H
  replace H : ((impl_BestPlan.f t303 t304 t305).bind fun bt308 => ((spec_BestPlan.f k t303 t304 t305).bind fun bt310 => ((impl_BestValue.f t303 t304 t305).bind fun bt312 => ((spec_BestValue.f k t303 t304 t305).bind fun bt314 => ((impl_BestKind.f k t303 t304 t305).bind fun bt316 => ((spec_BestKind.f k t303 t304 t305).bind fun bt319 => ((impl_DensityBound.f k t303 t304 t305).bind fun bt322 => ((spec_DensityBound.f k t303 t304 t305).bind fun bt324 => (if bt308.2 = bt310.2 then (if bt308.1.toList = bt310.1.toList then (if bt312.2 = bt314.2 then (if bt312.1 = bt314.1 then (if bt316.2.2 = bt319.2.2 then (if bt316.1 = bt319.1 then (if bt316.2.1 = bt319.2.1 then (if bt322.2 = bt324.2 then (if bt322.1 = bt324.1 then ((impl_IsCatalogue.f t305).bind fun t326 => ((spec_IsCatalogue.f k t305).bind fun t327 => (laws_FnBestPlans.j0 k t303 t304 t305 bt308.1 bt308.2 bt312.1 bt316.2.1 bt322.1 (t326 != t327)))) else (laws_FnBestPlans.j0 k t303 t304 t305 bt308.1 bt308.2 bt312.1 bt316.2.1 bt322.1 true)) else (laws_FnBestPlans.j0 k t303 t304 t305 bt308.1 bt308.2 bt312.1 bt316.2.1 bt322.1 true)) else (laws_FnBestPlans.j0 k t303 t304 t305 bt308.1 bt308.2 bt312.1 bt316.2.1 bt322.1 true)) else (laws_FnBestPlans.j0 k t303 t304 t305 bt308.1 bt308.2 bt312.1 bt316.2.1 bt322.1 true)) else (laws_FnBestPlans.j0 k t303 t304 t305 bt308.1 bt308.2 bt312.1 bt316.2.1 bt322.1 true)) else (laws_FnBestPlans.j0 k t303 t304 t305 bt308.1 bt308.2 bt312.1 bt316.2.1 bt322.1 true)) else (laws_FnBestPlans.j0 k t303 t304 t305 bt308.1 bt308.2 bt312.1 bt316.2.1 bt322.1 true)) else (laws_FnBestPlans.j0 k t303 t304 t305 bt308.1 bt308.2 bt312.1 bt316.2.1 bt322.1 true)) else (laws_FnBestPlans.j0 k t303 t304 t305 bt308.1 bt308.2 bt312.1 bt316.2.1 bt322.1 true)))))))))) = some r := H
  have A4 := Aside0.mk A40
  clear A40
  replace H := Option.bind_eq_some_iff.mp H
  obtain ⟨⟨t308, t309⟩, A50, H⟩ := H
  replace H : ((spec_BestPlan.f k t303 t304 t305).bind fun bt310 => ((impl_BestValue.f t303 t304 t305).bind fun bt312 => ((spec_BestValue.f k t303 t304 t305).bind fun bt314 => ((impl_BestKind.f k t303 t304 t305).bind fun bt316 => ((spec_BestKind.f k t303 t304 t305).bind fun bt319 => ((impl_DensityBound.f k t303 t304 t305).bind fun bt322 => ((spec_DensityBound.f k t303 t304 t305).bind fun bt324 => (if t309 = bt310.2 then (if t308.toList = bt310.1.toList then (if bt312.2 = bt314.2 then (if bt312.1 = bt314.1 then (if bt316.2.2 = bt319.2.2 then (if bt316.1 = bt319.1 then (if bt316.2.1 = bt319.2.1 then (if bt322.2 = bt324.2 then (if bt322.1 = bt324.1 then ((impl_IsCatalogue.f t305).bind fun t326 => ((spec_IsCatalogue.f k t305).bind fun t327 => (laws_FnBestPlans.j0 k t303 t304 t305 t308 t309 bt312.1 bt316.2.1 bt322.1 (t326 != t327)))) else (laws_FnBestPlans.j0 k t303 t304 t305 t308 t309 bt312.1 bt316.2.1 bt322.1 true)) else (laws_FnBestPlans.j0 k t303 t304 t305 t308 t309 bt312.1 bt316.2.1 bt322.1 true)) else (laws_FnBestPlans.j0 k t303 t304 t305 t308 t309 bt312.1 bt316.2.1 bt322.1 true)) else (laws_FnBestPlans.j0 k t303 t304 t305 t308 t309 bt312.1 bt316.2.1 bt322.1 true)) else (laws_FnBestPlans.j0 k t303 t304 t305 t308 t309 bt312.1 bt316.2.1 bt322.1 true)) else (laws_FnBestPlans.j0 k t303 t304 t305 t308 t309 bt312.1 bt316.2.1 bt322.1 true)) else (laws_FnBestPlans.j0 k t303 t304 t305 t308 t309 bt312.1 bt316.2.1 bt322.1 true)) else (laws_FnBestPlans.j0 k t303 t304 t305 t308 t309 bt312.1 bt316.2.1 bt322.1 true)) else (laws_FnBestPlans.j0 k t303 t304 t305 t308 t309 bt312.1 bt316.2.1 bt322.1 true))))))))) = some r := H
  have A5 := Aside0.mk A50
  clear A50
  replace H := Option.bind_eq_some_iff.mp H
  obtain ⟨⟨t310, t311⟩, A60, H⟩ := H
  replace H : ((impl_BestValue.f t303 t304 t305).bind fun bt312 => ((spec_BestValue.f k t303 t304 t305).bind fun bt314 => ((impl_BestKind.f k t303 t304 t305).bind fun bt316 => ((spec_BestKind.f k t303 t304 t305).bind fun bt319 => ((impl_DensityBound.f k t303 t304 t305).bind fun bt322 => ((spec_DensityBound.f k t303 t304 t305).bind fun bt324 => (if t309 = t311 then (if t308.toList = t310.toList then (if bt312.2 = bt314.2 then (if bt312.1 = bt314.1 then (if bt316.2.2 = bt319.2.2 then (if bt316.1 = bt319.1 then (if bt316.2.1 = bt319.2.1 then (if bt322.2 = bt324.2 then (if bt322.1 = bt324.1 then ((impl_IsCatalogue.f t305).bind fun t326 => ((spec_IsCatalogue.f k t305).bind fun t327 => (laws_FnBestPlans.j0 k t303 t304 t305 t308 t309 bt312.1 bt316.2.1 bt322.1 (t326 != t327)))) else (laws_FnBestPlans.j0 k t303 t304 t305 t308 t309 bt312.1 bt316.2.1 bt322.1 true)) else (laws_FnBestPlans.j0 k t303 t304 t305 t308 t309 bt312.1 bt316.2.1 bt322.1 true)) else (laws_FnBestPlans.j0 k t303 t304 t305 t308 t309 bt312.1 bt316.2.1 bt322.1 true)) else (laws_FnBestPlans.j0 k t303 t304 t305 t308 t309 bt312.1 bt316.2.1 bt322.1 true)) else (laws_FnBestPlans.j0 k t303 t304 t305 t308 t309 bt312.1 bt316.2.1 bt322.1 true)) else (laws_FnBestPlans.j0 k t303 t304 t305 t308 t309 bt312.1 bt316.2.1 bt322.1 true)) else (laws_FnBestPlans.j0 k t303 t304 t305 t308 t309 bt312.1 bt316.2.1 bt322.1 true)) else (laws_FnBestPlans.j0 k t303 t304 t305 t308 t309 bt312.1 bt316.2.1 bt322.1 true)) else (laws_FnBestPlans.j0 k t303 t304 t305 t308 t309 bt312.1 bt316.2.1 bt322.1 true)))))))) = some r := H
  have A6 := Aside0.mk A60
  clear A60
  replace H := Option.bind_eq_some_iff.mp H
  obtain ⟨⟨t312, t313⟩, A70, H⟩ := H
  replace H : ((spec_BestValue.f k t303 t304 t305).bind fun bt314 => ((impl_BestKind.f k t303 t304 t305).bind fun bt316 => ((spec_BestKind.f k t303 t304 t305).bind fun bt319 => ((impl_DensityBound.f k t303 t304 t305).bind fun bt322 => ((spec_DensityBound.f k t303 t304 t305).bind fun bt324 => (if t309 = t311 then (if t308.toList = t310.toList then (if t313 = bt314.2 then (if t312 = bt314.1 then (if bt316.2.2 = bt319.2.2 then (if bt316.1 = bt319.1 then (if bt316.2.1 = bt319.2.1 then (if bt322.2 = bt324.2 then (if bt322.1 = bt324.1 then ((impl_IsCatalogue.f t305).bind fun t326 => ((spec_IsCatalogue.f k t305).bind fun t327 => (laws_FnBestPlans.j0 k t303 t304 t305 t308 t309 t312 bt316.2.1 bt322.1 (t326 != t327)))) else (laws_FnBestPlans.j0 k t303 t304 t305 t308 t309 t312 bt316.2.1 bt322.1 true)) else (laws_FnBestPlans.j0 k t303 t304 t305 t308 t309 t312 bt316.2.1 bt322.1 true)) else (laws_FnBestPlans.j0 k t303 t304 t305 t308 t309 t312 bt316.2.1 bt322.1 true)) else (laws_FnBestPlans.j0 k t303 t304 t305 t308 t309 t312 bt316.2.1 bt322.1 true)) else (laws_FnBestPlans.j0 k t303 t304 t305 t308 t309 t312 bt316.2.1 bt322.1 true)) else (laws_FnBestPlans.j0 k t303 t304 t305 t308 t309 t312 bt316.2.1 bt322.1 true)) else (laws_FnBestPlans.j0 k t303 t304 t305 t308 t309 t312 bt316.2.1 bt322.1 true)) else (laws_FnBestPlans.j0 k t303 t304 t305 t308 t309 t312 bt316.2.1 bt322.1 true)) else (laws_FnBestPlans.j0 k t303 t304 t305 t308 t309 t312 bt316.2.1 bt322.1 true))))))) = some r := H
  have A7 := Aside0.mk A70
  clear A70
  replace H := Option.bind_eq_some_iff.mp H
  obtain ⟨⟨t314, t315⟩, A80, H⟩ := H
  replace H : ((impl_BestKind.f k t303 t304 t305).bind fun bt316 => ((spec_BestKind.f k t303 t304 t305).bind fun bt319 => ((impl_DensityBound.f k t303 t304 t305).bind fun bt322 => ((spec_DensityBound.f k t303 t304 t305).bind fun bt324 => (if t309 = t311 then (if t308.toList = t310.toList then (if t313 = t315 then (if t312 = t314 then (if bt316.2.2 = bt319.2.2 then (if bt316.1 = bt319.1 then (if bt316.2.1 = bt319.2.1 then (if bt322.2 = bt324.2 then (if bt322.1 = bt324.1 then ((impl_IsCatalogue.f t305).bind fun t326 => ((spec_IsCatalogue.f k t305).bind fun t327 => (laws_FnBestPlans.j0 k t303 t304 t305 t308 t309 t312 bt316.2.1 bt322.1 (t326 != t327)))) else (laws_FnBestPlans.j0 k t303 t304 t305 t308 t309 t312 bt316.2.1 bt322.1 true)) else (laws_FnBestPlans.j0 k t303 t304 t305 t308 t309 t312 bt316.2.1 bt322.1 true)) else (laws_FnBestPlans.j0 k t303 t304 t305 t308 t309 t312 bt316.2.1 bt322.1 true)) else (laws_FnBestPlans.j0 k t303 t304 t305 t308 t309 t312 bt316.2.1 bt322.1 true)) else (laws_FnBestPlans.j0 k t303 t304 t305 t308 t309 t312 bt316.2.1 bt322.1 true)) else (laws_FnBestPlans.j0 k t303 t304 t305 t308 t309 t312 bt316.2.1 bt322.1 true)) else (laws_FnBestPlans.j0 k t303 t304 t305 t308 t309 t312 bt316.2.1 bt322.1 true)) else (laws_FnBestPlans.j0 k t303 t304 t305 t308 t309 t312 bt316.2.1 bt322.1 true)) else (laws_FnBestPlans.j0 k t303 t304 t305 t308 t309 t312 bt316.2.1 bt322.1 true)))))) = some r := H
  have A8 := Aside0.mk A80
  clear A80
  replace H := Option.bind_eq_some_iff.mp H
  obtain ⟨⟨t316, t317, t318⟩, A90, H⟩ := H
  replace H : ((spec_BestKind.f k t303 t304 t305).bind fun bt319 => ((impl_DensityBound.f k t303 t304 t305).bind fun bt322 => ((spec_DensityBound.f k t303 t304 t305).bind fun bt324 => (if t309 = t311 then (if t308.toList = t310.toList then (if t313 = t315 then (if t312 = t314 then (if t318 = bt319.2.2 then (if t316 = bt319.1 then (if t317 = bt319.2.1 then (if bt322.2 = bt324.2 then (if bt322.1 = bt324.1 then ((impl_IsCatalogue.f t305).bind fun t326 => ((spec_IsCatalogue.f k t305).bind fun t327 => (laws_FnBestPlans.j0 k t303 t304 t305 t308 t309 t312 t317 bt322.1 (t326 != t327)))) else (laws_FnBestPlans.j0 k t303 t304 t305 t308 t309 t312 t317 bt322.1 true)) else (laws_FnBestPlans.j0 k t303 t304 t305 t308 t309 t312 t317 bt322.1 true)) else (laws_FnBestPlans.j0 k t303 t304 t305 t308 t309 t312 t317 bt322.1 true)) else (laws_FnBestPlans.j0 k t303 t304 t305 t308 t309 t312 t317 bt322.1 true)) else (laws_FnBestPlans.j0 k t303 t304 t305 t308 t309 t312 t317 bt322.1 true)) else (laws_FnBestPlans.j0 k t303 t304 t305 t308 t309 t312 t317 bt322.1 true)) else (laws_FnBestPlans.j0 k t303 t304 t305 t308 t309 t312 t317 bt322.1 true)) else (laws_FnBestPlans.j0 k t303 t304 t305 t308 t309 t312 t317 bt322.1 true)) else (laws_FnBestPlans.j0 k t303 t304 t305 t308 t309 t312 t317 bt322.1 true))))) = some r := H
  have A9 := Aside0.mk A90
  clear A90
  replace H := Option.bind_eq_some_iff.mp H
  obtain ⟨⟨t319, t320, t321⟩, A100, H⟩ := H
  replace H : ((impl_DensityBound.f k t303 t304 t305).bind fun bt322 => ((spec_DensityBound.f k t303 t304 t305).bind fun bt324 => (if t309 = t311 then (if t308.toList = t310.toList then (if t313 = t315 then (if t312 = t314 then (if t318 = t321 then (if t316 = t319 then (if t317 = t320 then (if bt322.2 = bt324.2 then (if bt322.1 = bt324.1 then ((impl_IsCatalogue.f t305).bind fun t326 => ((spec_IsCatalogue.f k t305).bind fun t327 => (laws_FnBestPlans.j0 k t303 t304 t305 t308 t309 t312 t317 bt322.1 (t326 != t327)))) else (laws_FnBestPlans.j0 k t303 t304 t305 t308 t309 t312 t317 bt322.1 true)) else (laws_FnBestPlans.j0 k t303 t304 t305 t308 t309 t312 t317 bt322.1 true)) else (laws_FnBestPlans.j0 k t303 t304 t305 t308 t309 t312 t317 bt322.1 true)) else (laws_FnBestPlans.j0 k t303 t304 t305 t308 t309 t312 t317 bt322.1 true)) else (laws_FnBestPlans.j0 k t303 t304 t305 t308 t309 t312 t317 bt322.1 true)) else (laws_FnBestPlans.j0 k t303 t304 t305 t308 t309 t312 t317 bt322.1 true)) else (laws_FnBestPlans.j0 k t303 t304 t305 t308 t309 t312 t317 bt322.1 true)) else (laws_FnBestPlans.j0 k t303 t304 t305 t308 t309 t312 t317 bt322.1 true)) else (laws_FnBestPlans.j0 k t303 t304 t305 t308 t309 t312 t317 bt322.1 true)))) = some r := H
  have A10 := Aside0.mk A100
  clear A100
  replace H := Option.bind_eq_some_iff.mp H
  obtain ⟨⟨t322, t323⟩, A110, H⟩ := H
  replace H : ((spec_DensityBound.f k t303 t304 t305).bind fun bt324 => (if t309 = t311 then (if t308.toList = t310.toList then (if t313 = t315 then (if t312 = t314 then (if t318 = t321 then (if t316 = t319 then (if t317 = t320 then (if t323 = bt324.2 then (if t322 = bt324.1 then ((impl_IsCatalogue.f t305).bind fun t326 => ((spec_IsCatalogue.f k t305).bind fun t327 => (laws_FnBestPlans.j0 k t303 t304 t305 t308 t309 t312 t317 t322 (t326 != t327)))) else (laws_FnBestPlans.j0 k t303 t304 t305 t308 t309 t312 t317 t322 true)) else (laws_FnBestPlans.j0 k t303 t304 t305 t308 t309 t312 t317 t322 true)) else (laws_FnBestPlans.j0 k t303 t304 t305 t308 t309 t312 t317 t322 true)) else (laws_FnBestPlans.j0 k t303 t304 t305 t308 t309 t312 t317 t322 true)) else (laws_FnBestPlans.j0 k t303 t304 t305 t308 t309 t312 t317 t322 true)) else (laws_FnBestPlans.j0 k t303 t304 t305 t308 t309 t312 t317 t322 true)) else (laws_FnBestPlans.j0 k t303 t304 t305 t308 t309 t312 t317 t322 true)) else (laws_FnBestPlans.j0 k t303 t304 t305 t308 t309 t312 t317 t322 true)) else (laws_FnBestPlans.j0 k t303 t304 t305 t308 t309 t312 t317 t322 true))) = some r := H
  have A11 := Aside0.mk A110
  clear A110
  replace H := Option.bind_eq_some_iff.mp H
  obtain ⟨⟨t324, t325⟩, A120, H⟩ := H
  replace H : (if t309 = t311 then (if t308.toList = t310.toList then (if t313 = t315 then (if t312 = t314 then (if t318 = t321 then (if t316 = t319 then (if t317 = t320 then (if t323 = t325 then (if t322 = t324 then ((impl_IsCatalogue.f t305).bind fun t326 => ((spec_IsCatalogue.f k t305).bind fun t327 => (laws_FnBestPlans.j0 k t303 t304 t305 t308 t309 t312 t317 t322 (t326 != t327)))) else (laws_FnBestPlans.j0 k t303 t304 t305 t308 t309 t312 t317 t322 true)) else (laws_FnBestPlans.j0 k t303 t304 t305 t308 t309 t312 t317 t322 true)) else (laws_FnBestPlans.j0 k t303 t304 t305 t308 t309 t312 t317 t322 true)) else (laws_FnBestPlans.j0 k t303 t304 t305 t308 t309 t312 t317 t322 true)) else (laws_FnBestPlans.j0 k t303 t304 t305 t308 t309 t312 t317 t322 true)) else (laws_FnBestPlans.j0 k t303 t304 t305 t308 t309 t312 t317 t322 true)) else (laws_FnBestPlans.j0 k t303 t304 t305 t308 t309 t312 t317 t322 true)) else (laws_FnBestPlans.j0 k t303 t304 t305 t308 t309 t312 t317 t322 true)) else (laws_FnBestPlans.j0 k t303 t304 t305 t308 t309 t312 t317 t322 true)) = some r := H
  have A12 := Aside0.mk A120
  clear A120
  have HC13 := Aside0.mk H
  clear H
  go_enter Tryd.func7, Tryd.ntmps7
  go_upto_region 12 with (first | ((with_reducible refine gate_callee (f := 24) rfl ?_); refine goesL_ (some 27) rfl rfl Tryd.func24 (by kernel_rfl) rfl #[.slice A0 l0.length c0] rfl (by (try simp only [List.map_toArray, List.map_cons, List.map_nil]); first | done | rfl | (simp only [List.length_drop, List.length_take]; rfl)) ?_; (with_reducible refine (laws_big.calls _ _ l0 false _ ?side1 ?side2 A2.out).mono ?_); (case side1 => repeat (first | exact HR0.out | (with_reducible refine Kd.C_alloc ?_ _) | (with_reducible refine Kd.C_drewN ?_ _) | (with_reducible refine Kd.C_drew ?_))); (case side2 => exact HC0.out); rintro e w' ⟨rfl, ⟨nd, rfl⟩⟩; refine ⟨_, rfl, ?_⟩) | ((with_reducible refine gate_callee (f := 25) rfl ?_); refine goesL_ (some 30) rfl rfl Tryd.func25 (by kernel_rfl) rfl #[.slice A0 l0.length c0] rfl (by (try simp only [List.map_toArray, List.map_cons, List.map_nil]); first | done | rfl | (simp only [List.length_drop, List.length_take]; rfl)) ?_; (with_reducible refine (spec_DrawBestPlan.calls k _ _ l0 t303 t304 t305 _ ?side1 ?side2 A4.out).mono ?_); (case side1 => repeat (first | exact HR0.out | (with_reducible refine Kd.C_alloc ?_ _) | (with_reducible refine Kd.C_drewN ?_ _) | (with_reducible refine Kd.C_drew ?_))); (case side2 => exact HC0.out); rintro e w14 ⟨v306, rfl, ho0, hb⟩; refine ⟨_, rfl, ?_⟩; have n0_ := Aside0.mk (Kd.R_lower ho0 (below_size (by repeat (first | (with_reducible first | exact HB.out | apply below_alloc | apply pw_below_drewN | apply below_drew1) | exact HB.out)))); have n1_ := Aside0.mk (below_step (by repeat (first | (with_reducible first | exact HB.out | apply below_alloc | apply pw_below_drewN | apply below_drew1) | exact HB.out)) hb); clear HB; have HO307 := n0_; have HB := n1_; clear n0_ n1_; (try clear hb); (try clear ho0); obtain ⟨Ao15, co15, eo15⟩ := Kd.R_slice HO307.out; subst eo15) | ((with_reducible refine gate_callee (f := 19) rfl ?_); refine goesL_ (some 38) rfl rfl Tryd.func19 (by kernel_rfl) rfl #[.int .i64 t303, .int .i64 t304, .slice Ao15 t305.length co15] rfl (by (try simp only [List.map_toArray, List.map_cons, List.map_nil]); first | done | rfl | (simp only [List.length_drop, List.length_take]; rfl)) ?_; (with_reducible refine (impl_BestPlan.calls t303 t304 _ _ t305 t308 t309 _ ?side1 ?side2 ?side3 A5.out).mono ?_); (case side1 => first | exact HTL_.out | exact TabL.drewN HTL_.out _ | exact TabL.keep HTL_.out (by repeat (first | (with_reducible first | exact HB.out | apply below_alloc | apply pw_below_drewN | apply below_drew1) | exact HB.out))); (case side2 => repeat (first | exact (Kd.R_reads' HO307.out).2.2 | (with_reducible refine Kd.C_alloc ?_ _) | (with_reducible refine Kd.C_drewN ?_ _) | (with_reducible refine Kd.C_drew ?_))); (case side3 => exact (Kd.R_reads' HO307.out).2.1); rintro e w16 ⟨rfl, hb⟩; refine ⟨_, rfl, ?_⟩; have n0_ := Aside0.mk (Kd.R_below (by (with_reducible repeat (first | apply Kd.R_alloc | apply Kd.R_drewN | apply Kd.R_drew)); exact HO307.out) hb); have n1_ := Aside0.mk (below_step (by repeat (first | (with_reducible first | exact HB.out | apply below_alloc | apply pw_below_drewN | apply below_drew1) | exact HB.out)) hb); clear HO307; clear HB; have HO307 := n0_; have HB := n1_; clear n0_ n1_; (try clear hb)) | ((with_reducible refine gate_callee (f := 18) rfl ?_); refine goesL_ (some 45) rfl rfl Tryd.func18 (by kernel_rfl) rfl #[.int .i64 t303, .int .i64 t304, .slice Ao15 t305.length co15] rfl (by (try simp only [List.map_toArray, List.map_cons, List.map_nil]); first | done | rfl | (simp only [List.length_drop, List.length_take]; rfl)) ?_; (with_reducible refine (spec_BestPlan.calls k t303 t304 _ _ t305 t310 t311 _ ?side1 ?side2 A6.out).mono ?_); (case side1 => repeat (first | exact (Kd.R_reads' HO307.out).2.2 | (with_reducible refine Kd.C_alloc ?_ _) | (with_reducible refine Kd.C_drewN ?_ _) | (with_reducible refine Kd.C_drew ?_))); (case side2 => exact (Kd.R_reads' HO307.out).2.1); rintro e w17 ⟨rfl, hb⟩; refine ⟨_, rfl, ?_⟩; have n0_ := Aside0.mk (Kd.R_below (by (with_reducible repeat (first | apply Kd.R_alloc | apply Kd.R_drewN | apply Kd.R_drew)); exact HO307.out) hb); have n1_ := Aside0.mk (below_step (by repeat (first | (with_reducible first | exact HB.out | apply below_alloc | apply pw_below_drewN | apply below_drew1) | exact HB.out)) hb); clear HO307; clear HB; have HO307 := n0_; have HB := n1_; clear n0_ n1_; (try clear hb)) | ((with_reducible refine gate_callee (f := 26) rfl ?_); refine goesL_ (some 52) rfl rfl Tryd.func26 (by kernel_rfl) rfl #[.int .i64 t303, .int .i64 t304, .slice Ao15 t305.length co15] rfl (by (try simp only [List.map_toArray, List.map_cons, List.map_nil]); first | done | rfl | (simp only [List.length_drop, List.length_take]; rfl)) ?_; (with_reducible refine (impl_BestValue.calls t303 t304 _ _ t305 t312 t313 _ ?side1 ?side2 A7.out).mono ?_); (case side1 => repeat (first | exact (Kd.R_reads' HO307.out).2.2 | (with_reducible refine Kd.C_alloc ?_ _) | (with_reducible refine Kd.C_drewN ?_ _) | (with_reducible refine Kd.C_drew ?_))); (case side2 => exact (Kd.R_reads' HO307.out).2.1); rintro e w18 ⟨rfl, hb⟩; refine ⟨_, rfl, ?_⟩; have n0_ := Aside0.mk (Kd.R_below (by (with_reducible repeat (first | apply Kd.R_alloc | apply Kd.R_drewN | apply Kd.R_drew)); exact HO307.out) hb); have n1_ := Aside0.mk (below_step (by repeat (first | (with_reducible first | exact HB.out | apply below_alloc | apply pw_below_drewN | apply below_drew1) | exact HB.out)) hb); clear HO307; clear HB; have HO307 := n0_; have HB := n1_; clear n0_ n1_; (try clear hb)) | ((with_reducible refine gate_callee (f := 27) rfl ?_); refine goesL_ (some 59) rfl rfl Tryd.func27 (by kernel_rfl) rfl #[.int .i64 t303, .int .i64 t304, .slice Ao15 t305.length co15] rfl (by (try simp only [List.map_toArray, List.map_cons, List.map_nil]); first | done | rfl | (simp only [List.length_drop, List.length_take]; rfl)) ?_; (with_reducible refine (spec_BestValue.calls k t303 t304 _ _ t305 t314 t315 _ ?side1 ?side2 A8.out).mono ?_); (case side1 => repeat (first | exact (Kd.R_reads' HO307.out).2.2 | (with_reducible refine Kd.C_alloc ?_ _) | (with_reducible refine Kd.C_drewN ?_ _) | (with_reducible refine Kd.C_drew ?_))); (case side2 => exact (Kd.R_reads' HO307.out).2.1); rintro e w19 ⟨rfl, hb⟩; refine ⟨_, rfl, ?_⟩; have n0_ := Aside0.mk (Kd.R_below (by (with_reducible repeat (first | apply Kd.R_alloc | apply Kd.R_drewN | apply Kd.R_drew)); exact HO307.out) hb); have n1_ := Aside0.mk (below_step (by repeat (first | (with_reducible first | exact HB.out | apply below_alloc | apply pw_below_drewN | apply below_drew1) | exact HB.out)) hb); clear HO307; clear HB; have HO307 := n0_; have HB := n1_; clear n0_ n1_; (try clear hb)) | ((with_reducible refine gate_callee (f := 28) rfl ?_); refine goesL_ (some 66) rfl rfl Tryd.func28 (by kernel_rfl) rfl #[.int .i64 t303, .int .i64 t304, .slice Ao15 t305.length co15] rfl (by (try simp only [List.map_toArray, List.map_cons, List.map_nil]); first | done | rfl | (simp only [List.length_drop, List.length_take]; rfl)) ?_; (with_reducible refine (impl_BestKind.calls k t303 t304 _ _ t305 t316 t317 t318 _ ?side1 ?side2 A9.out).mono ?_); (case side1 => repeat (first | exact (Kd.R_reads' HO307.out).2.2 | (with_reducible refine Kd.C_alloc ?_ _) | (with_reducible refine Kd.C_drewN ?_ _) | (with_reducible refine Kd.C_drew ?_))); (case side2 => exact (Kd.R_reads' HO307.out).2.1); rintro e w20 ⟨rfl, hb⟩; refine ⟨_, rfl, ?_⟩; have n0_ := Aside0.mk (Kd.R_below (by (with_reducible repeat (first | apply Kd.R_alloc | apply Kd.R_drewN | apply Kd.R_drew)); exact HO307.out) hb); have n1_ := Aside0.mk (below_step (by repeat (first | (with_reducible first | exact HB.out | apply below_alloc | apply pw_below_drewN | apply below_drew1) | exact HB.out)) hb); clear HO307; clear HB; have HO307 := n0_; have HB := n1_; clear n0_ n1_; (try clear hb)) | ((with_reducible refine gate_callee (f := 29) rfl ?_); refine goesL_ (some 74) rfl rfl Tryd.func29 (by kernel_rfl) rfl #[.int .i64 t303, .int .i64 t304, .slice Ao15 t305.length co15] rfl (by (try simp only [List.map_toArray, List.map_cons, List.map_nil]); first | done | rfl | (simp only [List.length_drop, List.length_take]; rfl)) ?_; (with_reducible refine (spec_BestKind.calls k t303 t304 _ _ t305 t319 t320 t321 _ ?side1 ?side2 A10.out).mono ?_); (case side1 => repeat (first | exact (Kd.R_reads' HO307.out).2.2 | (with_reducible refine Kd.C_alloc ?_ _) | (with_reducible refine Kd.C_drewN ?_ _) | (with_reducible refine Kd.C_drew ?_))); (case side2 => exact (Kd.R_reads' HO307.out).2.1); rintro e w21 ⟨rfl, hb⟩; refine ⟨_, rfl, ?_⟩; have n0_ := Aside0.mk (Kd.R_below (by (with_reducible repeat (first | apply Kd.R_alloc | apply Kd.R_drewN | apply Kd.R_drew)); exact HO307.out) hb); have n1_ := Aside0.mk (below_step (by repeat (first | (with_reducible first | exact HB.out | apply below_alloc | apply pw_below_drewN | apply below_drew1) | exact HB.out)) hb); clear HO307; clear HB; have HO307 := n0_; have HB := n1_; clear n0_ n1_; (try clear hb)) | ((with_reducible refine gate_callee (f := 30) rfl ?_); refine goesL_ (some 82) rfl rfl Tryd.func30 (by kernel_rfl) rfl #[.int .i64 t303, .int .i64 t304, .slice Ao15 t305.length co15] rfl (by (try simp only [List.map_toArray, List.map_cons, List.map_nil]); first | done | rfl | (simp only [List.length_drop, List.length_take]; rfl)) ?_; (with_reducible refine (impl_DensityBound.calls k t303 t304 _ _ t305 t322 t323 _ ?side1 ?side2 A11.out).mono ?_); (case side1 => repeat (first | exact (Kd.R_reads' HO307.out).2.2 | (with_reducible refine Kd.C_alloc ?_ _) | (with_reducible refine Kd.C_drewN ?_ _) | (with_reducible refine Kd.C_drew ?_))); (case side2 => exact (Kd.R_reads' HO307.out).2.1); rintro e w22 ⟨rfl, hb⟩; refine ⟨_, rfl, ?_⟩; have n0_ := Aside0.mk (Kd.R_below (by (with_reducible repeat (first | apply Kd.R_alloc | apply Kd.R_drewN | apply Kd.R_drew)); exact HO307.out) hb); have n1_ := Aside0.mk (below_step (by repeat (first | (with_reducible first | exact HB.out | apply below_alloc | apply pw_below_drewN | apply below_drew1) | exact HB.out)) hb); clear HO307; clear HB; have HO307 := n0_; have HB := n1_; clear n0_ n1_; (try clear hb)) | ((with_reducible refine gate_callee (f := 31) rfl ?_); refine goesL_ (some 89) rfl rfl Tryd.func31 (by kernel_rfl) rfl #[.int .i64 t303, .int .i64 t304, .slice Ao15 t305.length co15] rfl (by (try simp only [List.map_toArray, List.map_cons, List.map_nil]); first | done | rfl | (simp only [List.length_drop, List.length_take]; rfl)) ?_; (with_reducible refine (spec_DensityBound.calls k t303 t304 _ _ t305 t324 t325 _ ?side1 ?side2 A12.out).mono ?_); (case side1 => repeat (first | exact (Kd.R_reads' HO307.out).2.2 | (with_reducible refine Kd.C_alloc ?_ _) | (with_reducible refine Kd.C_drewN ?_ _) | (with_reducible refine Kd.C_drew ?_))); (case side2 => exact (Kd.R_reads' HO307.out).2.1); rintro e w23 ⟨rfl, hb⟩; refine ⟨_, rfl, ?_⟩; have n0_ := Aside0.mk (Kd.R_below (by (with_reducible repeat (first | apply Kd.R_alloc | apply Kd.R_drewN | apply Kd.R_drew)); exact HO307.out) hb); have n1_ := Aside0.mk (below_step (by repeat (first | (with_reducible first | exact HB.out | apply below_alloc | apply pw_below_drewN | apply below_drew1) | exact HB.out)) hb); clear HO307; clear HB; have HO307 := n0_; have HB := n1_; clear n0_ n1_; (try clear hb)))
  (try simp only [Act.put, List.setIfInBounds_toArray, List.set_cons_zero, List.set_cons_succ])
  go_cut [141] (fun v141 wc => ∃ (kq : Nat) (x141_12 : Bool), v141 = .bool x141_12 ∧ Aside0 (laws_FnBestPlans.j0 kq t303 t304 t305 t308 t309 t312 t317 t322 x141_12 = some r) ∧ Aside0 (kq ≤ k) ∧ Aside0 (Kd.R k50 50 wc w.heap.size (fun _ => True) (.slice Ao15 t305.length co15) t305) ∧ Aside0 (Below w.heap.size w wc))
  case first =>
   have H := HC13.out
   clear HC13
   by_cases c24 : t309 = t311
   ·rw [if_pos c24] at H
    have c24b0 : (t309 == t311) = true := beq_iff_eq.mpr c24
    have c24b1 : (t309 != t311) = false := bne_eq_false_iff_eq.mpr c24
    clear c24
    (first | rw [c24b0] | (simp only [i64_w, i32_w]; rw [c24b0]) | skip)
    by_cases c25 : t308.toList = t310.toList
    ·rw [if_pos c25] at H
     have c25b0 : (t308.toList == t310.toList) = true := beq_iff_eq.mpr c25
     have c25b1 : (t308.toList != t310.toList) = false := bne_eq_false_iff_eq.mpr c25
     clear c25
     by_cases c26 : t313 = t315
     ·rw [if_pos c26] at H
      have c26b0 : (t313 == t315) = true := beq_iff_eq.mpr c26
      have c26b1 : (t313 != t315) = false := bne_eq_false_iff_eq.mpr c26
      clear c26
      by_cases c27 : t312 = t314
      ·rw [if_pos c27] at H
       have c27b0 : (t312 == t314) = true := beq_iff_eq.mpr c27
       have c27b1 : (t312 != t314) = false := bne_eq_false_iff_eq.mpr c27
       clear c27
       by_cases c28 : t318 = t321
       ·rw [if_pos c28] at H
        have c28b0 : (t318 == t321) = true := beq_iff_eq.mpr c28
        have c28b1 : (t318 != t321) = false := bne_eq_false_iff_eq.mpr c28
        clear c28
        by_cases c29 : t316 = t319
        ·rw [if_pos c29] at H
         have c29b0 : (t316 == t319) = true := beq_iff_eq.mpr c29
         have c29b1 : (t316 != t319) = false := bne_eq_false_iff_eq.mpr c29
         clear c29
         by_cases c30 : t317 = t320
         ·rw [if_pos c30] at H
          have c30b0 : (t317 == t320) = true := beq_iff_eq.mpr c30
          have c30b1 : (t317 != t320) = false := bne_eq_false_iff_eq.mpr c30
          clear c30
          by_cases c31 : t323 = t325
          ·rw [if_pos c31] at H
           have c31b0 : (t323 == t325) = true := beq_iff_eq.mpr c31
           have c31b1 : (t323 != t325) = false := bne_eq_false_iff_eq.mpr c31
           clear c31
           by_cases c32 : t322 = t324
           ·rw [if_pos c32] at H
            have c32b0 : (t322 == t324) = true := beq_iff_eq.mpr c32
            have c32b1 : (t322 != t324) = false := bne_eq_false_iff_eq.mpr c32
            clear c32
            replace H := Option.bind_eq_some_iff.mp H
            obtain ⟨t326, A330, H⟩ := H
            replace H : ((spec_IsCatalogue.f k t305).bind fun t327 => (laws_FnBestPlans.j0 k t303 t304 t305 t308 t309 t312 t317 t322 (t326 != t327))) = some r := H
            have A33 := Aside0.mk A330
            clear A330
            replace H := Option.bind_eq_some_iff.mp H
            obtain ⟨t327, A340, H⟩ := H
            replace H : (laws_FnBestPlans.j0 k t303 t304 t305 t308 t309 t312 t317 t322 (t326 != t327)) = some r := H
            have A34 := Aside0.mk A340
            clear A340
            have H' := Aside0.mk H
            clear H
            go_wp2_with (first | (go_at_call 32; (with_reducible refine (impl_IsCatalogue.calls _ _ t305 t326 _ ?side1 ?side2 A33.out).mono ?_); (case side1 => repeat (first | exact (Kd.R_reads' HO307.out).2.2 | (with_reducible refine Kd.C_alloc ?_ _) | (with_reducible refine Kd.C_drewN ?_ _) | (with_reducible refine Kd.C_drew ?_))); (case side2 => exact (Kd.R_reads' HO307.out).2.1); rintro e w35 ⟨rfl, hb⟩; have n0_ := Aside0.mk (Kd.R_below (by (with_reducible repeat (first | apply Kd.R_alloc | apply Kd.R_drewN | apply Kd.R_drew)); exact HO307.out) hb); have n1_ := Aside0.mk (below_step (by repeat (first | (with_reducible first | exact HB.out | apply below_alloc | apply pw_below_drewN | apply below_drew1) | exact HB.out)) hb); clear HO307; clear HB; have HO307 := n0_; have HB := n1_; clear n0_ n1_; (try clear hb)) | (go_at_call 33; (with_reducible refine (spec_IsCatalogue.calls k _ _ t305 t327 _ ?side1 ?side2 A34.out).mono ?_); (case side1 => repeat (first | exact (Kd.R_reads' HO307.out).2.2 | (with_reducible refine Kd.C_alloc ?_ _) | (with_reducible refine Kd.C_drewN ?_ _) | (with_reducible refine Kd.C_drew ?_))); (case side2 => exact (Kd.R_reads' HO307.out).2.1); rintro e w36 ⟨rfl, hb⟩; have n0_ := Aside0.mk (Kd.R_below (by (with_reducible repeat (first | apply Kd.R_alloc | apply Kd.R_drewN | apply Kd.R_drew)); exact HO307.out) hb); have n1_ := Aside0.mk (below_step (by repeat (first | (with_reducible first | exact HB.out | apply below_alloc | apply pw_below_drewN | apply below_drew1) | exact HB.out)) hb); clear HO307; clear HB; have HO307 := n0_; have HB := n1_; clear n0_ n1_; (try clear hb)))
            go_meet
            case rel => exact ⟨_, ((t326 != t327)), (by first | rfl | (simp; done) | (simp [*]; done)), H', ⟨by first | omega | exact Nat.le_refl _⟩, ⟨by (with_reducible repeat (first | apply Kd.R_alloc | apply Kd.R_drewN | apply Kd.R_drew)); exact HO307.out⟩, ⟨by repeat (first | (with_reducible first | exact HB.out | apply below_alloc | apply pw_below_drewN | apply below_drew1) | exact HB.out)⟩⟩
           ·rw [if_neg c32] at H
            have c32b0 : (t322 == t324) = false := beq_eq_false_iff_ne.mpr c32
            have c32b1 : (t322 != t324) = true := bne_iff_ne.mpr c32
            (first | exact (laws_FnBestPlans.j0_no H hr_.out).elim)
          ·rw [if_neg c31] at H
           have c31b0 : (t323 == t325) = false := beq_eq_false_iff_ne.mpr c31
           have c31b1 : (t323 != t325) = true := bne_iff_ne.mpr c31
           (first | exact (laws_FnBestPlans.j0_no H hr_.out).elim)
         ·rw [if_neg c30] at H
          have c30b0 : (t317 == t320) = false := beq_eq_false_iff_ne.mpr c30
          have c30b1 : (t317 != t320) = true := bne_iff_ne.mpr c30
          (first | exact (laws_FnBestPlans.j0_no H hr_.out).elim)
        ·rw [if_neg c29] at H
         have c29b0 : (t316 == t319) = false := beq_eq_false_iff_ne.mpr c29
         have c29b1 : (t316 != t319) = true := bne_iff_ne.mpr c29
         (first | exact (laws_FnBestPlans.j0_no H hr_.out).elim)
       ·rw [if_neg c28] at H
        have c28b0 : (t318 == t321) = false := beq_eq_false_iff_ne.mpr c28
        have c28b1 : (t318 != t321) = true := bne_iff_ne.mpr c28
        (first | exact (laws_FnBestPlans.j0_no H hr_.out).elim)
      ·rw [if_neg c27] at H
       have c27b0 : (t312 == t314) = false := beq_eq_false_iff_ne.mpr c27
       have c27b1 : (t312 != t314) = true := bne_iff_ne.mpr c27
       (first | exact (laws_FnBestPlans.j0_no H hr_.out).elim)
     ·rw [if_neg c26] at H
      have c26b0 : (t313 == t315) = false := beq_eq_false_iff_ne.mpr c26
      have c26b1 : (t313 != t315) = true := bne_iff_ne.mpr c26
      (first | exact (laws_FnBestPlans.j0_no H hr_.out).elim)
    ·rw [if_neg c25] at H
     have c25b0 : (t308.toList == t310.toList) = false := beq_eq_false_iff_ne.mpr c25
     have c25b1 : (t308.toList != t310.toList) = true := bne_iff_ne.mpr c25
     (first | exact (laws_FnBestPlans.j0_no H hr_.out).elim)
   ·rw [if_neg c24] at H
    have c24b0 : (t309 == t311) = false := beq_eq_false_iff_ne.mpr c24
    have c24b1 : (t309 != t311) = true := bne_iff_ne.mpr c24
    (first | rw [c24b0] | (simp only [i64_w, i32_w]; rw [c24b0]) | skip)
    (first | exact (laws_FnBestPlans.j0_no H hr_.out).elim)
  case rest =>
   clear HC13
   try clear c1
   try clear c2
   try clear p2
   try clear c3
   try clear c7
   try clear c18
   try clear c19
   try clear c24
   try clear c24b0
   try clear c24b1
   try clear c25
   try clear c25b0
   try clear c25b1
   try clear c26
   try clear c26b0
   try clear c26b1
   try clear c27
   try clear c27b0
   try clear c27b1
   try clear c28
   try clear c28b0
   try clear c28b1
   try clear c29
   try clear c29b0
   try clear c29b1
   try clear c30
   try clear c30b0
   try clear c30b1
   try clear c31
   try clear c31b0
   try clear c31b1
   try clear c32
   try clear c32b0
   try clear c32b1
   obtain ⟨kq, x141_12, rfl, HA, HJ12, HO_5, HB⟩ := hcut
   cases kq with
   | zero => exact absurd HA.out (by simp [laws_FnBestPlans.j0])
   | succ kj12 =>
    have H := HA.out
    clear HA
    simp only [laws_FnBestPlans.j0] at H
    by_cases c37 : x141_12 = true
    ·subst c37
     have H1 : (some false) = some r := by rw [if_pos rfl] at H; exact H
     clear H
     have H := H1
     clear H1
     exact absurd ((Option.some.inj H).trans hr_.out) (by decide)
    ·replace c37 := Bool.eq_false_iff.mpr c37
     subst c37
     have H1 : (if t309 = 0 then ((impl_PlanValue.f kj12 t303 t304 t305 t308).bind fun bt328 => (if bt328.2 = 0 then (if bt328.1 = t312 then (if t317 ≤ t312 then (some (decide (t312 ≤ t322))) else (some false)) else (some false)) else (some false))) else (some true)) = some r := by rw [if_neg (show ¬ (false = true) by decide)] at H; exact H
     clear H
     have H := H1
     clear H1
     by_cases c38 : t309 = 0
     ·rw [if_pos c38] at H
      have c38b0 : (t309 == 0) = true := beq_iff_eq.mpr c38
      have c38b1 : (t309 != 0) = false := bne_eq_false_iff_eq.mpr c38
      clear c38
      replace H := Option.bind_eq_some_iff.mp H
      obtain ⟨⟨t328, t329⟩, A390, H⟩ := H
      replace H : (if t329 = 0 then (if t328 = t312 then (if t317 ≤ t312 then (some (decide (t312 ≤ t322))) else (some false)) else (some false)) else (some false)) = some r := H
      have A39 := Aside0.mk A390
      clear A390
      by_cases c40 : t329 = 0
      ·rw [if_pos c40] at H
       have c40b0 : (t329 == 0) = true := beq_iff_eq.mpr c40
       have c40b1 : (t329 != 0) = false := bne_eq_false_iff_eq.mpr c40
       clear c40
       by_cases c41 : t328 = t312
       ·rw [if_pos c41] at H
        have c41b0 : (t328 == t312) = true := beq_iff_eq.mpr c41
        have c41b1 : (t328 != t312) = false := bne_eq_false_iff_eq.mpr c41
        clear c41
        by_cases c42 : t317 ≤ t312
        ·rw [if_pos c42] at H
         have c42b0 : decide (t317 ≤ t312) = true := decide_eq_true c42
         clear c42
         obtain rfl := Option.some.inj H
         go_wp2_with (first | ((with_reducible refine gate_callee (f := 21) rfl ?_); refine goesL_ (some 149) rfl rfl Tryd.func21 (by kernel_rfl) rfl #[.int .i64 t303, .int .i64 t304, .slice Ao15 t305.length co15, .string t308] rfl (by (try simp only [List.map_toArray, List.map_cons, List.map_nil]); first | done | rfl | (simp only [List.length_drop, List.length_take]; rfl)) ?_; (with_reducible refine (impl_PlanValue.calls kj12 t303 t304 _ _ t305 t308 t328 t329 _ ?side1 ?side2 ?side3 A39.out).mono ?_); (case side1 => first | exact HTL_.out | exact TabL.drewN HTL_.out _ | exact TabL.keep HTL_.out (by repeat (first | (with_reducible first | exact HB.out | apply below_alloc | apply pw_below_drewN | apply below_drew1) | exact HB.out))); (case side2 => repeat (first | exact (Kd.R_reads' HO_5.out).2.2 | (with_reducible refine Kd.C_alloc ?_ _) | (with_reducible refine Kd.C_drewN ?_ _) | (with_reducible refine Kd.C_drew ?_))); (case side3 => exact (Kd.R_reads' HO_5.out).2.1); rintro e w43 ⟨rfl, hb⟩; refine ⟨_, rfl, ?_⟩; have n0_ := Aside0.mk (Kd.R_below (by (with_reducible repeat (first | apply Kd.R_alloc | apply Kd.R_drewN | apply Kd.R_drew)); exact HO_5.out) hb); have n1_ := Aside0.mk (below_step (by repeat (first | (with_reducible first | exact HB.out | apply below_alloc | apply pw_below_drewN | apply below_drew1) | exact HB.out)) hb); clear HO_5; clear HB; have HO_5 := n0_; have HB := n1_; clear n0_ n1_; (try clear hb)))
         go_ret
         exact ⟨by first | rfl | (simp [errW_none, errW_some] <;> rfl) | (simp [*, errW_none, errW_some] <;> rfl), by repeat (first | (with_reducible first | exact HB.out | apply below_alloc | apply pw_below_drewN | apply below_drew1) | exact HB.out)⟩
        ·rw [if_neg c42] at H
         have c42b0 : decide (t317 ≤ t312) = false := decide_eq_false c42
         clear c42
         exact absurd ((Option.some.inj H).trans hr_.out) (by decide)
       ·rw [if_neg c41] at H
        have c41b0 : (t328 == t312) = false := beq_eq_false_iff_ne.mpr c41
        have c41b1 : (t328 != t312) = true := bne_iff_ne.mpr c41
        exact absurd ((Option.some.inj H).trans hr_.out) (by decide)
      ·rw [if_neg c40] at H
       have c40b0 : (t329 == 0) = false := beq_eq_false_iff_ne.mpr c40
       have c40b1 : (t329 != 0) = true := bne_iff_ne.mpr c40
       exact absurd ((Option.some.inj H).trans hr_.out) (by decide)
     ·rw [if_neg c38] at H
      have c38b0 : (t309 == 0) = false := beq_eq_false_iff_ne.mpr c38
      have c38b1 : (t309 != 0) = true := bne_iff_ne.mpr c38
      obtain rfl := Option.some.inj H
      go_wp2
      go_ret
      exact ⟨by first | rfl | (simp [errW_none, errW_some] <;> rfl) | (simp [*, errW_none, errW_some] <;> rfl), by repeat (first | (with_reducible first | exact HB.out | apply below_alloc | apply pw_below_drewN | apply below_drew1) | exact HB.out)⟩

end Go.Proofs.YtomddpdfcdnaaaaDoor.PFnBestPlans
