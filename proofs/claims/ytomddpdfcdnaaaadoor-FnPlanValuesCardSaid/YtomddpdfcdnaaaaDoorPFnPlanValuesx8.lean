import Derived.Test.YtomddpdfcdnaaaaDoorPFnPlanValuesx0
import Derived.Test.YtomddpdfcdnaaaaDoorPFnPlanValuesx1
namespace Go.Proofs.YtomddpdfcdnaaaaDoor.PFnPlanValues
open Go.RowKit Go.Proofs.YtomddpdfcdnaaaaDoorW.PrintWords Go.Proofs.YtomddpdfcdnaaaaDoorW.PrintLast Go.Proofs.YtomddpdfcdnaaaaDoorW.PrintMore
attribute [local go_sem] max2_int min2_int max_two min_two max_three min_three max_four min_four   -- for this text's walks alone
set_option linter.unusedVariables false
set_option linter.unusedSimpArgs false

mutual
def spec_l12Plan.l0 : Nat → List (List Int) → Int → Int → List (S50) → Int → Int → Option (ByteArray)
 | 0, _, _, _, _, _, _ => none
 | k + 1, x0, x1, x2, x3, x9, x10 => if x10 < (x3.length : Int) then (if 0 ≤ x10 then (if ((rd_T50 x3 x10).f0) ≤ x1 then (if ((rd_T50 x3 x10).f1) ≤ x2 then (if ((rd_T50 x3 x10).f2) = x9 then (if x10 ≤ (wrap64 (x10 + 1)) then (if (wrap64 (x10 + 1)) ≤ 6 then (some ((⟨#[97, 98, 99, 100, 101, 102]⟩ : ByteArray).extract (x10 : Int).toNat ((wrap64 (x10 + 1)) : Int).toNat)) else (none)) else (none)) else (spec_l12Plan.l0 k x0 x1 x2 x3 x9 (wrap64 (x10 + 1)))) else (spec_l12Plan.l0 k x0 x1 x2 x3 x9 (wrap64 (x10 + 1)))) else (spec_l12Plan.l0 k x0 x1 x2 x3 x9 (wrap64 (x10 + 1)))) else (none)) else (spec_l12Plan.l1 k x0 x1 x2 x3 x9 1)
def spec_l12Plan.l1 : Nat → List (List Int) → Int → Int → List (S50) → Int → Int → Option (ByteArray)
 | 0, _, _, _, _, _, _ => none
 | k + 1, x0, x1, x2, x3, x9, x11 => if x11 < x1 then (if 0 ≤ x11 then (if x11 < (x0.length : Int) then (if 0 ≤ x2 then (if x2 < ((rd_L3 x0 x11).length : Int) then (if 0 ≤ (wrap64 (x1 - x11)) then (if (wrap64 (x1 - x11)) < (x0.length : Int) then (if x2 < ((rd_L3 x0 (wrap64 (x1 - x11))).length : Int) then (if (wrap64 ((rd (rd_L3 x0 x11) x2) + (rd (rd_L3 x0 (wrap64 (x1 - x11))) x2))) = x9 then ((spec_l01Dec.f k x11).bind fun t242 => (if 1 + t242.size ≤ 9223372036854775807 then (if ((⟨#[124]⟩ : ByteArray) ++ t242).size + 1 ≤ 9223372036854775807 then ((spec_l12Plan.f k x0 x11 x2 x3).bind fun t243 => (if (((⟨#[124]⟩ : ByteArray) ++ t242) ++ (⟨#[40]⟩ : ByteArray)).size + t243.size ≤ 9223372036854775807 then (if ((((⟨#[124]⟩ : ByteArray) ++ t242) ++ (⟨#[40]⟩ : ByteArray)) ++ t243).size + 2 ≤ 9223372036854775807 then ((spec_l12Plan.f k x0 (wrap64 (x1 - x11)) x2 x3).bind fun t244 => (if (((((⟨#[124]⟩ : ByteArray) ++ t242) ++ (⟨#[40]⟩ : ByteArray)) ++ t243) ++ (⟨#[41, 40]⟩ : ByteArray)).size + t244.size ≤ 9223372036854775807 then (if ((((((⟨#[124]⟩ : ByteArray) ++ t242) ++ (⟨#[40]⟩ : ByteArray)) ++ t243) ++ (⟨#[41, 40]⟩ : ByteArray)) ++ t244).size + 1 ≤ 9223372036854775807 then (some (((((((⟨#[124]⟩ : ByteArray) ++ t242) ++ (⟨#[40]⟩ : ByteArray)) ++ t243) ++ (⟨#[41, 40]⟩ : ByteArray)) ++ t244) ++ (⟨#[41]⟩ : ByteArray))) else (none)) else (none))) else (none)) else (none))) else (none)) else (none))) else (spec_l12Plan.l1 k x0 x1 x2 x3 x9 (wrap64 (x11 + 1)))) else (none)) else (none)) else (none)) else (none)) else (none)) else (none)) else (none)) else (spec_l12Plan.l2 k x0 x1 x2 x3 x9 1)
def spec_l12Plan.l2 : Nat → List (List Int) → Int → Int → List (S50) → Int → Int → Option (ByteArray)
 | 0, _, _, _, _, _, _ => none
 | k + 1, x0, x1, x2, x3, x9, x12 => if 0 ≤ x1 then (if x1 < (x0.length : Int) then (if 0 ≤ x12 then (if x12 < ((rd_L3 x0 x1).length : Int) then (if 0 ≤ (wrap64 (x2 - x12)) then (if (wrap64 (x2 - x12)) < ((rd_L3 x0 x1).length : Int) then (if (wrap64 ((rd (rd_L3 x0 x1) x12) + (rd (rd_L3 x0 x1) (wrap64 (x2 - x12))))) = x9 then ((spec_l01Dec.f k x12).bind fun t249 => (if 1 + t249.size ≤ 9223372036854775807 then (if ((⟨#[45]⟩ : ByteArray) ++ t249).size + 1 ≤ 9223372036854775807 then ((spec_l12Plan.f k x0 x1 x12 x3).bind fun t250 => (if (((⟨#[45]⟩ : ByteArray) ++ t249) ++ (⟨#[40]⟩ : ByteArray)).size + t250.size ≤ 9223372036854775807 then (if ((((⟨#[45]⟩ : ByteArray) ++ t249) ++ (⟨#[40]⟩ : ByteArray)) ++ t250).size + 2 ≤ 9223372036854775807 then ((spec_l12Plan.f k x0 x1 (wrap64 (x2 - x12)) x3).bind fun t251 => (if (((((⟨#[45]⟩ : ByteArray) ++ t249) ++ (⟨#[40]⟩ : ByteArray)) ++ t250) ++ (⟨#[41, 40]⟩ : ByteArray)).size + t251.size ≤ 9223372036854775807 then (if ((((((⟨#[45]⟩ : ByteArray) ++ t249) ++ (⟨#[40]⟩ : ByteArray)) ++ t250) ++ (⟨#[41, 40]⟩ : ByteArray)) ++ t251).size + 1 ≤ 9223372036854775807 then (some (((((((⟨#[45]⟩ : ByteArray) ++ t249) ++ (⟨#[40]⟩ : ByteArray)) ++ t250) ++ (⟨#[41, 40]⟩ : ByteArray)) ++ t251) ++ (⟨#[41]⟩ : ByteArray))) else (none)) else (none))) else (none)) else (none))) else (none)) else (none))) else (spec_l12Plan.l2 k x0 x1 x2 x3 x9 (wrap64 (x12 + 1)))) else (none)) else (none)) else (none)) else (none)) else (none)) else (none)
def spec_l12Plan.f : Nat → List (List Int) → Int → Int → List (S50) → Option (ByteArray)
 | 0, _, _, _, _ => none
 | k + 1, l0, a1, a2, l3 => if 0 ≤ a1 then (if a1 < (l0.length : Int) then (if 0 ≤ a2 then (if a2 < ((rd_L3 l0 a1).length : Int) then (if (rd (rd_L3 l0 a1) a2) = 0 then (some (⟨#[46]⟩ : ByteArray)) else (spec_l12Plan.l0 k l0 a1 a2 l3 (rd (rd_L3 l0 a1) a2) 0)) else (none)) else (none)) else (none)) else (none)
end
theorem spec_l12Plan.mono_l : ∀ k, (∀ y0 y1 y2 y3, LeO (spec_l12Plan.f k y0 y1 y2 y3) (spec_l12Plan.f (k + 1) y0 y1 y2 y3)) ∧ (∀ y0 y1 y2 y3 y4 y5, LeO (spec_l12Plan.l0 k y0 y1 y2 y3 y4 y5) (spec_l12Plan.l0 (k + 1) y0 y1 y2 y3 y4 y5)) ∧ (∀ y0 y1 y2 y3 y4 y5, LeO (spec_l12Plan.l1 k y0 y1 y2 y3 y4 y5) (spec_l12Plan.l1 (k + 1) y0 y1 y2 y3 y4 y5)) ∧ (∀ y0 y1 y2 y3 y4 y5, LeO (spec_l12Plan.l2 k y0 y1 y2 y3 y4 y5) (spec_l12Plan.l2 (k + 1) y0 y1 y2 y3 y4 y5))
 | 0 => ⟨fun _ _ _ _ r h => by simp [spec_l12Plan.f] at h, fun _ _ _ _ _ _ r h => by simp [spec_l12Plan.l0] at h, fun _ _ _ _ _ _ r h => by simp [spec_l12Plan.l1] at h, fun _ _ _ _ _ _ r h => by simp [spec_l12Plan.l2] at h⟩
 | k + 1 => by
  obtain ⟨ih0, ih1, ih2, ih3⟩ := spec_l12Plan.mono_l k
  refine ⟨?_, ?_, ?_, ?_⟩
  ·intro y0 y1 y2 y3
   unfold spec_l12Plan.f
   repeat' first
   | (with_reducible exact ih0 _ _ _ _)
   | (with_reducible exact ih1 _ _ _ _ _ _)
   | (with_reducible exact ih2 _ _ _ _ _ _)
   | (with_reducible exact ih3 _ _ _ _ _ _)
   | (with_reducible exact spec_l01Dec.mono _ _)
   | (with_reducible exact LeO.refl _)
   | (with_reducible exact LeO.none _)
   | (with_reducible refine LeO.ite ?_ ?_)
   | (with_reducible refine LeO.bind ?_ (fun _ => ?_))
   | exact ih0 _ _ _ _
   | exact ih1 _ _ _ _ _ _
   | exact ih2 _ _ _ _ _ _
   | exact ih3 _ _ _ _ _ _
   | exact spec_l01Dec.mono _ _
   | exact LeO.none _
   | refine LeO.ite ?_ ?_
   | refine LeO.bind ?_ (fun _ => ?_)
  ·intro y0 y1 y2 y3 y4 y5
   unfold spec_l12Plan.l0
   repeat' first
   | (with_reducible exact ih0 _ _ _ _)
   | (with_reducible exact ih1 _ _ _ _ _ _)
   | (with_reducible exact ih2 _ _ _ _ _ _)
   | (with_reducible exact ih3 _ _ _ _ _ _)
   | (with_reducible exact spec_l01Dec.mono _ _)
   | (with_reducible exact LeO.refl _)
   | (with_reducible exact LeO.none _)
   | (with_reducible refine LeO.ite ?_ ?_)
   | (with_reducible refine LeO.bind ?_ (fun _ => ?_))
   | exact ih0 _ _ _ _
   | exact ih1 _ _ _ _ _ _
   | exact ih2 _ _ _ _ _ _
   | exact ih3 _ _ _ _ _ _
   | exact spec_l01Dec.mono _ _
   | exact LeO.none _
   | refine LeO.ite ?_ ?_
   | refine LeO.bind ?_ (fun _ => ?_)
  ·intro y0 y1 y2 y3 y4 y5
   unfold spec_l12Plan.l1
   repeat' first
   | (with_reducible exact ih0 _ _ _ _)
   | (with_reducible exact ih1 _ _ _ _ _ _)
   | (with_reducible exact ih2 _ _ _ _ _ _)
   | (with_reducible exact ih3 _ _ _ _ _ _)
   | (with_reducible exact spec_l01Dec.mono _ _)
   | (with_reducible exact LeO.refl _)
   | (with_reducible exact LeO.none _)
   | (with_reducible refine LeO.ite ?_ ?_)
   | (with_reducible refine LeO.bind ?_ (fun _ => ?_))
   | exact ih0 _ _ _ _
   | exact ih1 _ _ _ _ _ _
   | exact ih2 _ _ _ _ _ _
   | exact ih3 _ _ _ _ _ _
   | exact spec_l01Dec.mono _ _
   | exact LeO.none _
   | refine LeO.ite ?_ ?_
   | refine LeO.bind ?_ (fun _ => ?_)
  ·intro y0 y1 y2 y3 y4 y5
   unfold spec_l12Plan.l2
   repeat' first
   | (with_reducible exact ih0 _ _ _ _)
   | (with_reducible exact ih1 _ _ _ _ _ _)
   | (with_reducible exact ih2 _ _ _ _ _ _)
   | (with_reducible exact ih3 _ _ _ _ _ _)
   | (with_reducible exact spec_l01Dec.mono _ _)
   | (with_reducible exact LeO.refl _)
   | (with_reducible exact LeO.none _)
   | (with_reducible refine LeO.ite ?_ ?_)
   | (with_reducible refine LeO.bind ?_ (fun _ => ?_))
   | exact ih0 _ _ _ _
   | exact ih1 _ _ _ _ _ _
   | exact ih2 _ _ _ _ _ _
   | exact ih3 _ _ _ _ _ _
   | exact spec_l01Dec.mono _ _
   | exact LeO.none _
   | refine LeO.ite ?_ ?_
   | refine LeO.bind ?_ (fun _ => ?_)
theorem spec_l12Plan.mono : ∀ a0 a1 a2 a3 k, LeO (spec_l12Plan.f k a0 a1 a2 a3) (spec_l12Plan.f (k + 1) a0 a1 a2 a3) := by
 intro a0 a1 a2 a3 k
 obtain ⟨ih0, ih1, ih2, ih3⟩ := spec_l12Plan.mono_l k
 exact ih0 a0 a1 a2 a3
set_option maxHeartbeats 8000000 in
set_option maxRecDepth 100000 in
theorem spec_l12Plan.calls (k : Nat) : ∀ (A0 : Option Addr) (c0 : Nat) (l0 : List (List Int)) (a1 : Int) (a2 : Int) (A3 : Option Addr) (c3 : Nat) (l3 : List (S50)) (r : ByteArray) (w : World) (hr0 : Kd.C (Kd.slice 2 (Kd.int .i64)) w A0 l0.length l0) (hc0 : l0.length ≤ c0) (hr3 : Kd.C k50 w A3 l3.length l3) (hc3 : l3.length ≤ c3) (h : spec_l12Plan.f k l0 a1 a2 l3 = some r),
  Calls Tryd.prog 41 #[.slice A0 l0.length c0, .int .i64 a1, .int .i64 a2, .slice A3 l3.length c3] w fun e w' => e = .returned (.string r) ∧ Below w.heap.size w w' := by
 induction k using Nat.strongRecOn with
 | _ k ih =>
 intro A0 c0 l0 a1 a2 A3 c3 l3 r w hr0 hc0 hr3 hc3 h
 cases k with
 | zero => exact absurd h (by simp [spec_l12Plan.f])
 | succ k =>
 simp only [spec_l12Plan.f] at h
 have HR0 := Aside0.mk hr0
 have HC0 := Aside0.mk hc0
 clear hr0 hc0
 have HR3 := Aside0.mk hr3
 have HC3 := Aside0.mk hc3
 clear hr3 hc3
 have HB := Aside0.mk (Below.refl w.heap.size w)
 have H : (if 0 ≤ a1 then (if a1 < (l0.length : Int) then (if 0 ≤ a2 then (if a2 < ((rd_L3 l0 a1).length : Int) then (if (rd (rd_L3 l0 a1) a2) = 0 then (some (⟨#[46]⟩ : ByteArray)) else (spec_l12Plan.l0 k l0 a1 a2 l3 (rd (rd_L3 l0 a1) a2) 0)) else (none)) else (none)) else (none)) else (none)) = some r := h
 clear h
 by_cases c5 : 0 ≤ a1
 ·rw [if_pos c5] at H
  have c5b0 : decide (0 ≤ a1) = true := decide_eq_true c5
  clear c5
  by_cases c6 : a1 < (l0.length : Int)
  ·rw [if_pos c6] at H
   have c6b0 : decide (a1 < (l0.length : Int)) = true := decide_eq_true c6
   clear c6
   by_cases c7 : 0 ≤ a2
   ·rw [if_pos c7] at H
    have c7b0 : decide (0 ≤ a2) = true := decide_eq_true c7
    clear c7
    by_cases c8 : a2 < ((rd_L3 l0 a1).length : Int)
    ·rw [if_pos c8] at H
     have c8b0 : decide (a2 < ((rd_L3 l0 a1).length : Int)) = true := decide_eq_true c8
     clear c8
     by_cases c9 : (rd (rd_L3 l0 a1) a2) = 0
     ·rw [if_pos c9] at H
      have c9b0 : ((rd (rd_L3 l0 a1) a2) == 0) = true := beq_iff_eq.mpr c9
      have c9b1 : ((rd (rd_L3 l0 a1) a2) != 0) = false := bne_eq_false_iff_eq.mpr c9
      clear c9
      obtain rfl := Option.some.inj H
      have p233 : 0 ≤ (a1 : Int) := of_decide_eq_true (by first | (with_reducible assumption) | assumption)
      have q233 : a1 < (l0.length : Int) := of_decide_eq_true (by first | (with_reducible assumption) | assumption)
      obtain ⟨ad233, A233_0, c233_0, e233, hx233_0, hl233_0, hi233_0⟩ := at_L3 HR0.out a1 p233 q233
      cases e233
      have HR233_0 := Aside0.mk hi233_0
      have HC233_0 := Aside0.mk hl233_0
      clear hi233_0 hl233_0
      replace p233 := eq_true p233
      replace q233 := eq_true q233
      have p234 : 0 ≤ (a2 : Int) := of_decide_eq_true (by first | (with_reducible assumption) | assumption)
      have q234 : a2 < ((rd_L3 l0 a1).length : Int) := of_decide_eq_true (by first | (with_reducible assumption) | assumption)
      obtain ⟨ad234, e234, hx234_0⟩ := Kd.at_int HR233_0.out a2 p234 q234
      cases e234
      replace p234 := eq_true p234
      replace q234 := eq_true q234
      go_enter Tryd.func41, Tryd.ntmps41
      go_wp2
      repeat (go_quiet (fail); try go_wp2)
      go_ret
      exact ⟨by first | rfl | (simp [errW_none, errW_some] <;> rfl) | (simp [*, errW_none, errW_some] <;> rfl), by repeat (first | (with_reducible first | exact HB.out | apply below_alloc | apply pw_below_drewN | apply below_drew1) | exact HB.out)⟩
     ·rw [if_neg c9] at H
      have c9b0 : ((rd (rd_L3 l0 a1) a2) == 0) = false := beq_eq_false_iff_ne.mpr c9
      have c9b1 : ((rd (rd_L3 l0 a1) a2) != 0) = true := bne_iff_ne.mpr c9
      have H' := Aside0.mk H
      clear H
      have p233 : 0 ≤ (a1 : Int) := of_decide_eq_true (by first | (with_reducible assumption) | assumption)
      have q233 : a1 < (l0.length : Int) := of_decide_eq_true (by first | (with_reducible assumption) | assumption)
      obtain ⟨ad233, A233_0, c233_0, e233, hx233_0, hl233_0, hi233_0⟩ := at_L3 HR0.out a1 p233 q233
      cases e233
      have HR233_0 := Aside0.mk hi233_0
      have HC233_0 := Aside0.mk hl233_0
      clear hi233_0 hl233_0
      replace p233 := eq_true p233
      replace q233 := eq_true q233
      have p234 : 0 ≤ (a2 : Int) := of_decide_eq_true (by first | (with_reducible assumption) | assumption)
      have q234 : a2 < ((rd_L3 l0 a1).length : Int) := of_decide_eq_true (by first | (with_reducible assumption) | assumption)
      obtain ⟨ad234, e234, hx234_0⟩ := Kd.at_int HR233_0.out a2 p234 q234
      cases e234
      replace p234 := eq_true p234
      replace q234 := eq_true q234
      go_enter Tryd.func41, Tryd.ntmps41
      go_wp2
      repeat (go_quiet (fail); try go_wp2)
      go_loopg [10] k (fun kq v10 w' => ∃ (x10_1 : Int), v10 = .int .i64 x10_1 ∧ Aside0 (spec_l12Plan.l0 kq l0 a1 a2 l3 (rd (rd_L3 l0 a1) a2) x10_1 = some r) ∧ Aside0 (kq ≤ k) ∧ Aside0 (Below w.heap.size w w'))
      case atStart => exact ⟨(0), (by first | rfl | (simp; done) | (simp [*]; done)), H', ⟨Nat.le_refl _⟩, ⟨by repeat (first | (with_reducible first | exact HB.out | apply below_alloc | apply pw_below_drewN | apply below_drew1) | exact HB.out)⟩⟩
      case round =>
       clear H'
       try clear c2
       try clear p2
       try clear q2
       try clear hx2
       try clear c3
       try clear c4
       try clear c5
       try clear c5b0
       try clear c6
       try clear c6b0
       try clear c7
       try clear c7b0
       try clear c8
       try clear c8b0
       try clear c9
       try clear c9b0
       try clear c9b1
       try clear hx233_0
       try clear hx234_0
       try clear p233
       try clear p234
       try clear q233
       try clear q234
       obtain ⟨x10_1, rfl, HA, HK1, HB⟩ := hrel
       cases gk with
       | zero => exact absurd HA.out (by simp [spec_l12Plan.l0])
       | succ k1 =>
        have H := HA.out
        clear HA
        simp only [spec_l12Plan.l0] at H
        by_cases c10 : x10_1 < (l3.length : Int)
        ·rw [if_pos c10] at H
         have c10b0 : decide (x10_1 < (l3.length : Int)) = true := decide_eq_true c10
         clear c10
         by_cases c11 : 0 ≤ x10_1
         ·rw [if_pos c11] at H
          have c11b0 : decide (0 ≤ x10_1) = true := decide_eq_true c11
          clear c11
          by_cases c12 : ((rd_T50 l3 x10_1).f0) ≤ a1
          ·rw [if_pos c12] at H
           have c12b0 : decide (((rd_T50 l3 x10_1).f0) ≤ a1) = true := decide_eq_true c12
           clear c12
           by_cases c13 : ((rd_T50 l3 x10_1).f1) ≤ a2
           ·rw [if_pos c13] at H
            have c13b0 : decide (((rd_T50 l3 x10_1).f1) ≤ a2) = true := decide_eq_true c13
            clear c13
            by_cases c14 : ((rd_T50 l3 x10_1).f2) = (rd (rd_L3 l0 a1) a2)
            ·rw [if_pos c14] at H
             have c14b0 : (((rd_T50 l3 x10_1).f2) == (rd (rd_L3 l0 a1) a2)) = true := beq_iff_eq.mpr c14
             have c14b1 : (((rd_T50 l3 x10_1).f2) != (rd (rd_L3 l0 a1) a2)) = false := bne_eq_false_iff_eq.mpr c14
             clear c14
             have c15b0 := eq_true (of_decide_eq_true (by first | (with_reducible assumption) | assumption) : 0 ≤ x10_1)
             by_cases c16 : x10_1 ≤ (wrap64 (x10_1 + 1))
             ·rw [if_pos c16] at H
              have c16b0 := eq_true c16
              have c16b1 : decide (x10_1 ≤ (wrap64 (x10_1 + 1))) = true := decide_eq_true c16
              by_cases c17 : (wrap64 (x10_1 + 1)) ≤ 6
              ·rw [if_pos c17] at H
               have c17b0 := eq_true c17
               have c17b1 : decide ((wrap64 (x10_1 + 1)) ≤ 6) = true := decide_eq_true c17
               obtain rfl := Option.some.inj H
               have p235 : 0 ≤ (x10_1 : Int) := of_decide_eq_true (by first | (with_reducible assumption) | assumption)
               have q235 : x10_1 < (l3.length : Int) := of_decide_eq_true (by first | (with_reducible assumption) | assumption)
               obtain ⟨ad235, e235, hx235_0, hx235_1, hx235_2⟩ := at_T50 HR3.out x10_1 p235 q235
               cases e235
               replace hx235_0 := (HB.out.cell (World.block_lt_of_cell? _ _ hx235_0)).trans hx235_0
               replace hx235_1 := (HB.out.cell (World.block_lt_of_cell? _ _ hx235_1)).trans hx235_1
               replace hx235_2 := (HB.out.cell (World.block_lt_of_cell? _ _ hx235_2)).trans hx235_2
               replace p235 := eq_true p235
               replace q235 := eq_true q235
               have p236 : 0 ≤ (x10_1 : Int) := of_decide_eq_true (by first | (with_reducible assumption) | assumption)
               have q236 : x10_1 < (l3.length : Int) := of_decide_eq_true (by first | (with_reducible assumption) | assumption)
               obtain ⟨ad236, e236, hx236_0, hx236_1, hx236_2⟩ := at_T50 HR3.out x10_1 p236 q236
               obtain rfl : ad235 = ad236 := (by injection e236)
               replace hx236_0 := (HB.out.cell (World.block_lt_of_cell? _ _ hx236_0)).trans hx236_0
               replace hx236_1 := (HB.out.cell (World.block_lt_of_cell? _ _ hx236_1)).trans hx236_1
               replace hx236_2 := (HB.out.cell (World.block_lt_of_cell? _ _ hx236_2)).trans hx236_2
               replace p236 := eq_true p236
               replace q236 := eq_true q236
               have p237 : 0 ≤ (x10_1 : Int) := of_decide_eq_true (by first | (with_reducible assumption) | assumption)
               have q237 : x10_1 < (l3.length : Int) := of_decide_eq_true (by first | (with_reducible assumption) | assumption)
               obtain ⟨ad237, e237, hx237_0, hx237_1, hx237_2⟩ := at_T50 HR3.out x10_1 p237 q237
               obtain rfl : ad235 = ad237 := (by injection e237)
               replace hx237_0 := (HB.out.cell (World.block_lt_of_cell? _ _ hx237_0)).trans hx237_0
               replace hx237_1 := (HB.out.cell (World.block_lt_of_cell? _ _ hx237_1)).trans hx237_1
               replace hx237_2 := (HB.out.cell (World.block_lt_of_cell? _ _ hx237_2)).trans hx237_2
               replace p237 := eq_true p237
               replace q237 := eq_true q237
               go_wp2
               repeat (go_quiet (fail); try go_wp2)
               go_ret
               exact ⟨by first | rfl | (simp [errW_none, errW_some] <;> rfl) | (simp [*, errW_none, errW_some] <;> rfl), by repeat (first | (with_reducible first | exact HB.out | apply below_alloc | apply pw_below_drewN | apply below_drew1) | exact HB.out)⟩
              ·rw [if_neg c17] at H
               exact absurd H (by simp)
             ·rw [if_neg c16] at H
              exact absurd H (by simp)
            ·rw [if_neg c14] at H
             have c14b0 : (((rd_T50 l3 x10_1).f2) == (rd (rd_L3 l0 a1) a2)) = false := beq_eq_false_iff_ne.mpr c14
             have c14b1 : (((rd_T50 l3 x10_1).f2) != (rd (rd_L3 l0 a1) a2)) = true := bne_iff_ne.mpr c14
             have H' := Aside0.mk H
             clear H
             have p235 : 0 ≤ (x10_1 : Int) := of_decide_eq_true (by first | (with_reducible assumption) | assumption)
             have q235 : x10_1 < (l3.length : Int) := of_decide_eq_true (by first | (with_reducible assumption) | assumption)
             obtain ⟨ad235, e235, hx235_0, hx235_1, hx235_2⟩ := at_T50 HR3.out x10_1 p235 q235
             cases e235
             replace hx235_0 := (HB.out.cell (World.block_lt_of_cell? _ _ hx235_0)).trans hx235_0
             replace hx235_1 := (HB.out.cell (World.block_lt_of_cell? _ _ hx235_1)).trans hx235_1
             replace hx235_2 := (HB.out.cell (World.block_lt_of_cell? _ _ hx235_2)).trans hx235_2
             replace p235 := eq_true p235
             replace q235 := eq_true q235
             have p236 : 0 ≤ (x10_1 : Int) := of_decide_eq_true (by first | (with_reducible assumption) | assumption)
             have q236 : x10_1 < (l3.length : Int) := of_decide_eq_true (by first | (with_reducible assumption) | assumption)
             obtain ⟨ad236, e236, hx236_0, hx236_1, hx236_2⟩ := at_T50 HR3.out x10_1 p236 q236
             obtain rfl : ad235 = ad236 := (by injection e236)
             replace hx236_0 := (HB.out.cell (World.block_lt_of_cell? _ _ hx236_0)).trans hx236_0
             replace hx236_1 := (HB.out.cell (World.block_lt_of_cell? _ _ hx236_1)).trans hx236_1
             replace hx236_2 := (HB.out.cell (World.block_lt_of_cell? _ _ hx236_2)).trans hx236_2
             replace p236 := eq_true p236
             replace q236 := eq_true q236
             have p237 : 0 ≤ (x10_1 : Int) := of_decide_eq_true (by first | (with_reducible assumption) | assumption)
             have q237 : x10_1 < (l3.length : Int) := of_decide_eq_true (by first | (with_reducible assumption) | assumption)
             obtain ⟨ad237, e237, hx237_0, hx237_1, hx237_2⟩ := at_T50 HR3.out x10_1 p237 q237
             obtain rfl : ad235 = ad237 := (by injection e237)
             replace hx237_0 := (HB.out.cell (World.block_lt_of_cell? _ _ hx237_0)).trans hx237_0
             replace hx237_1 := (HB.out.cell (World.block_lt_of_cell? _ _ hx237_1)).trans hx237_1
             replace hx237_2 := (HB.out.cell (World.block_lt_of_cell? _ _ hx237_2)).trans hx237_2
             replace p237 := eq_true p237
             replace q237 := eq_true q237
             go_wp2
             repeat (go_quiet (fail); try go_wp2)
             go_roundg k1
             case measure => have := HK1.out; omega
             case rel => exact ⟨(wrap64 (x10_1 + 1)), (by first | rfl | (simp; done) | (simp [*]; done)), H', ⟨by have := HK1.out; omega⟩, ⟨by repeat (first | (with_reducible first | exact HB.out | apply below_alloc | apply pw_below_drewN | apply below_drew1) | exact HB.out)⟩⟩
           ·rw [if_neg c13] at H
            have c13b0 : decide (((rd_T50 l3 x10_1).f1) ≤ a2) = false := decide_eq_false c13
            clear c13
            have H' := Aside0.mk H
            clear H
            have p235 : 0 ≤ (x10_1 : Int) := of_decide_eq_true (by first | (with_reducible assumption) | assumption)
            have q235 : x10_1 < (l3.length : Int) := of_decide_eq_true (by first | (with_reducible assumption) | assumption)
            obtain ⟨ad235, e235, hx235_0, hx235_1, hx235_2⟩ := at_T50 HR3.out x10_1 p235 q235
            cases e235
            replace hx235_0 := (HB.out.cell (World.block_lt_of_cell? _ _ hx235_0)).trans hx235_0
            replace hx235_1 := (HB.out.cell (World.block_lt_of_cell? _ _ hx235_1)).trans hx235_1
            replace hx235_2 := (HB.out.cell (World.block_lt_of_cell? _ _ hx235_2)).trans hx235_2
            replace p235 := eq_true p235
            replace q235 := eq_true q235
            have p236 : 0 ≤ (x10_1 : Int) := of_decide_eq_true (by first | (with_reducible assumption) | assumption)
            have q236 : x10_1 < (l3.length : Int) := of_decide_eq_true (by first | (with_reducible assumption) | assumption)
            obtain ⟨ad236, e236, hx236_0, hx236_1, hx236_2⟩ := at_T50 HR3.out x10_1 p236 q236
            obtain rfl : ad235 = ad236 := (by injection e236)
            replace hx236_0 := (HB.out.cell (World.block_lt_of_cell? _ _ hx236_0)).trans hx236_0
            replace hx236_1 := (HB.out.cell (World.block_lt_of_cell? _ _ hx236_1)).trans hx236_1
            replace hx236_2 := (HB.out.cell (World.block_lt_of_cell? _ _ hx236_2)).trans hx236_2
            replace p236 := eq_true p236
            replace q236 := eq_true q236
            go_wp2
            repeat (go_quiet (fail); try go_wp2)
            go_roundg k1
            case measure => have := HK1.out; omega
            case rel => exact ⟨(wrap64 (x10_1 + 1)), (by first | rfl | (simp; done) | (simp [*]; done)), H', ⟨by have := HK1.out; omega⟩, ⟨by repeat (first | (with_reducible first | exact HB.out | apply below_alloc | apply pw_below_drewN | apply below_drew1) | exact HB.out)⟩⟩
          ·rw [if_neg c12] at H
           have c12b0 : decide (((rd_T50 l3 x10_1).f0) ≤ a1) = false := decide_eq_false c12
           clear c12
           have H' := Aside0.mk H
           clear H
           have p235 : 0 ≤ (x10_1 : Int) := of_decide_eq_true (by first | (with_reducible assumption) | assumption)
           have q235 : x10_1 < (l3.length : Int) := of_decide_eq_true (by first | (with_reducible assumption) | assumption)
           obtain ⟨ad235, e235, hx235_0, hx235_1, hx235_2⟩ := at_T50 HR3.out x10_1 p235 q235
           cases e235
           replace hx235_0 := (HB.out.cell (World.block_lt_of_cell? _ _ hx235_0)).trans hx235_0
           replace hx235_1 := (HB.out.cell (World.block_lt_of_cell? _ _ hx235_1)).trans hx235_1
           replace hx235_2 := (HB.out.cell (World.block_lt_of_cell? _ _ hx235_2)).trans hx235_2
           replace p235 := eq_true p235
           replace q235 := eq_true q235
           go_wp2
           repeat (go_quiet (fail); try go_wp2)
           go_roundg k1
           case measure => have := HK1.out; omega
           case rel => exact ⟨(wrap64 (x10_1 + 1)), (by first | rfl | (simp; done) | (simp [*]; done)), H', ⟨by have := HK1.out; omega⟩, ⟨by repeat (first | (with_reducible first | exact HB.out | apply below_alloc | apply pw_below_drewN | apply below_drew1) | exact HB.out)⟩⟩
         ·rw [if_neg c11] at H
          exact absurd H (by simp)
        ·rw [if_neg c10] at H
         have c10b0 : decide (x10_1 < (l3.length : Int)) = false := decide_eq_false c10
         clear c10
         have H' := Aside0.mk H
         clear H
         go_wp2
         repeat (go_quiet (fail); try go_wp2)
         go_loopg [11] k1 (fun kq v11 w' => ∃ (x11_2 : Int), v11 = .int .i64 x11_2 ∧ Aside0 (spec_l12Plan.l1 kq l0 a1 a2 l3 (rd (rd_L3 l0 a1) a2) x11_2 = some r) ∧ Aside0 (kq ≤ k1) ∧ Aside0 (Below w.heap.size w w'))
         case atStart => exact ⟨(1), (by first | rfl | (simp; done) | (simp [*]; done)), H', ⟨Nat.le_refl _⟩, ⟨by repeat (first | (with_reducible first | exact HB.out | apply below_alloc | apply pw_below_drewN | apply below_drew1) | exact HB.out)⟩⟩
         case round =>
          clear H'
          try clear c1
          try clear c2
          try clear p2
          try clear q2
          try clear hx2
          try clear c3
          try clear c4
          try clear c5
          try clear c5b0
          try clear c6
          try clear c6b0
          try clear p6
          try clear c7
          try clear c7b0
          try clear c8
          try clear c8b0
          try clear c9
          try clear c9b0
          try clear c9b1
          try clear c10
          try clear c10b0
          try clear c11
          try clear c11b0
          try clear c12
          try clear c12b0
          try clear c13
          try clear c13b0
          try clear c14
          try clear c14b0
          try clear c14b1
          try clear c15
          try clear c15b0
          try clear c16
          try clear c16b0
          try clear c16b1
          try clear c17
          try clear c17b0
          try clear c17b1
          try clear hx233_0
          try clear hx234_0
          try clear hx235_0
          try clear hx235_1
          try clear hx235_2
          try clear hx236_0
          try clear hx236_1
          try clear hx236_2
          try clear hx237_0
          try clear hx237_1
          try clear hx237_2
          try clear p2
          try clear p233
          try clear p234
          try clear p235
          try clear p236
          try clear p237
          try clear q2
          try clear q233
          try clear q234
          try clear q235
          try clear q236
          try clear q237
          obtain ⟨x11_2, rfl, HA, HK2, HB⟩ := hrel
          cases gk with
          | zero => exact absurd HA.out (by simp [spec_l12Plan.l1])
          | succ k2 =>
           have H := HA.out
           clear HA
           simp only [spec_l12Plan.l1] at H
           by_cases c18 : x11_2 < a1
           ·rw [if_pos c18] at H
            have c18b0 : decide (x11_2 < a1) = true := decide_eq_true c18
            clear c18
            by_cases c19 : 0 ≤ x11_2
            ·rw [if_pos c19] at H
             have c19b0 : decide (0 ≤ x11_2) = true := decide_eq_true c19
             clear c19
             by_cases c20 : x11_2 < (l0.length : Int)
             ·rw [if_pos c20] at H
              have c20b0 : decide (x11_2 < (l0.length : Int)) = true := decide_eq_true c20
              clear c20
              by_cases c21 : 0 ≤ a2
              ·rw [if_pos c21] at H
               have c21b0 : decide (0 ≤ a2) = true := decide_eq_true c21
               clear c21
               by_cases c22 : a2 < ((rd_L3 l0 x11_2).length : Int)
               ·rw [if_pos c22] at H
                have c22b0 : decide (a2 < ((rd_L3 l0 x11_2).length : Int)) = true := decide_eq_true c22
                clear c22
                obtain ⟨ji23, hji23⟩ : ∃ j_ : Int, (wrap64 (a1 - x11_2)) = j_ := ⟨_, rfl⟩
                replace H : (if 0 ≤ (ji23) then (if (ji23) < (l0.length : Int) then (if a2 < ((rd_L3 l0 (ji23)).length : Int) then (if (wrap64 ((rd (rd_L3 l0 x11_2) a2) + (rd (rd_L3 l0 (ji23)) a2))) = (rd (rd_L3 l0 a1) a2) then ((spec_l01Dec.f k2 x11_2).bind fun t242 => (if 1 + t242.size ≤ 9223372036854775807 then (if ((⟨#[124]⟩ : ByteArray) ++ t242).size + 1 ≤ 9223372036854775807 then ((spec_l12Plan.f k2 l0 x11_2 a2 l3).bind fun t243 => (if (((⟨#[124]⟩ : ByteArray) ++ t242) ++ (⟨#[40]⟩ : ByteArray)).size + t243.size ≤ 9223372036854775807 then (if ((((⟨#[124]⟩ : ByteArray) ++ t242) ++ (⟨#[40]⟩ : ByteArray)) ++ t243).size + 2 ≤ 9223372036854775807 then ((spec_l12Plan.f k2 l0 (ji23) a2 l3).bind fun t244 => (if (((((⟨#[124]⟩ : ByteArray) ++ t242) ++ (⟨#[40]⟩ : ByteArray)) ++ t243) ++ (⟨#[41, 40]⟩ : ByteArray)).size + t244.size ≤ 9223372036854775807 then (if ((((((⟨#[124]⟩ : ByteArray) ++ t242) ++ (⟨#[40]⟩ : ByteArray)) ++ t243) ++ (⟨#[41, 40]⟩ : ByteArray)) ++ t244).size + 1 ≤ 9223372036854775807 then (some (((((((⟨#[124]⟩ : ByteArray) ++ t242) ++ (⟨#[40]⟩ : ByteArray)) ++ t243) ++ (⟨#[41, 40]⟩ : ByteArray)) ++ t244) ++ (⟨#[41]⟩ : ByteArray))) else (none)) else (none))) else (none)) else (none))) else (none)) else (none))) else (spec_l12Plan.l1 k2 l0 a1 a2 l3 (rd (rd_L3 l0 a1) a2) (wrap64 (x11_2 + 1)))) else (none)) else (none)) else (none)) = some r := by first | (rw [hji23] at H; exact H) | (simp only [hji23] at H ⊢; exact H)
                have hji23w : (IntKind.i64.wrap (a1 - x11_2)) = ji23 := (i64_w _).trans hji23
                by_cases c24 : 0 ≤ (ji23)
                ·rw [if_pos c24] at H
                 have c24b0 : decide (0 ≤ (ji23)) = true := decide_eq_true c24
                 clear c24
                 by_cases c25 : (ji23) < (l0.length : Int)
                 ·rw [if_pos c25] at H
                  have c25b0 : decide ((ji23) < (l0.length : Int)) = true := decide_eq_true c25
                  clear c25
                  by_cases c26 : a2 < ((rd_L3 l0 (ji23)).length : Int)
                  ·rw [if_pos c26] at H
                   have c26b0 : decide (a2 < ((rd_L3 l0 (ji23)).length : Int)) = true := decide_eq_true c26
                   clear c26
                   by_cases c27 : (wrap64 ((rd (rd_L3 l0 x11_2) a2) + (rd (rd_L3 l0 (ji23)) a2))) = (rd (rd_L3 l0 a1) a2)
                   ·rw [if_pos c27] at H
                    have c27b0 : ((wrap64 ((rd (rd_L3 l0 x11_2) a2) + (rd (rd_L3 l0 (ji23)) a2))) == (rd (rd_L3 l0 a1) a2)) = true := beq_iff_eq.mpr c27
                    have c27b1 : ((wrap64 ((rd (rd_L3 l0 x11_2) a2) + (rd (rd_L3 l0 (ji23)) a2))) != (rd (rd_L3 l0 a1) a2)) = false := bne_eq_false_iff_eq.mpr c27
                    clear c27
                    replace H := Option.bind_eq_some_iff.mp H
                    obtain ⟨t242, A280, H⟩ := H
                    replace H : (if 1 + t242.size ≤ 9223372036854775807 then (if ((⟨#[124]⟩ : ByteArray) ++ t242).size + 1 ≤ 9223372036854775807 then ((spec_l12Plan.f k2 l0 x11_2 a2 l3).bind fun t243 => (if (((⟨#[124]⟩ : ByteArray) ++ t242) ++ (⟨#[40]⟩ : ByteArray)).size + t243.size ≤ 9223372036854775807 then (if ((((⟨#[124]⟩ : ByteArray) ++ t242) ++ (⟨#[40]⟩ : ByteArray)) ++ t243).size + 2 ≤ 9223372036854775807 then ((spec_l12Plan.f k2 l0 (ji23) a2 l3).bind fun t244 => (if (((((⟨#[124]⟩ : ByteArray) ++ t242) ++ (⟨#[40]⟩ : ByteArray)) ++ t243) ++ (⟨#[41, 40]⟩ : ByteArray)).size + t244.size ≤ 9223372036854775807 then (if ((((((⟨#[124]⟩ : ByteArray) ++ t242) ++ (⟨#[40]⟩ : ByteArray)) ++ t243) ++ (⟨#[41, 40]⟩ : ByteArray)) ++ t244).size + 1 ≤ 9223372036854775807 then (some (((((((⟨#[124]⟩ : ByteArray) ++ t242) ++ (⟨#[40]⟩ : ByteArray)) ++ t243) ++ (⟨#[41, 40]⟩ : ByteArray)) ++ t244) ++ (⟨#[41]⟩ : ByteArray))) else (none)) else (none))) else (none)) else (none))) else (none)) else (none)) = some r := H
                    have A28 := Aside0.mk A280
                    clear A280
                    by_cases c29 : 1 + t242.size ≤ 9223372036854775807
                    ·rw [if_pos c29] at H
                     have c29b0 := eq_true c29
                     have c29b1 : decide (1 + t242.size ≤ 9223372036854775807) = true := decide_eq_true c29
                     try have c29b2 : (9223372036854775807 < 1 + t242.size) = False := eq_false (Nat.not_lt.2 c29)
                     by_cases c30 : ((⟨#[124]⟩ : ByteArray) ++ t242).size + 1 ≤ 9223372036854775807
                     ·rw [if_pos c30] at H
                      have c30b0 := eq_true c30
                      have c30b1 : decide (((⟨#[124]⟩ : ByteArray) ++ t242).size + 1 ≤ 9223372036854775807) = true := decide_eq_true c30
                      try have c30b2 : (9223372036854775807 < ((⟨#[124]⟩ : ByteArray) ++ t242).size + 1) = False := eq_false (Nat.not_lt.2 c30)
                      try have c30b6 : (9223372036854775807 < 1 + t242.size + 1) = False := (by have h_ := c30b2; simp only [ByteArray.size_append] at h_; exact h_)
                      try have c30b3 : (9223372036854775807 < ((⟨#[124]⟩ : ByteArray) ++ t242).size + 1) = False := c30b2
                      try simp only [ByteArray.size_append] at c30b3
                      replace H := Option.bind_eq_some_iff.mp H
                      obtain ⟨t243, A310, H⟩ := H
                      replace H : (if (((⟨#[124]⟩ : ByteArray) ++ t242) ++ (⟨#[40]⟩ : ByteArray)).size + t243.size ≤ 9223372036854775807 then (if ((((⟨#[124]⟩ : ByteArray) ++ t242) ++ (⟨#[40]⟩ : ByteArray)) ++ t243).size + 2 ≤ 9223372036854775807 then ((spec_l12Plan.f k2 l0 (ji23) a2 l3).bind fun t244 => (if (((((⟨#[124]⟩ : ByteArray) ++ t242) ++ (⟨#[40]⟩ : ByteArray)) ++ t243) ++ (⟨#[41, 40]⟩ : ByteArray)).size + t244.size ≤ 9223372036854775807 then (if ((((((⟨#[124]⟩ : ByteArray) ++ t242) ++ (⟨#[40]⟩ : ByteArray)) ++ t243) ++ (⟨#[41, 40]⟩ : ByteArray)) ++ t244).size + 1 ≤ 9223372036854775807 then (some (((((((⟨#[124]⟩ : ByteArray) ++ t242) ++ (⟨#[40]⟩ : ByteArray)) ++ t243) ++ (⟨#[41, 40]⟩ : ByteArray)) ++ t244) ++ (⟨#[41]⟩ : ByteArray))) else (none)) else (none))) else (none)) else (none)) = some r := H
                      have A31 := Aside0.mk A310
                      clear A310
                      by_cases c32 : (((⟨#[124]⟩ : ByteArray) ++ t242) ++ (⟨#[40]⟩ : ByteArray)).size + t243.size ≤ 9223372036854775807
                      ·rw [if_pos c32] at H
                       have c32b0 := eq_true c32
                       have c32b1 : decide ((((⟨#[124]⟩ : ByteArray) ++ t242) ++ (⟨#[40]⟩ : ByteArray)).size + t243.size ≤ 9223372036854775807) = true := decide_eq_true c32
                       try have c32b2 : (9223372036854775807 < (((⟨#[124]⟩ : ByteArray) ++ t242) ++ (⟨#[40]⟩ : ByteArray)).size + t243.size) = False := eq_false (Nat.not_lt.2 c32)
                       try have c32b6 : (9223372036854775807 < 1 + t242.size + 1 + t243.size) = False := (by have h_ := c32b2; simp only [ByteArray.size_append] at h_; exact h_)
                       try have c32b3 : (9223372036854775807 < (((⟨#[124]⟩ : ByteArray) ++ t242) ++ (⟨#[40]⟩ : ByteArray)).size + t243.size) = False := c32b2
                       try simp only [ByteArray.size_append] at c32b3
                       by_cases c33 : ((((⟨#[124]⟩ : ByteArray) ++ t242) ++ (⟨#[40]⟩ : ByteArray)) ++ t243).size + 2 ≤ 9223372036854775807
                       ·rw [if_pos c33] at H
                        have c33b0 := eq_true c33
                        have c33b1 : decide (((((⟨#[124]⟩ : ByteArray) ++ t242) ++ (⟨#[40]⟩ : ByteArray)) ++ t243).size + 2 ≤ 9223372036854775807) = true := decide_eq_true c33
                        try have c33b2 : (9223372036854775807 < ((((⟨#[124]⟩ : ByteArray) ++ t242) ++ (⟨#[40]⟩ : ByteArray)) ++ t243).size + 2) = False := eq_false (Nat.not_lt.2 c33)
                        try have c33b6 : (9223372036854775807 < 1 + t242.size + 1 + t243.size + 2) = False := (by have h_ := c33b2; simp only [ByteArray.size_append] at h_; exact h_)
                        try have c33b3 : (9223372036854775807 < ((((⟨#[124]⟩ : ByteArray) ++ t242) ++ (⟨#[40]⟩ : ByteArray)) ++ t243).size + 2) = False := c33b2
                        try simp only [ByteArray.size_append] at c33b3
                        replace H := Option.bind_eq_some_iff.mp H
                        obtain ⟨t244, A340, H⟩ := H
                        replace H : (if (((((⟨#[124]⟩ : ByteArray) ++ t242) ++ (⟨#[40]⟩ : ByteArray)) ++ t243) ++ (⟨#[41, 40]⟩ : ByteArray)).size + t244.size ≤ 9223372036854775807 then (if ((((((⟨#[124]⟩ : ByteArray) ++ t242) ++ (⟨#[40]⟩ : ByteArray)) ++ t243) ++ (⟨#[41, 40]⟩ : ByteArray)) ++ t244).size + 1 ≤ 9223372036854775807 then (some (((((((⟨#[124]⟩ : ByteArray) ++ t242) ++ (⟨#[40]⟩ : ByteArray)) ++ t243) ++ (⟨#[41, 40]⟩ : ByteArray)) ++ t244) ++ (⟨#[41]⟩ : ByteArray))) else (none)) else (none)) = some r := H
                        have A34 := Aside0.mk A340
                        clear A340
                        by_cases c35 : (((((⟨#[124]⟩ : ByteArray) ++ t242) ++ (⟨#[40]⟩ : ByteArray)) ++ t243) ++ (⟨#[41, 40]⟩ : ByteArray)).size + t244.size ≤ 9223372036854775807
                        ·rw [if_pos c35] at H
                         have c35b0 := eq_true c35
                         have c35b1 : decide ((((((⟨#[124]⟩ : ByteArray) ++ t242) ++ (⟨#[40]⟩ : ByteArray)) ++ t243) ++ (⟨#[41, 40]⟩ : ByteArray)).size + t244.size ≤ 9223372036854775807) = true := decide_eq_true c35
                         try have c35b2 : (9223372036854775807 < (((((⟨#[124]⟩ : ByteArray) ++ t242) ++ (⟨#[40]⟩ : ByteArray)) ++ t243) ++ (⟨#[41, 40]⟩ : ByteArray)).size + t244.size) = False := eq_false (Nat.not_lt.2 c35)
                         try have c35b6 : (9223372036854775807 < 1 + t242.size + 1 + t243.size + 2 + t244.size) = False := (by have h_ := c35b2; simp only [ByteArray.size_append] at h_; exact h_)
                         try have c35b3 : (9223372036854775807 < (((((⟨#[124]⟩ : ByteArray) ++ t242) ++ (⟨#[40]⟩ : ByteArray)) ++ t243) ++ (⟨#[41, 40]⟩ : ByteArray)).size + t244.size) = False := c35b2
                         try simp only [ByteArray.size_append] at c35b3
                         by_cases c36 : ((((((⟨#[124]⟩ : ByteArray) ++ t242) ++ (⟨#[40]⟩ : ByteArray)) ++ t243) ++ (⟨#[41, 40]⟩ : ByteArray)) ++ t244).size + 1 ≤ 9223372036854775807
                         ·rw [if_pos c36] at H
                          have c36b0 := eq_true c36
                          have c36b1 : decide (((((((⟨#[124]⟩ : ByteArray) ++ t242) ++ (⟨#[40]⟩ : ByteArray)) ++ t243) ++ (⟨#[41, 40]⟩ : ByteArray)) ++ t244).size + 1 ≤ 9223372036854775807) = true := decide_eq_true c36
                          try have c36b2 : (9223372036854775807 < ((((((⟨#[124]⟩ : ByteArray) ++ t242) ++ (⟨#[40]⟩ : ByteArray)) ++ t243) ++ (⟨#[41, 40]⟩ : ByteArray)) ++ t244).size + 1) = False := eq_false (Nat.not_lt.2 c36)
                          try have c36b6 : (9223372036854775807 < 1 + t242.size + 1 + t243.size + 2 + t244.size + 1) = False := (by have h_ := c36b2; simp only [ByteArray.size_append] at h_; exact h_)
                          try have c36b3 : (9223372036854775807 < ((((((⟨#[124]⟩ : ByteArray) ++ t242) ++ (⟨#[40]⟩ : ByteArray)) ++ t243) ++ (⟨#[41, 40]⟩ : ByteArray)) ++ t244).size + 1) = False := c36b2
                          try simp only [ByteArray.size_append] at c36b3
                          obtain rfl := Option.some.inj H
                          have p238 : 0 ≤ (x11_2 : Int) := of_decide_eq_true (by first | (with_reducible assumption) | assumption)
                          have q238 : x11_2 < (l0.length : Int) := of_decide_eq_true (by first | (with_reducible assumption) | assumption)
                          obtain ⟨ad238, A238_0, c238_0, e238, hx238_0, hl238_0, hi238_0⟩ := at_L3 HR0.out x11_2 p238 q238
                          obtain rfl : ad233 = ad238 := (by injection e238)
                          replace hx238_0 := (HB.out.cell (World.block_lt_of_cell? _ _ hx238_0)).trans hx238_0
                          have HR238_0 := Aside0.mk hi238_0
                          have HC238_0 := Aside0.mk hl238_0
                          clear hi238_0 hl238_0
                          replace p238 := eq_true p238
                          replace q238 := eq_true q238
                          have p239 : 0 ≤ (a2 : Int) := of_decide_eq_true (by first | (with_reducible assumption) | assumption)
                          have q239 : a2 < ((rd_L3 l0 x11_2).length : Int) := of_decide_eq_true (by first | (with_reducible assumption) | assumption)
                          obtain ⟨ad239, e239, hx239_0⟩ := Kd.at_int HR238_0.out a2 p239 q239
                          cases e239
                          replace hx239_0 := (HB.out.cell (World.block_lt_of_cell? _ _ hx239_0)).trans hx239_0
                          replace p239 := eq_true p239
                          replace q239 := eq_true q239
                          have p240 : 0 ≤ ((ji23) : Int) := of_decide_eq_true (by first | (with_reducible assumption) | assumption)
                          have q240 : (ji23) < (l0.length : Int) := of_decide_eq_true (by first | (with_reducible assumption) | assumption)
                          obtain ⟨ad240, A240_0, c240_0, e240, hx240_0, hl240_0, hi240_0⟩ := at_L3 HR0.out (ji23) p240 q240
                          obtain rfl : ad233 = ad240 := (by injection e240)
                          replace hx240_0 := (HB.out.cell (World.block_lt_of_cell? _ _ hx240_0)).trans hx240_0
                          have HR240_0 := Aside0.mk hi240_0
                          have HC240_0 := Aside0.mk hl240_0
                          clear hi240_0 hl240_0
                          replace p240 := eq_true p240
                          replace q240 := eq_true q240
                          have p241 : 0 ≤ (a2 : Int) := of_decide_eq_true (by first | (with_reducible assumption) | assumption)
                          have q241 : a2 < ((rd_L3 l0 (ji23)).length : Int) := of_decide_eq_true (by first | (with_reducible assumption) | assumption)
                          obtain ⟨ad241, e241, hx241_0⟩ := Kd.at_int HR240_0.out a2 p241 q241
                          cases e241
                          replace hx241_0 := (HB.out.cell (World.block_lt_of_cell? _ _ hx241_0)).trans hx241_0
                          replace p241 := eq_true p241
                          replace q241 := eq_true q241
                          go_wp2_with (first | (go_at_call 57; (with_reducible refine (spec_l01Dec.calls k2 x11_2 t242 _ A28.out).mono ?_); rintro e w37 ⟨rfl, hb⟩; have n0_ := Aside0.mk (below_step (by repeat (first | (with_reducible first | exact HB.out | apply below_alloc | apply pw_below_drewN | apply below_drew1) | exact HB.out)) hb); clear HB; have HB := n0_; clear n0_; (try clear hb)) | (go_at_call 41; (with_reducible refine (ih k2 (by have := HK1.out; have := HK2.out; omega) _ _ l0 x11_2 a2 _ _ l3 t243 _ ?side1 ?side2 ?side3 ?side4 A31.out).mono ?_); (case side1 => repeat (first | exact (Kd.C_below HR0.out HB.out) | (with_reducible refine Kd.C_alloc ?_ _) | (with_reducible refine Kd.C_drewN ?_ _) | (with_reducible refine Kd.C_drew ?_))); (case side2 => exact HC0.out); (case side3 => repeat (first | exact (Kd.C_below HR3.out HB.out) | (with_reducible refine Kd.C_alloc ?_ _) | (with_reducible refine Kd.C_drewN ?_ _) | (with_reducible refine Kd.C_drew ?_))); (case side4 => exact HC3.out); rintro e w38 ⟨rfl, hb⟩; have n0_ := Aside0.mk (below_step (by repeat (first | (with_reducible first | exact HB.out | apply below_alloc | apply pw_below_drewN | apply below_drew1) | exact HB.out)) hb); clear HB; have HB := n0_; clear n0_; (try clear hb)) | (go_at_call 41; (with_reducible refine (ih k2 (by have := HK1.out; have := HK2.out; omega) _ _ l0 ji23 a2 _ _ l3 t244 _ ?side1 ?side2 ?side3 ?side4 A34.out).mono ?_); (case side1 => repeat (first | exact (Kd.C_below HR0.out HB.out) | (with_reducible refine Kd.C_alloc ?_ _) | (with_reducible refine Kd.C_drewN ?_ _) | (with_reducible refine Kd.C_drew ?_))); (case side2 => exact HC0.out); (case side3 => repeat (first | exact (Kd.C_below HR3.out HB.out) | (with_reducible refine Kd.C_alloc ?_ _) | (with_reducible refine Kd.C_drewN ?_ _) | (with_reducible refine Kd.C_drew ?_))); (case side4 => exact HC3.out); rintro e w39 ⟨rfl, hb⟩; have n0_ := Aside0.mk (below_step (by repeat (first | (with_reducible first | exact HB.out | apply below_alloc | apply pw_below_drewN | apply below_drew1) | exact HB.out)) hb); clear HB; have HB := n0_; clear n0_; (try clear hb)))
                          repeat (go_quiet (first | (go_at_call 57; (with_reducible refine (spec_l01Dec.calls k2 x11_2 t242 _ A28.out).mono ?_); rintro e w37 ⟨rfl, hb⟩; have n0_ := Aside0.mk (below_step (by repeat (first | (with_reducible first | exact HB.out | apply below_alloc | apply pw_below_drewN | apply below_drew1) | exact HB.out)) hb); clear HB; have HB := n0_; clear n0_; (try clear hb)) | (go_at_call 41; (with_reducible refine (ih k2 (by have := HK1.out; have := HK2.out; omega) _ _ l0 x11_2 a2 _ _ l3 t243 _ ?side1 ?side2 ?side3 ?side4 A31.out).mono ?_); (case side1 => repeat (first | exact (Kd.C_below HR0.out HB.out) | (with_reducible refine Kd.C_alloc ?_ _) | (with_reducible refine Kd.C_drewN ?_ _) | (with_reducible refine Kd.C_drew ?_))); (case side2 => exact HC0.out); (case side3 => repeat (first | exact (Kd.C_below HR3.out HB.out) | (with_reducible refine Kd.C_alloc ?_ _) | (with_reducible refine Kd.C_drewN ?_ _) | (with_reducible refine Kd.C_drew ?_))); (case side4 => exact HC3.out); rintro e w38 ⟨rfl, hb⟩; have n0_ := Aside0.mk (below_step (by repeat (first | (with_reducible first | exact HB.out | apply below_alloc | apply pw_below_drewN | apply below_drew1) | exact HB.out)) hb); clear HB; have HB := n0_; clear n0_; (try clear hb)) | (go_at_call 41; (with_reducible refine (ih k2 (by have := HK1.out; have := HK2.out; omega) _ _ l0 ji23 a2 _ _ l3 t244 _ ?side1 ?side2 ?side3 ?side4 A34.out).mono ?_); (case side1 => repeat (first | exact (Kd.C_below HR0.out HB.out) | (with_reducible refine Kd.C_alloc ?_ _) | (with_reducible refine Kd.C_drewN ?_ _) | (with_reducible refine Kd.C_drew ?_))); (case side2 => exact HC0.out); (case side3 => repeat (first | exact (Kd.C_below HR3.out HB.out) | (with_reducible refine Kd.C_alloc ?_ _) | (with_reducible refine Kd.C_drewN ?_ _) | (with_reducible refine Kd.C_drew ?_))); (case side4 => exact HC3.out); rintro e w39 ⟨rfl, hb⟩; have n0_ := Aside0.mk (below_step (by repeat (first | (with_reducible first | exact HB.out | apply below_alloc | apply pw_below_drewN | apply below_drew1) | exact HB.out)) hb); clear HB; have HB := n0_; clear n0_; (try clear hb))); try go_wp2_with (first | (go_at_call 57; (with_reducible refine (spec_l01Dec.calls k2 x11_2 t242 _ A28.out).mono ?_); rintro e w37 ⟨rfl, hb⟩; have n0_ := Aside0.mk (below_step (by repeat (first | (with_reducible first | exact HB.out | apply below_alloc | apply pw_below_drewN | apply below_drew1) | exact HB.out)) hb); clear HB; have HB := n0_; clear n0_; (try clear hb)) | (go_at_call 41; (with_reducible refine (ih k2 (by have := HK1.out; have := HK2.out; omega) _ _ l0 x11_2 a2 _ _ l3 t243 _ ?side1 ?side2 ?side3 ?side4 A31.out).mono ?_); (case side1 => repeat (first | exact (Kd.C_below HR0.out HB.out) | (with_reducible refine Kd.C_alloc ?_ _) | (with_reducible refine Kd.C_drewN ?_ _) | (with_reducible refine Kd.C_drew ?_))); (case side2 => exact HC0.out); (case side3 => repeat (first | exact (Kd.C_below HR3.out HB.out) | (with_reducible refine Kd.C_alloc ?_ _) | (with_reducible refine Kd.C_drewN ?_ _) | (with_reducible refine Kd.C_drew ?_))); (case side4 => exact HC3.out); rintro e w38 ⟨rfl, hb⟩; have n0_ := Aside0.mk (below_step (by repeat (first | (with_reducible first | exact HB.out | apply below_alloc | apply pw_below_drewN | apply below_drew1) | exact HB.out)) hb); clear HB; have HB := n0_; clear n0_; (try clear hb)) | (go_at_call 41; (with_reducible refine (ih k2 (by have := HK1.out; have := HK2.out; omega) _ _ l0 ji23 a2 _ _ l3 t244 _ ?side1 ?side2 ?side3 ?side4 A34.out).mono ?_); (case side1 => repeat (first | exact (Kd.C_below HR0.out HB.out) | (with_reducible refine Kd.C_alloc ?_ _) | (with_reducible refine Kd.C_drewN ?_ _) | (with_reducible refine Kd.C_drew ?_))); (case side2 => exact HC0.out); (case side3 => repeat (first | exact (Kd.C_below HR3.out HB.out) | (with_reducible refine Kd.C_alloc ?_ _) | (with_reducible refine Kd.C_drewN ?_ _) | (with_reducible refine Kd.C_drew ?_))); (case side4 => exact HC3.out); rintro e w39 ⟨rfl, hb⟩; have n0_ := Aside0.mk (below_step (by repeat (first | (with_reducible first | exact HB.out | apply below_alloc | apply pw_below_drewN | apply below_drew1) | exact HB.out)) hb); clear HB; have HB := n0_; clear n0_; (try clear hb))))
                          go_ret
                          exact ⟨by first | rfl | (simp [errW_none, errW_some] <;> rfl) | (simp only [← hji23]; first | rfl | (simp [errW_none, errW_some] <;> rfl)) | (simp [*, errW_none, errW_some] <;> rfl), by repeat (first | (with_reducible first | exact HB.out | apply below_alloc | apply pw_below_drewN | apply below_drew1) | exact HB.out)⟩
                         ·rw [if_neg c36] at H
                          exact absurd H (by simp)
                        ·rw [if_neg c35] at H
                         exact absurd H (by simp)
                       ·rw [if_neg c33] at H
                        exact absurd H (by simp)
                      ·rw [if_neg c32] at H
                       exact absurd H (by simp)
                     ·rw [if_neg c30] at H
                      exact absurd H (by simp)
                    ·rw [if_neg c29] at H
                     exact absurd H (by simp)
                   ·rw [if_neg c27] at H
                    have c27b0 : ((wrap64 ((rd (rd_L3 l0 x11_2) a2) + (rd (rd_L3 l0 (ji23)) a2))) == (rd (rd_L3 l0 a1) a2)) = false := beq_eq_false_iff_ne.mpr c27
                    have c27b1 : ((wrap64 ((rd (rd_L3 l0 x11_2) a2) + (rd (rd_L3 l0 (ji23)) a2))) != (rd (rd_L3 l0 a1) a2)) = true := bne_iff_ne.mpr c27
                    have H' := Aside0.mk H
                    clear H
                    have p238 : 0 ≤ (x11_2 : Int) := of_decide_eq_true (by first | (with_reducible assumption) | assumption)
                    have q238 : x11_2 < (l0.length : Int) := of_decide_eq_true (by first | (with_reducible assumption) | assumption)
                    obtain ⟨ad238, A238_0, c238_0, e238, hx238_0, hl238_0, hi238_0⟩ := at_L3 HR0.out x11_2 p238 q238
                    obtain rfl : ad233 = ad238 := (by injection e238)
                    replace hx238_0 := (HB.out.cell (World.block_lt_of_cell? _ _ hx238_0)).trans hx238_0
                    have HR238_0 := Aside0.mk hi238_0
                    have HC238_0 := Aside0.mk hl238_0
                    clear hi238_0 hl238_0
                    replace p238 := eq_true p238
                    replace q238 := eq_true q238
                    have p239 : 0 ≤ (a2 : Int) := of_decide_eq_true (by first | (with_reducible assumption) | assumption)
                    have q239 : a2 < ((rd_L3 l0 x11_2).length : Int) := of_decide_eq_true (by first | (with_reducible assumption) | assumption)
                    obtain ⟨ad239, e239, hx239_0⟩ := Kd.at_int HR238_0.out a2 p239 q239
                    cases e239
                    replace hx239_0 := (HB.out.cell (World.block_lt_of_cell? _ _ hx239_0)).trans hx239_0
                    replace p239 := eq_true p239
                    replace q239 := eq_true q239
                    have p240 : 0 ≤ ((ji23) : Int) := of_decide_eq_true (by first | (with_reducible assumption) | assumption)
                    have q240 : (ji23) < (l0.length : Int) := of_decide_eq_true (by first | (with_reducible assumption) | assumption)
                    obtain ⟨ad240, A240_0, c240_0, e240, hx240_0, hl240_0, hi240_0⟩ := at_L3 HR0.out (ji23) p240 q240
                    obtain rfl : ad233 = ad240 := (by injection e240)
                    replace hx240_0 := (HB.out.cell (World.block_lt_of_cell? _ _ hx240_0)).trans hx240_0
                    have HR240_0 := Aside0.mk hi240_0
                    have HC240_0 := Aside0.mk hl240_0
                    clear hi240_0 hl240_0
                    replace p240 := eq_true p240
                    replace q240 := eq_true q240
                    have p241 : 0 ≤ (a2 : Int) := of_decide_eq_true (by first | (with_reducible assumption) | assumption)
                    have q241 : a2 < ((rd_L3 l0 (ji23)).length : Int) := of_decide_eq_true (by first | (with_reducible assumption) | assumption)
                    obtain ⟨ad241, e241, hx241_0⟩ := Kd.at_int HR240_0.out a2 p241 q241
                    cases e241
                    replace hx241_0 := (HB.out.cell (World.block_lt_of_cell? _ _ hx241_0)).trans hx241_0
                    replace p241 := eq_true p241
                    replace q241 := eq_true q241
                    go_wp2
                    repeat (go_quiet (fail); try go_wp2)
                    go_roundg k2
                    case measure => have := HK1.out; have := HK2.out; omega
                    case rel => exact ⟨(wrap64 (x11_2 + 1)), (by first | rfl | (simp; done) | (simp [*]; done)), H', ⟨by have := HK1.out; have := HK2.out; omega⟩, ⟨by repeat (first | (with_reducible first | exact HB.out | apply below_alloc | apply pw_below_drewN | apply below_drew1) | exact HB.out)⟩⟩
                  ·rw [if_neg c26] at H
                   exact absurd H (by simp)
                 ·rw [if_neg c25] at H
                  exact absurd H (by simp)
                ·rw [if_neg c24] at H
                 exact absurd H (by simp)
               ·rw [if_neg c22] at H
                exact absurd H (by simp)
              ·rw [if_neg c21] at H
               exact absurd H (by simp)
             ·rw [if_neg c20] at H
              exact absurd H (by simp)
            ·rw [if_neg c19] at H
             exact absurd H (by simp)
           ·rw [if_neg c18] at H
            have c18b0 : decide (x11_2 < a1) = false := decide_eq_false c18
            clear c18
            have H' := Aside0.mk H
            clear H
            go_wp2
            repeat (go_quiet (fail); try go_wp2)
            go_loopg [12] k2 (fun kq v12 w' => ∃ (x12_3 : Int), v12 = .int .i64 x12_3 ∧ Aside0 (spec_l12Plan.l2 kq l0 a1 a2 l3 (rd (rd_L3 l0 a1) a2) x12_3 = some r) ∧ Aside0 (kq ≤ k2) ∧ Aside0 (Below w.heap.size w w'))
            case atStart => exact ⟨(1), (by first | rfl | (simp; done) | (simp [*]; done)), H', ⟨Nat.le_refl _⟩, ⟨by repeat (first | (with_reducible first | exact HB.out | apply below_alloc | apply pw_below_drewN | apply below_drew1) | exact HB.out)⟩⟩
            case round =>
             clear H'
             try clear c1
             try clear c2
             try clear p2
             try clear q2
             try clear hx2
             try clear c3
             try clear c4
             try clear c5
             try clear c5b0
             try clear c6
             try clear c6b0
             try clear p6
             try clear c7
             try clear c7b0
             try clear c8
             try clear c8b0
             try clear c9
             try clear c9b0
             try clear c9b1
             try clear c10
             try clear c10b0
             try clear c11
             try clear c11b0
             try clear c12
             try clear c12b0
             try clear c13
             try clear c13b0
             try clear c14
             try clear c14b0
             try clear c14b1
             try clear c15
             try clear c15b0
             try clear c16
             try clear c16b0
             try clear c16b1
             try clear c17
             try clear c17b0
             try clear c17b1
             try clear c18
             try clear c18b0
             try clear c19
             try clear c19b0
             try clear c20
             try clear c20b0
             try clear c21
             try clear c21b0
             try clear c22
             try clear c22b0
             try clear c23
             try clear p23
             try clear q23
             try clear hx23
             try clear c24
             try clear c24b0
             try clear p24
             try clear q24
             try clear hx24
             try clear c25
             try clear c25b0
             try clear c26
             try clear c26b0
             try clear c27
             try clear c27b0
             try clear c27b1
             try clear c29
             try clear c29b0
             try clear c29b1
             try clear c29b2
             try clear c30
             try clear c30b0
             try clear c30b1
             try clear c30b2
             try clear c32
             try clear c32b0
             try clear c32b1
             try clear c32b2
             try clear c33
             try clear c33b0
             try clear c33b1
             try clear c33b2
             try clear c35
             try clear c35b0
             try clear c35b1
             try clear c35b2
             try clear c36
             try clear c36b0
             try clear c36b1
             try clear c36b2
             try clear hx233_0
             try clear hx234_0
             try clear hx235_0
             try clear hx235_1
             try clear hx235_2
             try clear hx236_0
             try clear hx236_1
             try clear hx236_2
             try clear hx237_0
             try clear hx237_1
             try clear hx237_2
             try clear hx238_0
             try clear hx239_0
             try clear hx240_0
             try clear hx241_0
             try clear p2
             try clear p233
             try clear p234
             try clear p235
             try clear p236
             try clear p237
             try clear p238
             try clear p239
             try clear p240
             try clear p241
             try clear p6
             try clear q2
             try clear q233
             try clear q234
             try clear q235
             try clear q236
             try clear q237
             try clear q238
             try clear q239
             try clear q240
             try clear q241
             obtain ⟨x12_3, rfl, HA, HK3, HB⟩ := hrel
             cases gk with
             | zero => exact absurd HA.out (by simp [spec_l12Plan.l2])
             | succ k3 =>
              have H := HA.out
              clear HA
              simp only [spec_l12Plan.l2] at H
              by_cases c40 : 0 ≤ a1
              ·rw [if_pos c40] at H
               have c40b0 : decide (0 ≤ a1) = true := decide_eq_true c40
               clear c40
               by_cases c41 : a1 < (l0.length : Int)
               ·rw [if_pos c41] at H
                have c41b0 : decide (a1 < (l0.length : Int)) = true := decide_eq_true c41
                clear c41
                by_cases c42 : 0 ≤ x12_3
                ·rw [if_pos c42] at H
                 have c42b0 : decide (0 ≤ x12_3) = true := decide_eq_true c42
                 clear c42
                 by_cases c43 : x12_3 < ((rd_L3 l0 a1).length : Int)
                 ·rw [if_pos c43] at H
                  have c43b0 : decide (x12_3 < ((rd_L3 l0 a1).length : Int)) = true := decide_eq_true c43
                  clear c43
                  obtain ⟨ji44, hji44⟩ : ∃ j_ : Int, (wrap64 (a2 - x12_3)) = j_ := ⟨_, rfl⟩
                  replace H : (if 0 ≤ (ji44) then (if (ji44) < ((rd_L3 l0 a1).length : Int) then (if (wrap64 ((rd (rd_L3 l0 a1) x12_3) + (rd (rd_L3 l0 a1) (ji44)))) = (rd (rd_L3 l0 a1) a2) then ((spec_l01Dec.f k3 x12_3).bind fun t249 => (if 1 + t249.size ≤ 9223372036854775807 then (if ((⟨#[45]⟩ : ByteArray) ++ t249).size + 1 ≤ 9223372036854775807 then ((spec_l12Plan.f k3 l0 a1 x12_3 l3).bind fun t250 => (if (((⟨#[45]⟩ : ByteArray) ++ t249) ++ (⟨#[40]⟩ : ByteArray)).size + t250.size ≤ 9223372036854775807 then (if ((((⟨#[45]⟩ : ByteArray) ++ t249) ++ (⟨#[40]⟩ : ByteArray)) ++ t250).size + 2 ≤ 9223372036854775807 then ((spec_l12Plan.f k3 l0 a1 (ji44) l3).bind fun t251 => (if (((((⟨#[45]⟩ : ByteArray) ++ t249) ++ (⟨#[40]⟩ : ByteArray)) ++ t250) ++ (⟨#[41, 40]⟩ : ByteArray)).size + t251.size ≤ 9223372036854775807 then (if ((((((⟨#[45]⟩ : ByteArray) ++ t249) ++ (⟨#[40]⟩ : ByteArray)) ++ t250) ++ (⟨#[41, 40]⟩ : ByteArray)) ++ t251).size + 1 ≤ 9223372036854775807 then (some (((((((⟨#[45]⟩ : ByteArray) ++ t249) ++ (⟨#[40]⟩ : ByteArray)) ++ t250) ++ (⟨#[41, 40]⟩ : ByteArray)) ++ t251) ++ (⟨#[41]⟩ : ByteArray))) else (none)) else (none))) else (none)) else (none))) else (none)) else (none))) else (spec_l12Plan.l2 k3 l0 a1 a2 l3 (rd (rd_L3 l0 a1) a2) (wrap64 (x12_3 + 1)))) else (none)) else (none)) = some r := by first | (rw [hji44] at H; exact H) | (simp only [hji44] at H ⊢; exact H)
                  have hji44w : (IntKind.i64.wrap (a2 - x12_3)) = ji44 := (i64_w _).trans hji44
                  by_cases c45 : 0 ≤ (ji44)
                  ·rw [if_pos c45] at H
                   have c45b0 : decide (0 ≤ (ji44)) = true := decide_eq_true c45
                   clear c45
                   by_cases c46 : (ji44) < ((rd_L3 l0 a1).length : Int)
                   ·rw [if_pos c46] at H
                    have c46b0 : decide ((ji44) < ((rd_L3 l0 a1).length : Int)) = true := decide_eq_true c46
                    clear c46
                    by_cases c47 : (wrap64 ((rd (rd_L3 l0 a1) x12_3) + (rd (rd_L3 l0 a1) (ji44)))) = (rd (rd_L3 l0 a1) a2)
                    ·rw [if_pos c47] at H
                     have c47b0 : ((wrap64 ((rd (rd_L3 l0 a1) x12_3) + (rd (rd_L3 l0 a1) (ji44)))) == (rd (rd_L3 l0 a1) a2)) = true := beq_iff_eq.mpr c47
                     have c47b1 : ((wrap64 ((rd (rd_L3 l0 a1) x12_3) + (rd (rd_L3 l0 a1) (ji44)))) != (rd (rd_L3 l0 a1) a2)) = false := bne_eq_false_iff_eq.mpr c47
                     clear c47
                     replace H := Option.bind_eq_some_iff.mp H
                     obtain ⟨t249, A480, H⟩ := H
                     replace H : (if 1 + t249.size ≤ 9223372036854775807 then (if ((⟨#[45]⟩ : ByteArray) ++ t249).size + 1 ≤ 9223372036854775807 then ((spec_l12Plan.f k3 l0 a1 x12_3 l3).bind fun t250 => (if (((⟨#[45]⟩ : ByteArray) ++ t249) ++ (⟨#[40]⟩ : ByteArray)).size + t250.size ≤ 9223372036854775807 then (if ((((⟨#[45]⟩ : ByteArray) ++ t249) ++ (⟨#[40]⟩ : ByteArray)) ++ t250).size + 2 ≤ 9223372036854775807 then ((spec_l12Plan.f k3 l0 a1 (ji44) l3).bind fun t251 => (if (((((⟨#[45]⟩ : ByteArray) ++ t249) ++ (⟨#[40]⟩ : ByteArray)) ++ t250) ++ (⟨#[41, 40]⟩ : ByteArray)).size + t251.size ≤ 9223372036854775807 then (if ((((((⟨#[45]⟩ : ByteArray) ++ t249) ++ (⟨#[40]⟩ : ByteArray)) ++ t250) ++ (⟨#[41, 40]⟩ : ByteArray)) ++ t251).size + 1 ≤ 9223372036854775807 then (some (((((((⟨#[45]⟩ : ByteArray) ++ t249) ++ (⟨#[40]⟩ : ByteArray)) ++ t250) ++ (⟨#[41, 40]⟩ : ByteArray)) ++ t251) ++ (⟨#[41]⟩ : ByteArray))) else (none)) else (none))) else (none)) else (none))) else (none)) else (none)) = some r := H
                     have A48 := Aside0.mk A480
                     clear A480
                     by_cases c49 : 1 + t249.size ≤ 9223372036854775807
                     ·rw [if_pos c49] at H
                      have c49b0 := eq_true c49
                      have c49b1 : decide (1 + t249.size ≤ 9223372036854775807) = true := decide_eq_true c49
                      try have c49b2 : (9223372036854775807 < 1 + t249.size) = False := eq_false (Nat.not_lt.2 c49)
                      by_cases c50 : ((⟨#[45]⟩ : ByteArray) ++ t249).size + 1 ≤ 9223372036854775807
                      ·rw [if_pos c50] at H
                       have c50b0 := eq_true c50
                       have c50b1 : decide (((⟨#[45]⟩ : ByteArray) ++ t249).size + 1 ≤ 9223372036854775807) = true := decide_eq_true c50
                       try have c50b2 : (9223372036854775807 < ((⟨#[45]⟩ : ByteArray) ++ t249).size + 1) = False := eq_false (Nat.not_lt.2 c50)
                       try have c50b6 : (9223372036854775807 < 1 + t249.size + 1) = False := (by have h_ := c50b2; simp only [ByteArray.size_append] at h_; exact h_)
                       try have c50b3 : (9223372036854775807 < ((⟨#[45]⟩ : ByteArray) ++ t249).size + 1) = False := c50b2
                       try simp only [ByteArray.size_append] at c50b3
                       replace H := Option.bind_eq_some_iff.mp H
                       obtain ⟨t250, A510, H⟩ := H
                       replace H : (if (((⟨#[45]⟩ : ByteArray) ++ t249) ++ (⟨#[40]⟩ : ByteArray)).size + t250.size ≤ 9223372036854775807 then (if ((((⟨#[45]⟩ : ByteArray) ++ t249) ++ (⟨#[40]⟩ : ByteArray)) ++ t250).size + 2 ≤ 9223372036854775807 then ((spec_l12Plan.f k3 l0 a1 (ji44) l3).bind fun t251 => (if (((((⟨#[45]⟩ : ByteArray) ++ t249) ++ (⟨#[40]⟩ : ByteArray)) ++ t250) ++ (⟨#[41, 40]⟩ : ByteArray)).size + t251.size ≤ 9223372036854775807 then (if ((((((⟨#[45]⟩ : ByteArray) ++ t249) ++ (⟨#[40]⟩ : ByteArray)) ++ t250) ++ (⟨#[41, 40]⟩ : ByteArray)) ++ t251).size + 1 ≤ 9223372036854775807 then (some (((((((⟨#[45]⟩ : ByteArray) ++ t249) ++ (⟨#[40]⟩ : ByteArray)) ++ t250) ++ (⟨#[41, 40]⟩ : ByteArray)) ++ t251) ++ (⟨#[41]⟩ : ByteArray))) else (none)) else (none))) else (none)) else (none)) = some r := H
                       have A51 := Aside0.mk A510
                       clear A510
                       by_cases c52 : (((⟨#[45]⟩ : ByteArray) ++ t249) ++ (⟨#[40]⟩ : ByteArray)).size + t250.size ≤ 9223372036854775807
                       ·rw [if_pos c52] at H
                        have c52b0 := eq_true c52
                        have c52b1 : decide ((((⟨#[45]⟩ : ByteArray) ++ t249) ++ (⟨#[40]⟩ : ByteArray)).size + t250.size ≤ 9223372036854775807) = true := decide_eq_true c52
                        try have c52b2 : (9223372036854775807 < (((⟨#[45]⟩ : ByteArray) ++ t249) ++ (⟨#[40]⟩ : ByteArray)).size + t250.size) = False := eq_false (Nat.not_lt.2 c52)
                        try have c52b6 : (9223372036854775807 < 1 + t249.size + 1 + t250.size) = False := (by have h_ := c52b2; simp only [ByteArray.size_append] at h_; exact h_)
                        try have c52b3 : (9223372036854775807 < (((⟨#[45]⟩ : ByteArray) ++ t249) ++ (⟨#[40]⟩ : ByteArray)).size + t250.size) = False := c52b2
                        try simp only [ByteArray.size_append] at c52b3
                        by_cases c53 : ((((⟨#[45]⟩ : ByteArray) ++ t249) ++ (⟨#[40]⟩ : ByteArray)) ++ t250).size + 2 ≤ 9223372036854775807
                        ·rw [if_pos c53] at H
                         have c53b0 := eq_true c53
                         have c53b1 : decide (((((⟨#[45]⟩ : ByteArray) ++ t249) ++ (⟨#[40]⟩ : ByteArray)) ++ t250).size + 2 ≤ 9223372036854775807) = true := decide_eq_true c53
                         try have c53b2 : (9223372036854775807 < ((((⟨#[45]⟩ : ByteArray) ++ t249) ++ (⟨#[40]⟩ : ByteArray)) ++ t250).size + 2) = False := eq_false (Nat.not_lt.2 c53)
                         try have c53b6 : (9223372036854775807 < 1 + t249.size + 1 + t250.size + 2) = False := (by have h_ := c53b2; simp only [ByteArray.size_append] at h_; exact h_)
                         try have c53b3 : (9223372036854775807 < ((((⟨#[45]⟩ : ByteArray) ++ t249) ++ (⟨#[40]⟩ : ByteArray)) ++ t250).size + 2) = False := c53b2
                         try simp only [ByteArray.size_append] at c53b3
                         replace H := Option.bind_eq_some_iff.mp H
                         obtain ⟨t251, A540, H⟩ := H
                         replace H : (if (((((⟨#[45]⟩ : ByteArray) ++ t249) ++ (⟨#[40]⟩ : ByteArray)) ++ t250) ++ (⟨#[41, 40]⟩ : ByteArray)).size + t251.size ≤ 9223372036854775807 then (if ((((((⟨#[45]⟩ : ByteArray) ++ t249) ++ (⟨#[40]⟩ : ByteArray)) ++ t250) ++ (⟨#[41, 40]⟩ : ByteArray)) ++ t251).size + 1 ≤ 9223372036854775807 then (some (((((((⟨#[45]⟩ : ByteArray) ++ t249) ++ (⟨#[40]⟩ : ByteArray)) ++ t250) ++ (⟨#[41, 40]⟩ : ByteArray)) ++ t251) ++ (⟨#[41]⟩ : ByteArray))) else (none)) else (none)) = some r := H
                         have A54 := Aside0.mk A540
                         clear A540
                         by_cases c55 : (((((⟨#[45]⟩ : ByteArray) ++ t249) ++ (⟨#[40]⟩ : ByteArray)) ++ t250) ++ (⟨#[41, 40]⟩ : ByteArray)).size + t251.size ≤ 9223372036854775807
                         ·rw [if_pos c55] at H
                          have c55b0 := eq_true c55
                          have c55b1 : decide ((((((⟨#[45]⟩ : ByteArray) ++ t249) ++ (⟨#[40]⟩ : ByteArray)) ++ t250) ++ (⟨#[41, 40]⟩ : ByteArray)).size + t251.size ≤ 9223372036854775807) = true := decide_eq_true c55
                          try have c55b2 : (9223372036854775807 < (((((⟨#[45]⟩ : ByteArray) ++ t249) ++ (⟨#[40]⟩ : ByteArray)) ++ t250) ++ (⟨#[41, 40]⟩ : ByteArray)).size + t251.size) = False := eq_false (Nat.not_lt.2 c55)
                          try have c55b6 : (9223372036854775807 < 1 + t249.size + 1 + t250.size + 2 + t251.size) = False := (by have h_ := c55b2; simp only [ByteArray.size_append] at h_; exact h_)
                          try have c55b3 : (9223372036854775807 < (((((⟨#[45]⟩ : ByteArray) ++ t249) ++ (⟨#[40]⟩ : ByteArray)) ++ t250) ++ (⟨#[41, 40]⟩ : ByteArray)).size + t251.size) = False := c55b2
                          try simp only [ByteArray.size_append] at c55b3
                          by_cases c56 : ((((((⟨#[45]⟩ : ByteArray) ++ t249) ++ (⟨#[40]⟩ : ByteArray)) ++ t250) ++ (⟨#[41, 40]⟩ : ByteArray)) ++ t251).size + 1 ≤ 9223372036854775807
                          ·rw [if_pos c56] at H
                           have c56b0 := eq_true c56
                           have c56b1 : decide (((((((⟨#[45]⟩ : ByteArray) ++ t249) ++ (⟨#[40]⟩ : ByteArray)) ++ t250) ++ (⟨#[41, 40]⟩ : ByteArray)) ++ t251).size + 1 ≤ 9223372036854775807) = true := decide_eq_true c56
                           try have c56b2 : (9223372036854775807 < ((((((⟨#[45]⟩ : ByteArray) ++ t249) ++ (⟨#[40]⟩ : ByteArray)) ++ t250) ++ (⟨#[41, 40]⟩ : ByteArray)) ++ t251).size + 1) = False := eq_false (Nat.not_lt.2 c56)
                           try have c56b6 : (9223372036854775807 < 1 + t249.size + 1 + t250.size + 2 + t251.size + 1) = False := (by have h_ := c56b2; simp only [ByteArray.size_append] at h_; exact h_)
                           try have c56b3 : (9223372036854775807 < ((((((⟨#[45]⟩ : ByteArray) ++ t249) ++ (⟨#[40]⟩ : ByteArray)) ++ t250) ++ (⟨#[41, 40]⟩ : ByteArray)) ++ t251).size + 1) = False := c56b2
                           try simp only [ByteArray.size_append] at c56b3
                           obtain rfl := Option.some.inj H
                           have p245 : 0 ≤ (a1 : Int) := of_decide_eq_true (by first | (with_reducible assumption) | assumption)
                           have q245 : a1 < (l0.length : Int) := of_decide_eq_true (by first | (with_reducible assumption) | assumption)
                           obtain ⟨ad245, A245_0, c245_0, e245, hx245_0, hl245_0, hi245_0⟩ := at_L3 HR0.out a1 p245 q245
                           obtain rfl : ad233 = ad245 := (by injection e245)
                           replace hx245_0 := (HB.out.cell (World.block_lt_of_cell? _ _ hx245_0)).trans hx245_0
                           have HR245_0 := Aside0.mk hi245_0
                           have HC245_0 := Aside0.mk hl245_0
                           clear hi245_0 hl245_0
                           replace p245 := eq_true p245
                           replace q245 := eq_true q245
                           have p246 : 0 ≤ (x12_3 : Int) := of_decide_eq_true (by first | (with_reducible assumption) | assumption)
                           have q246 : x12_3 < ((rd_L3 l0 a1).length : Int) := of_decide_eq_true (by first | (with_reducible assumption) | assumption)
                           obtain ⟨ad246, e246, hx246_0⟩ := Kd.at_int HR245_0.out x12_3 p246 q246
                           cases e246
                           replace hx246_0 := (HB.out.cell (World.block_lt_of_cell? _ _ hx246_0)).trans hx246_0
                           replace p246 := eq_true p246
                           replace q246 := eq_true q246
                           have p247 : 0 ≤ (a1 : Int) := of_decide_eq_true (by first | (with_reducible assumption) | assumption)
                           have q247 : a1 < (l0.length : Int) := of_decide_eq_true (by first | (with_reducible assumption) | assumption)
                           obtain ⟨ad247, A247_0, c247_0, e247, hx247_0, hl247_0, hi247_0⟩ := at_L3 HR0.out a1 p247 q247
                           obtain rfl : ad233 = ad247 := (by injection e247)
                           replace hx247_0 := (HB.out.cell (World.block_lt_of_cell? _ _ hx247_0)).trans hx247_0
                           have HR247_0 := Aside0.mk hi247_0
                           have HC247_0 := Aside0.mk hl247_0
                           clear hi247_0 hl247_0
                           replace p247 := eq_true p247
                           replace q247 := eq_true q247
                           have ea_ := Option.some.inj (hx245_0.symm.trans hx247_0)
                           injection ea_ with ea_ en_ ec_
                           subst ea_
                           subst ec_
                           clear en_
                           have p248 : 0 ≤ ((ji44) : Int) := of_decide_eq_true (by first | (with_reducible assumption) | assumption)
                           have q248 : (ji44) < ((rd_L3 l0 a1).length : Int) := of_decide_eq_true (by first | (with_reducible assumption) | assumption)
                           obtain ⟨ad248, e248, hx248_0⟩ := Kd.at_int HR247_0.out (ji44) p248 q248
                           cases e248
                           replace hx248_0 := (HB.out.cell (World.block_lt_of_cell? _ _ hx248_0)).trans hx248_0
                           replace p248 := eq_true p248
                           replace q248 := eq_true q248
                           go_wp2_with (first | (go_at_call 57; (with_reducible refine (spec_l01Dec.calls k3 x12_3 t249 _ A48.out).mono ?_); rintro e w57 ⟨rfl, hb⟩; have n0_ := Aside0.mk (below_step (by repeat (first | (with_reducible first | exact HB.out | apply below_alloc | apply pw_below_drewN | apply below_drew1) | exact HB.out)) hb); clear HB; have HB := n0_; clear n0_; (try clear hb)) | (go_at_call 41; (with_reducible refine (ih k3 (by have := HK1.out; have := HK2.out; have := HK3.out; omega) _ _ l0 a1 x12_3 _ _ l3 t250 _ ?side1 ?side2 ?side3 ?side4 A51.out).mono ?_); (case side1 => repeat (first | exact (Kd.C_below HR0.out HB.out) | (with_reducible refine Kd.C_alloc ?_ _) | (with_reducible refine Kd.C_drewN ?_ _) | (with_reducible refine Kd.C_drew ?_))); (case side2 => exact HC0.out); (case side3 => repeat (first | exact (Kd.C_below HR3.out HB.out) | (with_reducible refine Kd.C_alloc ?_ _) | (with_reducible refine Kd.C_drewN ?_ _) | (with_reducible refine Kd.C_drew ?_))); (case side4 => exact HC3.out); rintro e w58 ⟨rfl, hb⟩; have n0_ := Aside0.mk (below_step (by repeat (first | (with_reducible first | exact HB.out | apply below_alloc | apply pw_below_drewN | apply below_drew1) | exact HB.out)) hb); clear HB; have HB := n0_; clear n0_; (try clear hb)) | (go_at_call 41; (with_reducible refine (ih k3 (by have := HK1.out; have := HK2.out; have := HK3.out; omega) _ _ l0 a1 ji44 _ _ l3 t251 _ ?side1 ?side2 ?side3 ?side4 A54.out).mono ?_); (case side1 => repeat (first | exact (Kd.C_below HR0.out HB.out) | (with_reducible refine Kd.C_alloc ?_ _) | (with_reducible refine Kd.C_drewN ?_ _) | (with_reducible refine Kd.C_drew ?_))); (case side2 => exact HC0.out); (case side3 => repeat (first | exact (Kd.C_below HR3.out HB.out) | (with_reducible refine Kd.C_alloc ?_ _) | (with_reducible refine Kd.C_drewN ?_ _) | (with_reducible refine Kd.C_drew ?_))); (case side4 => exact HC3.out); rintro e w59 ⟨rfl, hb⟩; have n0_ := Aside0.mk (below_step (by repeat (first | (with_reducible first | exact HB.out | apply below_alloc | apply pw_below_drewN | apply below_drew1) | exact HB.out)) hb); clear HB; have HB := n0_; clear n0_; (try clear hb)))
                           repeat (go_quiet (first | (go_at_call 57; (with_reducible refine (spec_l01Dec.calls k3 x12_3 t249 _ A48.out).mono ?_); rintro e w57 ⟨rfl, hb⟩; have n0_ := Aside0.mk (below_step (by repeat (first | (with_reducible first | exact HB.out | apply below_alloc | apply pw_below_drewN | apply below_drew1) | exact HB.out)) hb); clear HB; have HB := n0_; clear n0_; (try clear hb)) | (go_at_call 41; (with_reducible refine (ih k3 (by have := HK1.out; have := HK2.out; have := HK3.out; omega) _ _ l0 a1 x12_3 _ _ l3 t250 _ ?side1 ?side2 ?side3 ?side4 A51.out).mono ?_); (case side1 => repeat (first | exact (Kd.C_below HR0.out HB.out) | (with_reducible refine Kd.C_alloc ?_ _) | (with_reducible refine Kd.C_drewN ?_ _) | (with_reducible refine Kd.C_drew ?_))); (case side2 => exact HC0.out); (case side3 => repeat (first | exact (Kd.C_below HR3.out HB.out) | (with_reducible refine Kd.C_alloc ?_ _) | (with_reducible refine Kd.C_drewN ?_ _) | (with_reducible refine Kd.C_drew ?_))); (case side4 => exact HC3.out); rintro e w58 ⟨rfl, hb⟩; have n0_ := Aside0.mk (below_step (by repeat (first | (with_reducible first | exact HB.out | apply below_alloc | apply pw_below_drewN | apply below_drew1) | exact HB.out)) hb); clear HB; have HB := n0_; clear n0_; (try clear hb)) | (go_at_call 41; (with_reducible refine (ih k3 (by have := HK1.out; have := HK2.out; have := HK3.out; omega) _ _ l0 a1 ji44 _ _ l3 t251 _ ?side1 ?side2 ?side3 ?side4 A54.out).mono ?_); (case side1 => repeat (first | exact (Kd.C_below HR0.out HB.out) | (with_reducible refine Kd.C_alloc ?_ _) | (with_reducible refine Kd.C_drewN ?_ _) | (with_reducible refine Kd.C_drew ?_))); (case side2 => exact HC0.out); (case side3 => repeat (first | exact (Kd.C_below HR3.out HB.out) | (with_reducible refine Kd.C_alloc ?_ _) | (with_reducible refine Kd.C_drewN ?_ _) | (with_reducible refine Kd.C_drew ?_))); (case side4 => exact HC3.out); rintro e w59 ⟨rfl, hb⟩; have n0_ := Aside0.mk (below_step (by repeat (first | (with_reducible first | exact HB.out | apply below_alloc | apply pw_below_drewN | apply below_drew1) | exact HB.out)) hb); clear HB; have HB := n0_; clear n0_; (try clear hb))); try go_wp2_with (first | (go_at_call 57; (with_reducible refine (spec_l01Dec.calls k3 x12_3 t249 _ A48.out).mono ?_); rintro e w57 ⟨rfl, hb⟩; have n0_ := Aside0.mk (below_step (by repeat (first | (with_reducible first | exact HB.out | apply below_alloc | apply pw_below_drewN | apply below_drew1) | exact HB.out)) hb); clear HB; have HB := n0_; clear n0_; (try clear hb)) | (go_at_call 41; (with_reducible refine (ih k3 (by have := HK1.out; have := HK2.out; have := HK3.out; omega) _ _ l0 a1 x12_3 _ _ l3 t250 _ ?side1 ?side2 ?side3 ?side4 A51.out).mono ?_); (case side1 => repeat (first | exact (Kd.C_below HR0.out HB.out) | (with_reducible refine Kd.C_alloc ?_ _) | (with_reducible refine Kd.C_drewN ?_ _) | (with_reducible refine Kd.C_drew ?_))); (case side2 => exact HC0.out); (case side3 => repeat (first | exact (Kd.C_below HR3.out HB.out) | (with_reducible refine Kd.C_alloc ?_ _) | (with_reducible refine Kd.C_drewN ?_ _) | (with_reducible refine Kd.C_drew ?_))); (case side4 => exact HC3.out); rintro e w58 ⟨rfl, hb⟩; have n0_ := Aside0.mk (below_step (by repeat (first | (with_reducible first | exact HB.out | apply below_alloc | apply pw_below_drewN | apply below_drew1) | exact HB.out)) hb); clear HB; have HB := n0_; clear n0_; (try clear hb)) | (go_at_call 41; (with_reducible refine (ih k3 (by have := HK1.out; have := HK2.out; have := HK3.out; omega) _ _ l0 a1 ji44 _ _ l3 t251 _ ?side1 ?side2 ?side3 ?side4 A54.out).mono ?_); (case side1 => repeat (first | exact (Kd.C_below HR0.out HB.out) | (with_reducible refine Kd.C_alloc ?_ _) | (with_reducible refine Kd.C_drewN ?_ _) | (with_reducible refine Kd.C_drew ?_))); (case side2 => exact HC0.out); (case side3 => repeat (first | exact (Kd.C_below HR3.out HB.out) | (with_reducible refine Kd.C_alloc ?_ _) | (with_reducible refine Kd.C_drewN ?_ _) | (with_reducible refine Kd.C_drew ?_))); (case side4 => exact HC3.out); rintro e w59 ⟨rfl, hb⟩; have n0_ := Aside0.mk (below_step (by repeat (first | (with_reducible first | exact HB.out | apply below_alloc | apply pw_below_drewN | apply below_drew1) | exact HB.out)) hb); clear HB; have HB := n0_; clear n0_; (try clear hb))))
                           go_ret
                           exact ⟨by first | rfl | (simp [errW_none, errW_some] <;> rfl) | (simp only [← hji44]; first | rfl | (simp [errW_none, errW_some] <;> rfl)) | (simp [*, errW_none, errW_some] <;> rfl), by repeat (first | (with_reducible first | exact HB.out | apply below_alloc | apply pw_below_drewN | apply below_drew1) | exact HB.out)⟩
                          ·rw [if_neg c56] at H
                           exact absurd H (by simp)
                         ·rw [if_neg c55] at H
                          exact absurd H (by simp)
                        ·rw [if_neg c53] at H
                         exact absurd H (by simp)
                       ·rw [if_neg c52] at H
                        exact absurd H (by simp)
                      ·rw [if_neg c50] at H
                       exact absurd H (by simp)
                     ·rw [if_neg c49] at H
                      exact absurd H (by simp)
                    ·rw [if_neg c47] at H
                     have c47b0 : ((wrap64 ((rd (rd_L3 l0 a1) x12_3) + (rd (rd_L3 l0 a1) (ji44)))) == (rd (rd_L3 l0 a1) a2)) = false := beq_eq_false_iff_ne.mpr c47
                     have c47b1 : ((wrap64 ((rd (rd_L3 l0 a1) x12_3) + (rd (rd_L3 l0 a1) (ji44)))) != (rd (rd_L3 l0 a1) a2)) = true := bne_iff_ne.mpr c47
                     have H' := Aside0.mk H
                     clear H
                     have p245 : 0 ≤ (a1 : Int) := of_decide_eq_true (by first | (with_reducible assumption) | assumption)
                     have q245 : a1 < (l0.length : Int) := of_decide_eq_true (by first | (with_reducible assumption) | assumption)
                     obtain ⟨ad245, A245_0, c245_0, e245, hx245_0, hl245_0, hi245_0⟩ := at_L3 HR0.out a1 p245 q245
                     obtain rfl : ad233 = ad245 := (by injection e245)
                     replace hx245_0 := (HB.out.cell (World.block_lt_of_cell? _ _ hx245_0)).trans hx245_0
                     have HR245_0 := Aside0.mk hi245_0
                     have HC245_0 := Aside0.mk hl245_0
                     clear hi245_0 hl245_0
                     replace p245 := eq_true p245
                     replace q245 := eq_true q245
                     have p246 : 0 ≤ (x12_3 : Int) := of_decide_eq_true (by first | (with_reducible assumption) | assumption)
                     have q246 : x12_3 < ((rd_L3 l0 a1).length : Int) := of_decide_eq_true (by first | (with_reducible assumption) | assumption)
                     obtain ⟨ad246, e246, hx246_0⟩ := Kd.at_int HR245_0.out x12_3 p246 q246
                     cases e246
                     replace hx246_0 := (HB.out.cell (World.block_lt_of_cell? _ _ hx246_0)).trans hx246_0
                     replace p246 := eq_true p246
                     replace q246 := eq_true q246
                     have p247 : 0 ≤ (a1 : Int) := of_decide_eq_true (by first | (with_reducible assumption) | assumption)
                     have q247 : a1 < (l0.length : Int) := of_decide_eq_true (by first | (with_reducible assumption) | assumption)
                     obtain ⟨ad247, A247_0, c247_0, e247, hx247_0, hl247_0, hi247_0⟩ := at_L3 HR0.out a1 p247 q247
                     obtain rfl : ad233 = ad247 := (by injection e247)
                     replace hx247_0 := (HB.out.cell (World.block_lt_of_cell? _ _ hx247_0)).trans hx247_0
                     have HR247_0 := Aside0.mk hi247_0
                     have HC247_0 := Aside0.mk hl247_0
                     clear hi247_0 hl247_0
                     replace p247 := eq_true p247
                     replace q247 := eq_true q247
                     have ea_ := Option.some.inj (hx245_0.symm.trans hx247_0)
                     injection ea_ with ea_ en_ ec_
                     subst ea_
                     subst ec_
                     clear en_
                     have p248 : 0 ≤ ((ji44) : Int) := of_decide_eq_true (by first | (with_reducible assumption) | assumption)
                     have q248 : (ji44) < ((rd_L3 l0 a1).length : Int) := of_decide_eq_true (by first | (with_reducible assumption) | assumption)
                     obtain ⟨ad248, e248, hx248_0⟩ := Kd.at_int HR247_0.out (ji44) p248 q248
                     cases e248
                     replace hx248_0 := (HB.out.cell (World.block_lt_of_cell? _ _ hx248_0)).trans hx248_0
                     replace p248 := eq_true p248
                     replace q248 := eq_true q248
                     go_wp2
                     repeat (go_quiet (fail); try go_wp2)
                     go_roundg k3
                     case measure => have := HK1.out; have := HK2.out; have := HK3.out; omega
                     case rel => exact ⟨(wrap64 (x12_3 + 1)), (by first | rfl | (simp; done) | (simp [*]; done)), H', ⟨by have := HK1.out; have := HK2.out; have := HK3.out; omega⟩, ⟨by repeat (first | (with_reducible first | exact HB.out | apply below_alloc | apply pw_below_drewN | apply below_drew1) | exact HB.out)⟩⟩
                   ·rw [if_neg c46] at H
                    exact absurd H (by simp)
                  ·rw [if_neg c45] at H
                   exact absurd H (by simp)
                 ·rw [if_neg c43] at H
                  exact absurd H (by simp)
                ·rw [if_neg c42] at H
                 exact absurd H (by simp)
               ·rw [if_neg c41] at H
                exact absurd H (by simp)
              ·rw [if_neg c40] at H
               exact absurd H (by simp)
    ·rw [if_neg c8] at H
     exact absurd H (by simp)
   ·rw [if_neg c7] at H
    exact absurd H (by simp)
  ·rw [if_neg c6] at H
   exact absurd H (by simp)
 ·rw [if_neg c5] at H
  exact absurd H (by simp)

end Go.Proofs.YtomddpdfcdnaaaaDoor.PFnPlanValues
