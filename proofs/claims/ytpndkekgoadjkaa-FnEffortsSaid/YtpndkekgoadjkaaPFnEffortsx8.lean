-- Written by a program of this session.
import Derived.Test.YtpndkekgoadjkaaPFnEffortsx0
import Derived.Test.YtpndkekgoadjkaaPFnEffortsx2
import Derived.Test.YtpndkekgoadjkaaPFnEffortsx3
import Derived.Test.YtpndkekgoadjkaaPFnEffortsx4
import Derived.Test.YtpndkekgoadjkaaPFnEffortsx5
import Derived.Test.YtpndkekgoadjkaaPFnEffortsx6
import Derived.Test.YtpndkekgoadjkaaPFnEffortsx7
namespace Go.Proofs.Ytpndkekgoadjkaa.PFnEfforts
open Go.RowKit Go.Proofs.YtpndkekgoadjkaaW.PrintWords Go.Proofs.YtpndkekgoadjkaaW.PrintLast Go.Proofs.YtpndkekgoadjkaaW.PrintMore
attribute [local go_sem] max2_int min2_int max_two min_two max_three min_three max_four min_four   -- for this text's walks alone
set_option linter.unusedVariables false
set_option linter.unusedSimpArgs false

/-! ### laws_likeInts: function 33 -/
def laws_likeInts.l0 : Nat → List Int → List Int → Int → Option (Bool)
  | 0, _, _, _ => none
  | k + 1, x0, x1, x5 => if x5 < (x0.length : Int) then (if 0 ≤ x5 then (if x5 < (x1.length : Int) then (if (rd x0 x5) = (rd x1 x5) then (laws_likeInts.l0 k x0 x1 (wrap64 (x5 + 1))) else (some false)) else (none)) else (none)) else (some true)
def laws_likeInts.f (k : Nat) (l0 : List Int) (l1 : List Int) : Option (Bool) := if (l0.length : Int) = (l1.length : Int) then (laws_likeInts.l0 k l0 l1 0) else (some false)
theorem laws_likeInts.mono_l : ∀ k, (∀ y0 y1 y2, LeO (laws_likeInts.l0 k y0 y1 y2) (laws_likeInts.l0 (k + 1) y0 y1 y2))
  | 0 => fun _ _ _ r h => by simp [laws_likeInts.l0] at h
  | k + 1 => by
    have ih0 := laws_likeInts.mono_l k
    · intro y0 y1 y2
      unfold laws_likeInts.l0
      repeat' first
      | (with_reducible exact ih0 _ _ _)
      | (with_reducible exact LeO.refl _)
      | (with_reducible exact LeO.none _)
      | (with_reducible refine LeO.ite ?_ ?_)
      | (with_reducible refine LeO.bind ?_ (fun _ => ?_))
      | exact ih0 _ _ _
      | exact LeO.none _
      | refine LeO.ite ?_ ?_
      | refine LeO.bind ?_ (fun _ => ?_)
theorem laws_likeInts.mono : ∀ a0 a1 k, LeO (laws_likeInts.f k a0 a1) (laws_likeInts.f (k + 1) a0 a1) := by
  intro a0 a1 k
  have ih0 := laws_likeInts.mono_l k
  unfold laws_likeInts.f
  repeat' first
      | (with_reducible exact ih0 _ _ _)
      | (with_reducible exact LeO.refl _)
      | (with_reducible exact LeO.none _)
      | (with_reducible refine LeO.ite ?_ ?_)
      | (with_reducible refine LeO.bind ?_ (fun _ => ?_))
      | exact ih0 _ _ _
      | exact LeO.none _
      | refine LeO.ite ?_ ?_
      | refine LeO.bind ?_ (fun _ => ?_)
set_option maxHeartbeats 8000000 in
set_option maxRecDepth 100000 in
theorem laws_likeInts.calls (k : Nat) (A0 : Option Addr) (c0 : Nat) (l0 : List Int) (A1 : Option Addr) (c1 : Nat) (l1 : List Int) (r : Bool) (w : World) (hr0 : Kd.C (Kd.int .i64) w A0 l0.length l0) (hc0 : l0.length ≤ c0) (hr1 : Kd.C (Kd.int .i64) w A1 l1.length l1) (hc1 : l1.length ≤ c1) (h : laws_likeInts.f k l0 l1 = some r) :
    Calls Try.prog 33 #[.slice A0 l0.length c0, .slice A1 l1.length c1] w fun e w' => e = .returned (.bool r) ∧ Drawn0 w w' := by
  have HR0 := Aside0.mk hr0
  have HC0 := Aside0.mk hc0
  clear hr0 hc0
  have HR1 := Aside0.mk hr1
  have HC1 := Aside0.mk hc1
  clear hr1 hc1
  have H : (if (l0.length : Int) = (l1.length : Int) then (laws_likeInts.l0 k l0 l1 0) else (some false)) = some r := h
  clear h
  by_cases c3 : (l0.length : Int) = (l1.length : Int)
  · rw [if_pos c3] at H
    have c3b0 : ((l0.length : Int) == (l1.length : Int)) = true := beq_iff_eq.mpr c3
    have c3b1 : ((l0.length : Int) != (l1.length : Int)) = false := bne_eq_false_iff_eq.mpr c3
    have c3b2 : (l0.length == l1.length) = true := by first | simpa using c3 | (simp at c3 ⊢; omega)
    clear c3
    have H' := Aside0.mk H
    clear H
    go_enter Try.func33, Try.ntmps33
    go_wp2
    repeat (go_quiet (fail); try go_wp2)
    go_loopg [5] k (fun kq v5 w' => ∃ (x5_1 : Int), v5 = .int .i64 x5_1 ∧ Aside0 (laws_likeInts.l0 kq l0 l1 x5_1 = some r) ∧ Aside0 (kq ≤ k) ∧ Drawn0 w w')
    case atStart => exact ⟨(0), (by first | rfl | (simp; done) | (simp [*]; done)), H', ⟨Nat.le_refl _⟩, by repeat (first | exact Drawn0.refl _ | apply Drawn0.step)⟩
    case round =>
      clear H'
      try clear c1
      try clear p2
      try clear c3
      try clear c3b0
      try clear c3b1
      try clear c3b2
      obtain ⟨x5_1, rfl, HA, HK1, ⟨m1, rfl⟩⟩ := hrel
      cases gk with
      | zero => exact absurd HA.out (by simp [laws_likeInts.l0])
      | succ k1 =>
        have H := HA.out
        clear HA
        simp only [laws_likeInts.l0] at H
        by_cases c4 : x5_1 < (l0.length : Int)
        · rw [if_pos c4] at H
          have c4b0 : decide (x5_1 < (l0.length : Int)) = true := decide_eq_true c4
          clear c4
          by_cases c5 : 0 ≤ x5_1
          · rw [if_pos c5] at H
            have c5b0 : decide (0 ≤ x5_1) = true := decide_eq_true c5
            clear c5
            by_cases c6 : x5_1 < (l1.length : Int)
            · rw [if_pos c6] at H
              have c6b0 : decide (x5_1 < (l1.length : Int)) = true := decide_eq_true c6
              clear c6
              by_cases c7 : (rd l0 x5_1) = (rd l1 x5_1)
              · rw [if_pos c7] at H
                have c7b0 : ((rd l0 x5_1) == (rd l1 x5_1)) = true := beq_iff_eq.mpr c7
                have c7b1 : ((rd l0 x5_1) != (rd l1 x5_1)) = false := bne_eq_false_iff_eq.mpr c7
                clear c7
                have H' := Aside0.mk H
                clear H
                have p342 : 0 ≤ (x5_1 : Int) := of_decide_eq_true (by first | (with_reducible assumption) | assumption)
                have q342 : x5_1 < (l0.length : Int) := of_decide_eq_true (by first | (with_reducible assumption) | assumption)
                obtain ⟨ad342, e342, hx342_0⟩ := Kd.at_int HR0.out x5_1 p342 q342
                cases e342
                replace p342 := eq_true p342
                replace q342 := eq_true q342
                have p343 : 0 ≤ (x5_1 : Int) := of_decide_eq_true (by first | (with_reducible assumption) | assumption)
                have q343 : x5_1 < (l1.length : Int) := of_decide_eq_true (by first | (with_reducible assumption) | assumption)
                obtain ⟨ad343, e343, hx343_0⟩ := Kd.at_int HR1.out x5_1 p343 q343
                cases e343
                replace p343 := eq_true p343
                replace q343 := eq_true q343
                go_wp2
                repeat (go_quiet (fail); try go_wp2)
                go_roundg k1
                case measure => have := HK1.out; omega
                case rel => exact ⟨(wrap64 (x5_1 + 1)), (by first | rfl | (simp; done) | (simp [*]; done)), H', ⟨by have := HK1.out; omega⟩, by repeat (first | exact Drawn0.refl _ | apply Drawn0.step)⟩
              · rw [if_neg c7] at H
                have c7b0 : ((rd l0 x5_1) == (rd l1 x5_1)) = false := beq_eq_false_iff_ne.mpr c7
                have c7b1 : ((rd l0 x5_1) != (rd l1 x5_1)) = true := bne_iff_ne.mpr c7
                obtain rfl := Option.some.inj H
                have p342 : 0 ≤ (x5_1 : Int) := of_decide_eq_true (by first | (with_reducible assumption) | assumption)
                have q342 : x5_1 < (l0.length : Int) := of_decide_eq_true (by first | (with_reducible assumption) | assumption)
                obtain ⟨ad342, e342, hx342_0⟩ := Kd.at_int HR0.out x5_1 p342 q342
                cases e342
                replace p342 := eq_true p342
                replace q342 := eq_true q342
                have p343 : 0 ≤ (x5_1 : Int) := of_decide_eq_true (by first | (with_reducible assumption) | assumption)
                have q343 : x5_1 < (l1.length : Int) := of_decide_eq_true (by first | (with_reducible assumption) | assumption)
                obtain ⟨ad343, e343, hx343_0⟩ := Kd.at_int HR1.out x5_1 p343 q343
                cases e343
                replace p343 := eq_true p343
                replace q343 := eq_true q343
                go_wp2
                repeat (go_quiet (fail); try go_wp2)
                go_ret
                exact ⟨by first | rfl | (simp; done) | (simp [*]; done), by repeat (first | exact Drawn0.refl _ | apply Drawn0.step)⟩
            · rw [if_neg c6] at H
              exact absurd H (by simp)
          · rw [if_neg c5] at H
            exact absurd H (by simp)
        · rw [if_neg c4] at H
          have c4b0 : decide (x5_1 < (l0.length : Int)) = false := decide_eq_false c4
          clear c4
          obtain rfl := Option.some.inj H
          go_wp2
          repeat (go_quiet (fail); try go_wp2)
          go_ret
          exact ⟨by first | rfl | (simp; done) | (simp [*]; done), by repeat (first | exact Drawn0.refl _ | apply Drawn0.step)⟩
  · rw [if_neg c3] at H
    have c3b0 : ((l0.length : Int) == (l1.length : Int)) = false := beq_eq_false_iff_ne.mpr c3
    have c3b1 : ((l0.length : Int) != (l1.length : Int)) = true := bne_iff_ne.mpr c3
    have c3b2 : (l0.length == l1.length) = false := by first | simpa using c3 | (simp at c3 ⊢; omega)
    obtain rfl := Option.some.inj H
    go_enter Try.func33, Try.ntmps33
    go_wp2
    repeat (go_quiet (fail); try go_wp2)
    go_ret
    exact ⟨by first | rfl | (simp; done) | (simp [*]; done), by repeat (first | exact Drawn0.refl _ | apply Drawn0.step)⟩

/-! ### laws_FnEfforts: function 8 -/
mutual
def laws_FnEfforts.j0 : Nat → List (List (S60)) → Int → Int → List Int → Int → Int → List (S60) → List (S60) → Int → Int → Bool → Option (Bool)
  | 0, _, _, _, _, _, _, _, _, _, _, _ => none
  | k + 1, x3, x5, x6, x9, x10, x11, x15, x16, x17, x18, x127 => if x127 = true then (some false) else (if x18 = 0 then ((some (([] : List (S60)) : List (S60))).bind fun y378 => ((impl_CountChanges.f k x15 y378).bind fun bt381 => ((impl_CountChanges.f k y378 x16).bind fun bt383 => (if bt381.2 = 0 then (if bt383.2 = 0 then (laws_FnEfforts.j1 k x3 x5 x6 x9 x10 x11 (decide (x17 > (wrap64 (bt381.1 + bt383.1))))) else (laws_FnEfforts.j1 k x3 x5 x6 x9 x10 x11 true)) else (laws_FnEfforts.j1 k x3 x5 x6 x9 x10 x11 true))))) else (if x6 = 0 then ((impl_EffortOf.f k x3 x9).bind fun bt387 => (if x11 = 0 then (if x10 ≤ x5 then (if bt387.2 = 0 then (some (bt387.1 == x10)) else (some false)) else (some false)) else (some false))) else (some true)))
def laws_FnEfforts.j1 : Nat → List (List (S60)) → Int → Int → List Int → Int → Int → Bool → Option (Bool)
  | 0, _, _, _, _, _, _, _ => none
  | k + 1, x3, x5, x6, x9, x10, x11, x155 => if x155 = true then (some false) else (if x6 = 0 then ((impl_EffortOf.f k x3 x9).bind fun bt385 => (if x11 = 0 then (if x10 ≤ x5 then (if bt385.2 = 0 then (some (bt385.1 == x10)) else (some false)) else (some false)) else (some false))) else (some true))
end
def laws_FnEfforts.f (k : Nat) (l0 : List Int) : Option (Bool) := (laws_big.f l0).bind fun t344 => (if t344 = true then (some true) else ((spec_DrawEffortOf.f k l0).bind fun bt345 => ((impl_EffortOf.f k bt345.1 bt345.2).bind fun bt351 => ((spec_EffortOf.f k bt345.1 bt345.2).bind fun bt353 => ((impl_BestJobOrder.f k bt345.1).bind fun bt355 => ((spec_BestJobOrder.f k bt345.1).bind fun bt360 => ((spec_DrawCountChanges.f k l0).bind fun bt365 => ((impl_CountChanges.f k bt365.1 bt365.2).bind fun bt371 => ((spec_CountChanges.f k bt365.1 bt365.2).bind fun bt373 => ((impl_CountChanges.f k bt365.2 bt365.1).bind fun bt375 => (if bt351.2 = bt353.2 then (if bt351.1 = bt353.1 then (if bt355.2.2 = bt360.2.2 then ((laws_likeInts.f k bt355.1 bt360.1).bind fun t377 => (if t377 = true then (if bt355.2.1 = bt360.2.1 then (if bt371.2 = bt373.2 then (if bt371.1 = bt373.1 then (if bt375.2 = bt371.2 then (laws_FnEfforts.j0 k bt345.1 bt351.1 bt351.2 bt355.1 bt355.2.1 bt355.2.2 bt365.1 bt365.2 bt371.1 bt371.2 (bt375.1 != bt371.1)) else (laws_FnEfforts.j0 k bt345.1 bt351.1 bt351.2 bt355.1 bt355.2.1 bt355.2.2 bt365.1 bt365.2 bt371.1 bt371.2 true)) else (laws_FnEfforts.j0 k bt345.1 bt351.1 bt351.2 bt355.1 bt355.2.1 bt355.2.2 bt365.1 bt365.2 bt371.1 bt371.2 true)) else (laws_FnEfforts.j0 k bt345.1 bt351.1 bt351.2 bt355.1 bt355.2.1 bt355.2.2 bt365.1 bt365.2 bt371.1 bt371.2 true)) else (laws_FnEfforts.j0 k bt345.1 bt351.1 bt351.2 bt355.1 bt355.2.1 bt355.2.2 bt365.1 bt365.2 bt371.1 bt371.2 true)) else (laws_FnEfforts.j0 k bt345.1 bt351.1 bt351.2 bt355.1 bt355.2.1 bt355.2.2 bt365.1 bt365.2 bt371.1 bt371.2 true))) else (laws_FnEfforts.j0 k bt345.1 bt351.1 bt351.2 bt355.1 bt355.2.1 bt355.2.2 bt365.1 bt365.2 bt371.1 bt371.2 true)) else (laws_FnEfforts.j0 k bt345.1 bt351.1 bt351.2 bt355.1 bt355.2.1 bt355.2.2 bt365.1 bt365.2 bt371.1 bt371.2 true)) else (laws_FnEfforts.j0 k bt345.1 bt351.1 bt351.2 bt355.1 bt355.2.1 bt355.2.2 bt365.1 bt365.2 bt371.1 bt371.2 true))))))))))))
theorem laws_FnEfforts.mono_l : ∀ k, (∀ y0 y1 y2 y3 y4 y5 y6 y7 y8 y9 y10, LeO (laws_FnEfforts.j0 k y0 y1 y2 y3 y4 y5 y6 y7 y8 y9 y10) (laws_FnEfforts.j0 (k + 1) y0 y1 y2 y3 y4 y5 y6 y7 y8 y9 y10)) ∧ (∀ y0 y1 y2 y3 y4 y5 y6, LeO (laws_FnEfforts.j1 k y0 y1 y2 y3 y4 y5 y6) (laws_FnEfforts.j1 (k + 1) y0 y1 y2 y3 y4 y5 y6))
  | 0 => ⟨fun _ _ _ _ _ _ _ _ _ _ _ r h => by simp [laws_FnEfforts.j0] at h, fun _ _ _ _ _ _ _ r h => by simp [laws_FnEfforts.j1] at h⟩
  | k + 1 => by
    obtain ⟨ih0, ih1⟩ := laws_FnEfforts.mono_l k
    refine ⟨?_, ?_⟩
    · intro y0 y1 y2 y3 y4 y5 y6 y7 y8 y9 y10
      unfold laws_FnEfforts.j0
      repeat' first
      | (with_reducible exact ih0 _ _ _ _ _ _ _ _ _ _ _)
      | (with_reducible exact ih1 _ _ _ _ _ _ _)
      | (with_reducible exact impl_BestJobOrder.mono _ _)
      | (with_reducible exact impl_CountChanges.mono _ _ _)
      | (with_reducible exact impl_EffortOf.mono _ _ _)
      | (with_reducible exact laws_likeInts.mono _ _ _)
      | (with_reducible exact spec_BestJobOrder.mono _ _)
      | (with_reducible exact spec_CountChanges.mono _ _ _)
      | (with_reducible exact spec_DrawCountChanges.mono _ _)
      | (with_reducible exact spec_DrawEffortOf.mono _ _)
      | (with_reducible exact spec_EffortOf.mono _ _ _)
      | (with_reducible exact LeO.refl _)
      | (with_reducible exact LeO.none _)
      | (with_reducible refine LeO.ite ?_ ?_)
      | (with_reducible refine LeO.bind ?_ (fun _ => ?_))
      | exact ih0 _ _ _ _ _ _ _ _ _ _ _
      | exact ih1 _ _ _ _ _ _ _
      | exact impl_BestJobOrder.mono _ _
      | exact impl_CountChanges.mono _ _ _
      | exact impl_EffortOf.mono _ _ _
      | exact laws_likeInts.mono _ _ _
      | exact spec_BestJobOrder.mono _ _
      | exact spec_CountChanges.mono _ _ _
      | exact spec_DrawCountChanges.mono _ _
      | exact spec_DrawEffortOf.mono _ _
      | exact spec_EffortOf.mono _ _ _
      | exact LeO.none _
      | refine LeO.ite ?_ ?_
      | refine LeO.bind ?_ (fun _ => ?_)
    · intro y0 y1 y2 y3 y4 y5 y6
      unfold laws_FnEfforts.j1
      repeat' first
      | (with_reducible exact ih0 _ _ _ _ _ _ _ _ _ _ _)
      | (with_reducible exact ih1 _ _ _ _ _ _ _)
      | (with_reducible exact impl_BestJobOrder.mono _ _)
      | (with_reducible exact impl_CountChanges.mono _ _ _)
      | (with_reducible exact impl_EffortOf.mono _ _ _)
      | (with_reducible exact laws_likeInts.mono _ _ _)
      | (with_reducible exact spec_BestJobOrder.mono _ _)
      | (with_reducible exact spec_CountChanges.mono _ _ _)
      | (with_reducible exact spec_DrawCountChanges.mono _ _)
      | (with_reducible exact spec_DrawEffortOf.mono _ _)
      | (with_reducible exact spec_EffortOf.mono _ _ _)
      | (with_reducible exact LeO.refl _)
      | (with_reducible exact LeO.none _)
      | (with_reducible refine LeO.ite ?_ ?_)
      | (with_reducible refine LeO.bind ?_ (fun _ => ?_))
      | exact ih0 _ _ _ _ _ _ _ _ _ _ _
      | exact ih1 _ _ _ _ _ _ _
      | exact impl_BestJobOrder.mono _ _
      | exact impl_CountChanges.mono _ _ _
      | exact impl_EffortOf.mono _ _ _
      | exact laws_likeInts.mono _ _ _
      | exact spec_BestJobOrder.mono _ _
      | exact spec_CountChanges.mono _ _ _
      | exact spec_DrawCountChanges.mono _ _
      | exact spec_DrawEffortOf.mono _ _
      | exact spec_EffortOf.mono _ _ _
      | exact LeO.none _
      | refine LeO.ite ?_ ?_
      | refine LeO.bind ?_ (fun _ => ?_)
theorem laws_FnEfforts.mono : ∀ a0 k, LeO (laws_FnEfforts.f k a0) (laws_FnEfforts.f (k + 1) a0) := by
  intro a0 k
  obtain ⟨ih0, ih1⟩ := laws_FnEfforts.mono_l k
  unfold laws_FnEfforts.f
  repeat' first
      | (with_reducible exact ih0 _ _ _ _ _ _ _ _ _ _ _)
      | (with_reducible exact ih1 _ _ _ _ _ _ _)
      | (with_reducible exact impl_BestJobOrder.mono _ _)
      | (with_reducible exact impl_CountChanges.mono _ _ _)
      | (with_reducible exact impl_EffortOf.mono _ _ _)
      | (with_reducible exact laws_likeInts.mono _ _ _)
      | (with_reducible exact spec_BestJobOrder.mono _ _)
      | (with_reducible exact spec_CountChanges.mono _ _ _)
      | (with_reducible exact spec_DrawCountChanges.mono _ _)
      | (with_reducible exact spec_DrawEffortOf.mono _ _)
      | (with_reducible exact spec_EffortOf.mono _ _ _)
      | (with_reducible exact LeO.refl _)
      | (with_reducible exact LeO.none _)
      | (with_reducible refine LeO.ite ?_ ?_)
      | (with_reducible refine LeO.bind ?_ (fun _ => ?_))
      | exact ih0 _ _ _ _ _ _ _ _ _ _ _
      | exact ih1 _ _ _ _ _ _ _
      | exact impl_BestJobOrder.mono _ _
      | exact impl_CountChanges.mono _ _ _
      | exact impl_EffortOf.mono _ _ _
      | exact laws_likeInts.mono _ _ _
      | exact spec_BestJobOrder.mono _ _
      | exact spec_CountChanges.mono _ _ _
      | exact spec_DrawCountChanges.mono _ _
      | exact spec_DrawEffortOf.mono _ _
      | exact spec_EffortOf.mono _ _ _
      | exact LeO.none _
      | refine LeO.ite ?_ ?_
      | refine LeO.bind ?_ (fun _ => ?_)
set_option maxHeartbeats 8000000 in
set_option maxRecDepth 100000 in
theorem laws_FnEfforts.calls (k : Nat) (A0 : Option Addr) (c0 : Nat) (l0 : List Int) (r : Bool) (w : World) (hr0 : Kd.C (Kd.int .u8) w A0 l0.length l0) (hc0 : l0.length ≤ c0) (hr_ : Aside0 (r = true)) (h : laws_FnEfforts.f k l0 = some r) :
    Calls Try.prog 8 #[.slice A0 l0.length c0] w fun e w' => e = .returned (.bool r) ∧ Below w.heap.size w w' := by
  have HR0 := Aside0.mk hr0
  have HC0 := Aside0.mk hc0
  clear hr0 hc0
  have HB := Aside0.mk (Below.refl w.heap.size w)
  have H : ((laws_big.f l0).bind fun t344 => (if t344 = true then (some true) else ((spec_DrawEffortOf.f k l0).bind fun bt345 => ((impl_EffortOf.f k bt345.1 bt345.2).bind fun bt351 => ((spec_EffortOf.f k bt345.1 bt345.2).bind fun bt353 => ((impl_BestJobOrder.f k bt345.1).bind fun bt355 => ((spec_BestJobOrder.f k bt345.1).bind fun bt360 => ((spec_DrawCountChanges.f k l0).bind fun bt365 => ((impl_CountChanges.f k bt365.1 bt365.2).bind fun bt371 => ((spec_CountChanges.f k bt365.1 bt365.2).bind fun bt373 => ((impl_CountChanges.f k bt365.2 bt365.1).bind fun bt375 => (if bt351.2 = bt353.2 then (if bt351.1 = bt353.1 then (if bt355.2.2 = bt360.2.2 then ((laws_likeInts.f k bt355.1 bt360.1).bind fun t377 => (if t377 = true then (if bt355.2.1 = bt360.2.1 then (if bt371.2 = bt373.2 then (if bt371.1 = bt373.1 then (if bt375.2 = bt371.2 then (laws_FnEfforts.j0 k bt345.1 bt351.1 bt351.2 bt355.1 bt355.2.1 bt355.2.2 bt365.1 bt365.2 bt371.1 bt371.2 (bt375.1 != bt371.1)) else (laws_FnEfforts.j0 k bt345.1 bt351.1 bt351.2 bt355.1 bt355.2.1 bt355.2.2 bt365.1 bt365.2 bt371.1 bt371.2 true)) else (laws_FnEfforts.j0 k bt345.1 bt351.1 bt351.2 bt355.1 bt355.2.1 bt355.2.2 bt365.1 bt365.2 bt371.1 bt371.2 true)) else (laws_FnEfforts.j0 k bt345.1 bt351.1 bt351.2 bt355.1 bt355.2.1 bt355.2.2 bt365.1 bt365.2 bt371.1 bt371.2 true)) else (laws_FnEfforts.j0 k bt345.1 bt351.1 bt351.2 bt355.1 bt355.2.1 bt355.2.2 bt365.1 bt365.2 bt371.1 bt371.2 true)) else (laws_FnEfforts.j0 k bt345.1 bt351.1 bt351.2 bt355.1 bt355.2.1 bt355.2.2 bt365.1 bt365.2 bt371.1 bt371.2 true))) else (laws_FnEfforts.j0 k bt345.1 bt351.1 bt351.2 bt355.1 bt355.2.1 bt355.2.2 bt365.1 bt365.2 bt371.1 bt371.2 true)) else (laws_FnEfforts.j0 k bt345.1 bt351.1 bt351.2 bt355.1 bt355.2.1 bt355.2.2 bt365.1 bt365.2 bt371.1 bt371.2 true)) else (laws_FnEfforts.j0 k bt345.1 bt351.1 bt351.2 bt355.1 bt355.2.1 bt355.2.2 bt365.1 bt365.2 bt371.1 bt371.2 true))))))))))))) = some r := h
  clear h
  replace H := Option.bind_eq_some_iff.mp H
  obtain ⟨t344, A20, H⟩ := H
  replace H : (if t344 = true then (some true) else ((spec_DrawEffortOf.f k l0).bind fun bt345 => ((impl_EffortOf.f k bt345.1 bt345.2).bind fun bt351 => ((spec_EffortOf.f k bt345.1 bt345.2).bind fun bt353 => ((impl_BestJobOrder.f k bt345.1).bind fun bt355 => ((spec_BestJobOrder.f k bt345.1).bind fun bt360 => ((spec_DrawCountChanges.f k l0).bind fun bt365 => ((impl_CountChanges.f k bt365.1 bt365.2).bind fun bt371 => ((spec_CountChanges.f k bt365.1 bt365.2).bind fun bt373 => ((impl_CountChanges.f k bt365.2 bt365.1).bind fun bt375 => (if bt351.2 = bt353.2 then (if bt351.1 = bt353.1 then (if bt355.2.2 = bt360.2.2 then ((laws_likeInts.f k bt355.1 bt360.1).bind fun t377 => (if t377 = true then (if bt355.2.1 = bt360.2.1 then (if bt371.2 = bt373.2 then (if bt371.1 = bt373.1 then (if bt375.2 = bt371.2 then (laws_FnEfforts.j0 k bt345.1 bt351.1 bt351.2 bt355.1 bt355.2.1 bt355.2.2 bt365.1 bt365.2 bt371.1 bt371.2 (bt375.1 != bt371.1)) else (laws_FnEfforts.j0 k bt345.1 bt351.1 bt351.2 bt355.1 bt355.2.1 bt355.2.2 bt365.1 bt365.2 bt371.1 bt371.2 true)) else (laws_FnEfforts.j0 k bt345.1 bt351.1 bt351.2 bt355.1 bt355.2.1 bt355.2.2 bt365.1 bt365.2 bt371.1 bt371.2 true)) else (laws_FnEfforts.j0 k bt345.1 bt351.1 bt351.2 bt355.1 bt355.2.1 bt355.2.2 bt365.1 bt365.2 bt371.1 bt371.2 true)) else (laws_FnEfforts.j0 k bt345.1 bt351.1 bt351.2 bt355.1 bt355.2.1 bt355.2.2 bt365.1 bt365.2 bt371.1 bt371.2 true)) else (laws_FnEfforts.j0 k bt345.1 bt351.1 bt351.2 bt355.1 bt355.2.1 bt355.2.2 bt365.1 bt365.2 bt371.1 bt371.2 true))) else (laws_FnEfforts.j0 k bt345.1 bt351.1 bt351.2 bt355.1 bt355.2.1 bt355.2.2 bt365.1 bt365.2 bt371.1 bt371.2 true)) else (laws_FnEfforts.j0 k bt345.1 bt351.1 bt351.2 bt355.1 bt355.2.1 bt355.2.2 bt365.1 bt365.2 bt371.1 bt371.2 true)) else (laws_FnEfforts.j0 k bt345.1 bt351.1 bt351.2 bt355.1 bt355.2.1 bt355.2.2 bt365.1 bt365.2 bt371.1 bt371.2 true)))))))))))) = some r := H
  have A2 := Aside0.mk A20
  clear A20
  by_cases c3 : t344 = true
  · subst c3
    have H1 : (some true) = some r := by rw [if_pos rfl] at H; exact H
    clear H
    have H := H1
    clear H1
    obtain rfl := Option.some.inj H
    go_enter Try.func8, Try.ntmps8
    go_wp2_with (first | ((with_reducible refine gate_callee (f := 30) rfl ?_); refine goesL_ (some 31) rfl rfl Try.func30 (by kernel_rfl) rfl #[.slice A0 l0.length c0] rfl (by (try simp only [List.map_toArray, List.map_cons, List.map_nil]); first | done | rfl | (simp only [List.length_drop, List.length_take]; rfl)) ?_; (with_reducible refine (laws_big.calls _ _ l0 true _ ?side1 ?side2 A2.out).mono ?_); (case side1 => repeat (first | exact HR0.out | (with_reducible refine Kd.C_alloc ?_ _) | (with_reducible refine Kd.C_drewN ?_ _) | (with_reducible refine Kd.C_drew ?_))); (case side2 => exact HC0.out); rintro e w' ⟨rfl, ⟨nd, rfl⟩⟩; refine ⟨_, rfl, ?_⟩))
    go_ret
    exact ⟨by first | rfl | (simp [errW_none, errW_some] <;> rfl) | (simp [*, errW_none, errW_some] <;> rfl), by repeat (first | (with_reducible first | exact HB.out | apply below_alloc | apply pw_below_drewN | apply below_drew1) | exact HB.out)⟩
  · replace c3 := Bool.eq_false_iff.mpr c3
    subst c3
    have H1 : ((spec_DrawEffortOf.f k l0).bind fun bt345 => ((impl_EffortOf.f k bt345.1 bt345.2).bind fun bt351 => ((spec_EffortOf.f k bt345.1 bt345.2).bind fun bt353 => ((impl_BestJobOrder.f k bt345.1).bind fun bt355 => ((spec_BestJobOrder.f k bt345.1).bind fun bt360 => ((spec_DrawCountChanges.f k l0).bind fun bt365 => ((impl_CountChanges.f k bt365.1 bt365.2).bind fun bt371 => ((spec_CountChanges.f k bt365.1 bt365.2).bind fun bt373 => ((impl_CountChanges.f k bt365.2 bt365.1).bind fun bt375 => (if bt351.2 = bt353.2 then (if bt351.1 = bt353.1 then (if bt355.2.2 = bt360.2.2 then ((laws_likeInts.f k bt355.1 bt360.1).bind fun t377 => (if t377 = true then (if bt355.2.1 = bt360.2.1 then (if bt371.2 = bt373.2 then (if bt371.1 = bt373.1 then (if bt375.2 = bt371.2 then (laws_FnEfforts.j0 k bt345.1 bt351.1 bt351.2 bt355.1 bt355.2.1 bt355.2.2 bt365.1 bt365.2 bt371.1 bt371.2 (bt375.1 != bt371.1)) else (laws_FnEfforts.j0 k bt345.1 bt351.1 bt351.2 bt355.1 bt355.2.1 bt355.2.2 bt365.1 bt365.2 bt371.1 bt371.2 true)) else (laws_FnEfforts.j0 k bt345.1 bt351.1 bt351.2 bt355.1 bt355.2.1 bt355.2.2 bt365.1 bt365.2 bt371.1 bt371.2 true)) else (laws_FnEfforts.j0 k bt345.1 bt351.1 bt351.2 bt355.1 bt355.2.1 bt355.2.2 bt365.1 bt365.2 bt371.1 bt371.2 true)) else (laws_FnEfforts.j0 k bt345.1 bt351.1 bt351.2 bt355.1 bt355.2.1 bt355.2.2 bt365.1 bt365.2 bt371.1 bt371.2 true)) else (laws_FnEfforts.j0 k bt345.1 bt351.1 bt351.2 bt355.1 bt355.2.1 bt355.2.2 bt365.1 bt365.2 bt371.1 bt371.2 true))) else (laws_FnEfforts.j0 k bt345.1 bt351.1 bt351.2 bt355.1 bt355.2.1 bt355.2.2 bt365.1 bt365.2 bt371.1 bt371.2 true)) else (laws_FnEfforts.j0 k bt345.1 bt351.1 bt351.2 bt355.1 bt355.2.1 bt355.2.2 bt365.1 bt365.2 bt371.1 bt371.2 true)) else (laws_FnEfforts.j0 k bt345.1 bt351.1 bt351.2 bt355.1 bt355.2.1 bt355.2.2 bt365.1 bt365.2 bt371.1 bt371.2 true))))))))))) = some r := by rw [if_neg (show ¬ (false = true) by decide)] at H; exact H
    clear H
    have H := H1
    clear H1
    replace H := Option.bind_eq_some_iff.mp H
    obtain ⟨⟨t345, t346⟩, A40, H⟩ := H
    replace H : ((impl_EffortOf.f k t345 t346).bind fun bt351 => ((spec_EffortOf.f k t345 t346).bind fun bt353 => ((impl_BestJobOrder.f k t345).bind fun bt355 => ((spec_BestJobOrder.f k t345).bind fun bt360 => ((spec_DrawCountChanges.f k l0).bind fun bt365 => ((impl_CountChanges.f k bt365.1 bt365.2).bind fun bt371 => ((spec_CountChanges.f k bt365.1 bt365.2).bind fun bt373 => ((impl_CountChanges.f k bt365.2 bt365.1).bind fun bt375 => (if bt351.2 = bt353.2 then (if bt351.1 = bt353.1 then (if bt355.2.2 = bt360.2.2 then ((laws_likeInts.f k bt355.1 bt360.1).bind fun t377 => (if t377 = true then (if bt355.2.1 = bt360.2.1 then (if bt371.2 = bt373.2 then (if bt371.1 = bt373.1 then (if bt375.2 = bt371.2 then (laws_FnEfforts.j0 k t345 bt351.1 bt351.2 bt355.1 bt355.2.1 bt355.2.2 bt365.1 bt365.2 bt371.1 bt371.2 (bt375.1 != bt371.1)) else (laws_FnEfforts.j0 k t345 bt351.1 bt351.2 bt355.1 bt355.2.1 bt355.2.2 bt365.1 bt365.2 bt371.1 bt371.2 true)) else (laws_FnEfforts.j0 k t345 bt351.1 bt351.2 bt355.1 bt355.2.1 bt355.2.2 bt365.1 bt365.2 bt371.1 bt371.2 true)) else (laws_FnEfforts.j0 k t345 bt351.1 bt351.2 bt355.1 bt355.2.1 bt355.2.2 bt365.1 bt365.2 bt371.1 bt371.2 true)) else (laws_FnEfforts.j0 k t345 bt351.1 bt351.2 bt355.1 bt355.2.1 bt355.2.2 bt365.1 bt365.2 bt371.1 bt371.2 true)) else (laws_FnEfforts.j0 k t345 bt351.1 bt351.2 bt355.1 bt355.2.1 bt355.2.2 bt365.1 bt365.2 bt371.1 bt371.2 true))) else (laws_FnEfforts.j0 k t345 bt351.1 bt351.2 bt355.1 bt355.2.1 bt355.2.2 bt365.1 bt365.2 bt371.1 bt371.2 true)) else (laws_FnEfforts.j0 k t345 bt351.1 bt351.2 bt355.1 bt355.2.1 bt355.2.2 bt365.1 bt365.2 bt371.1 bt371.2 true)) else (laws_FnEfforts.j0 k t345 bt351.1 bt351.2 bt355.1 bt355.2.1 bt355.2.2 bt365.1 bt365.2 bt371.1 bt371.2 true)))))))))) = some r := H
    have A4 := Aside0.mk A40
    clear A40
    replace H := Option.bind_eq_some_iff.mp H
    obtain ⟨⟨t351, t352⟩, A50, H⟩ := H
    replace H : ((spec_EffortOf.f k t345 t346).bind fun bt353 => ((impl_BestJobOrder.f k t345).bind fun bt355 => ((spec_BestJobOrder.f k t345).bind fun bt360 => ((spec_DrawCountChanges.f k l0).bind fun bt365 => ((impl_CountChanges.f k bt365.1 bt365.2).bind fun bt371 => ((spec_CountChanges.f k bt365.1 bt365.2).bind fun bt373 => ((impl_CountChanges.f k bt365.2 bt365.1).bind fun bt375 => (if t352 = bt353.2 then (if t351 = bt353.1 then (if bt355.2.2 = bt360.2.2 then ((laws_likeInts.f k bt355.1 bt360.1).bind fun t377 => (if t377 = true then (if bt355.2.1 = bt360.2.1 then (if bt371.2 = bt373.2 then (if bt371.1 = bt373.1 then (if bt375.2 = bt371.2 then (laws_FnEfforts.j0 k t345 t351 t352 bt355.1 bt355.2.1 bt355.2.2 bt365.1 bt365.2 bt371.1 bt371.2 (bt375.1 != bt371.1)) else (laws_FnEfforts.j0 k t345 t351 t352 bt355.1 bt355.2.1 bt355.2.2 bt365.1 bt365.2 bt371.1 bt371.2 true)) else (laws_FnEfforts.j0 k t345 t351 t352 bt355.1 bt355.2.1 bt355.2.2 bt365.1 bt365.2 bt371.1 bt371.2 true)) else (laws_FnEfforts.j0 k t345 t351 t352 bt355.1 bt355.2.1 bt355.2.2 bt365.1 bt365.2 bt371.1 bt371.2 true)) else (laws_FnEfforts.j0 k t345 t351 t352 bt355.1 bt355.2.1 bt355.2.2 bt365.1 bt365.2 bt371.1 bt371.2 true)) else (laws_FnEfforts.j0 k t345 t351 t352 bt355.1 bt355.2.1 bt355.2.2 bt365.1 bt365.2 bt371.1 bt371.2 true))) else (laws_FnEfforts.j0 k t345 t351 t352 bt355.1 bt355.2.1 bt355.2.2 bt365.1 bt365.2 bt371.1 bt371.2 true)) else (laws_FnEfforts.j0 k t345 t351 t352 bt355.1 bt355.2.1 bt355.2.2 bt365.1 bt365.2 bt371.1 bt371.2 true)) else (laws_FnEfforts.j0 k t345 t351 t352 bt355.1 bt355.2.1 bt355.2.2 bt365.1 bt365.2 bt371.1 bt371.2 true))))))))) = some r := H
    have A5 := Aside0.mk A50
    clear A50
    replace H := Option.bind_eq_some_iff.mp H
    obtain ⟨⟨t353, t354⟩, A60, H⟩ := H
    replace H : ((impl_BestJobOrder.f k t345).bind fun bt355 => ((spec_BestJobOrder.f k t345).bind fun bt360 => ((spec_DrawCountChanges.f k l0).bind fun bt365 => ((impl_CountChanges.f k bt365.1 bt365.2).bind fun bt371 => ((spec_CountChanges.f k bt365.1 bt365.2).bind fun bt373 => ((impl_CountChanges.f k bt365.2 bt365.1).bind fun bt375 => (if t352 = t354 then (if t351 = t353 then (if bt355.2.2 = bt360.2.2 then ((laws_likeInts.f k bt355.1 bt360.1).bind fun t377 => (if t377 = true then (if bt355.2.1 = bt360.2.1 then (if bt371.2 = bt373.2 then (if bt371.1 = bt373.1 then (if bt375.2 = bt371.2 then (laws_FnEfforts.j0 k t345 t351 t352 bt355.1 bt355.2.1 bt355.2.2 bt365.1 bt365.2 bt371.1 bt371.2 (bt375.1 != bt371.1)) else (laws_FnEfforts.j0 k t345 t351 t352 bt355.1 bt355.2.1 bt355.2.2 bt365.1 bt365.2 bt371.1 bt371.2 true)) else (laws_FnEfforts.j0 k t345 t351 t352 bt355.1 bt355.2.1 bt355.2.2 bt365.1 bt365.2 bt371.1 bt371.2 true)) else (laws_FnEfforts.j0 k t345 t351 t352 bt355.1 bt355.2.1 bt355.2.2 bt365.1 bt365.2 bt371.1 bt371.2 true)) else (laws_FnEfforts.j0 k t345 t351 t352 bt355.1 bt355.2.1 bt355.2.2 bt365.1 bt365.2 bt371.1 bt371.2 true)) else (laws_FnEfforts.j0 k t345 t351 t352 bt355.1 bt355.2.1 bt355.2.2 bt365.1 bt365.2 bt371.1 bt371.2 true))) else (laws_FnEfforts.j0 k t345 t351 t352 bt355.1 bt355.2.1 bt355.2.2 bt365.1 bt365.2 bt371.1 bt371.2 true)) else (laws_FnEfforts.j0 k t345 t351 t352 bt355.1 bt355.2.1 bt355.2.2 bt365.1 bt365.2 bt371.1 bt371.2 true)) else (laws_FnEfforts.j0 k t345 t351 t352 bt355.1 bt355.2.1 bt355.2.2 bt365.1 bt365.2 bt371.1 bt371.2 true)))))))) = some r := H
    have A6 := Aside0.mk A60
    clear A60
    replace H := Option.bind_eq_some_iff.mp H
    obtain ⟨⟨t355, t356, t357⟩, A70, H⟩ := H
    replace H : ((spec_BestJobOrder.f k t345).bind fun bt360 => ((spec_DrawCountChanges.f k l0).bind fun bt365 => ((impl_CountChanges.f k bt365.1 bt365.2).bind fun bt371 => ((spec_CountChanges.f k bt365.1 bt365.2).bind fun bt373 => ((impl_CountChanges.f k bt365.2 bt365.1).bind fun bt375 => (if t352 = t354 then (if t351 = t353 then (if t357 = bt360.2.2 then ((laws_likeInts.f k t355 bt360.1).bind fun t377 => (if t377 = true then (if t356 = bt360.2.1 then (if bt371.2 = bt373.2 then (if bt371.1 = bt373.1 then (if bt375.2 = bt371.2 then (laws_FnEfforts.j0 k t345 t351 t352 t355 t356 t357 bt365.1 bt365.2 bt371.1 bt371.2 (bt375.1 != bt371.1)) else (laws_FnEfforts.j0 k t345 t351 t352 t355 t356 t357 bt365.1 bt365.2 bt371.1 bt371.2 true)) else (laws_FnEfforts.j0 k t345 t351 t352 t355 t356 t357 bt365.1 bt365.2 bt371.1 bt371.2 true)) else (laws_FnEfforts.j0 k t345 t351 t352 t355 t356 t357 bt365.1 bt365.2 bt371.1 bt371.2 true)) else (laws_FnEfforts.j0 k t345 t351 t352 t355 t356 t357 bt365.1 bt365.2 bt371.1 bt371.2 true)) else (laws_FnEfforts.j0 k t345 t351 t352 t355 t356 t357 bt365.1 bt365.2 bt371.1 bt371.2 true))) else (laws_FnEfforts.j0 k t345 t351 t352 t355 t356 t357 bt365.1 bt365.2 bt371.1 bt371.2 true)) else (laws_FnEfforts.j0 k t345 t351 t352 t355 t356 t357 bt365.1 bt365.2 bt371.1 bt371.2 true)) else (laws_FnEfforts.j0 k t345 t351 t352 t355 t356 t357 bt365.1 bt365.2 bt371.1 bt371.2 true))))))) = some r := H
    have A7 := Aside0.mk A70
    clear A70
    replace H := Option.bind_eq_some_iff.mp H
    obtain ⟨⟨t360, t361, t362⟩, A80, H⟩ := H
    replace H : ((spec_DrawCountChanges.f k l0).bind fun bt365 => ((impl_CountChanges.f k bt365.1 bt365.2).bind fun bt371 => ((spec_CountChanges.f k bt365.1 bt365.2).bind fun bt373 => ((impl_CountChanges.f k bt365.2 bt365.1).bind fun bt375 => (if t352 = t354 then (if t351 = t353 then (if t357 = t362 then ((laws_likeInts.f k t355 t360).bind fun t377 => (if t377 = true then (if t356 = t361 then (if bt371.2 = bt373.2 then (if bt371.1 = bt373.1 then (if bt375.2 = bt371.2 then (laws_FnEfforts.j0 k t345 t351 t352 t355 t356 t357 bt365.1 bt365.2 bt371.1 bt371.2 (bt375.1 != bt371.1)) else (laws_FnEfforts.j0 k t345 t351 t352 t355 t356 t357 bt365.1 bt365.2 bt371.1 bt371.2 true)) else (laws_FnEfforts.j0 k t345 t351 t352 t355 t356 t357 bt365.1 bt365.2 bt371.1 bt371.2 true)) else (laws_FnEfforts.j0 k t345 t351 t352 t355 t356 t357 bt365.1 bt365.2 bt371.1 bt371.2 true)) else (laws_FnEfforts.j0 k t345 t351 t352 t355 t356 t357 bt365.1 bt365.2 bt371.1 bt371.2 true)) else (laws_FnEfforts.j0 k t345 t351 t352 t355 t356 t357 bt365.1 bt365.2 bt371.1 bt371.2 true))) else (laws_FnEfforts.j0 k t345 t351 t352 t355 t356 t357 bt365.1 bt365.2 bt371.1 bt371.2 true)) else (laws_FnEfforts.j0 k t345 t351 t352 t355 t356 t357 bt365.1 bt365.2 bt371.1 bt371.2 true)) else (laws_FnEfforts.j0 k t345 t351 t352 t355 t356 t357 bt365.1 bt365.2 bt371.1 bt371.2 true)))))) = some r := H
    have A8 := Aside0.mk A80
    clear A80
    replace H := Option.bind_eq_some_iff.mp H
    obtain ⟨⟨t365, t366⟩, A90, H⟩ := H
    replace H : ((impl_CountChanges.f k t365 t366).bind fun bt371 => ((spec_CountChanges.f k t365 t366).bind fun bt373 => ((impl_CountChanges.f k t366 t365).bind fun bt375 => (if t352 = t354 then (if t351 = t353 then (if t357 = t362 then ((laws_likeInts.f k t355 t360).bind fun t377 => (if t377 = true then (if t356 = t361 then (if bt371.2 = bt373.2 then (if bt371.1 = bt373.1 then (if bt375.2 = bt371.2 then (laws_FnEfforts.j0 k t345 t351 t352 t355 t356 t357 t365 t366 bt371.1 bt371.2 (bt375.1 != bt371.1)) else (laws_FnEfforts.j0 k t345 t351 t352 t355 t356 t357 t365 t366 bt371.1 bt371.2 true)) else (laws_FnEfforts.j0 k t345 t351 t352 t355 t356 t357 t365 t366 bt371.1 bt371.2 true)) else (laws_FnEfforts.j0 k t345 t351 t352 t355 t356 t357 t365 t366 bt371.1 bt371.2 true)) else (laws_FnEfforts.j0 k t345 t351 t352 t355 t356 t357 t365 t366 bt371.1 bt371.2 true)) else (laws_FnEfforts.j0 k t345 t351 t352 t355 t356 t357 t365 t366 bt371.1 bt371.2 true))) else (laws_FnEfforts.j0 k t345 t351 t352 t355 t356 t357 t365 t366 bt371.1 bt371.2 true)) else (laws_FnEfforts.j0 k t345 t351 t352 t355 t356 t357 t365 t366 bt371.1 bt371.2 true)) else (laws_FnEfforts.j0 k t345 t351 t352 t355 t356 t357 t365 t366 bt371.1 bt371.2 true))))) = some r := H
    have A9 := Aside0.mk A90
    clear A90
    replace H := Option.bind_eq_some_iff.mp H
    obtain ⟨⟨t371, t372⟩, A100, H⟩ := H
    replace H : ((spec_CountChanges.f k t365 t366).bind fun bt373 => ((impl_CountChanges.f k t366 t365).bind fun bt375 => (if t352 = t354 then (if t351 = t353 then (if t357 = t362 then ((laws_likeInts.f k t355 t360).bind fun t377 => (if t377 = true then (if t356 = t361 then (if t372 = bt373.2 then (if t371 = bt373.1 then (if bt375.2 = t372 then (laws_FnEfforts.j0 k t345 t351 t352 t355 t356 t357 t365 t366 t371 t372 (bt375.1 != t371)) else (laws_FnEfforts.j0 k t345 t351 t352 t355 t356 t357 t365 t366 t371 t372 true)) else (laws_FnEfforts.j0 k t345 t351 t352 t355 t356 t357 t365 t366 t371 t372 true)) else (laws_FnEfforts.j0 k t345 t351 t352 t355 t356 t357 t365 t366 t371 t372 true)) else (laws_FnEfforts.j0 k t345 t351 t352 t355 t356 t357 t365 t366 t371 t372 true)) else (laws_FnEfforts.j0 k t345 t351 t352 t355 t356 t357 t365 t366 t371 t372 true))) else (laws_FnEfforts.j0 k t345 t351 t352 t355 t356 t357 t365 t366 t371 t372 true)) else (laws_FnEfforts.j0 k t345 t351 t352 t355 t356 t357 t365 t366 t371 t372 true)) else (laws_FnEfforts.j0 k t345 t351 t352 t355 t356 t357 t365 t366 t371 t372 true)))) = some r := H
    have A10 := Aside0.mk A100
    clear A100
    replace H := Option.bind_eq_some_iff.mp H
    obtain ⟨⟨t373, t374⟩, A110, H⟩ := H
    replace H : ((impl_CountChanges.f k t366 t365).bind fun bt375 => (if t352 = t354 then (if t351 = t353 then (if t357 = t362 then ((laws_likeInts.f k t355 t360).bind fun t377 => (if t377 = true then (if t356 = t361 then (if t372 = t374 then (if t371 = t373 then (if bt375.2 = t372 then (laws_FnEfforts.j0 k t345 t351 t352 t355 t356 t357 t365 t366 t371 t372 (bt375.1 != t371)) else (laws_FnEfforts.j0 k t345 t351 t352 t355 t356 t357 t365 t366 t371 t372 true)) else (laws_FnEfforts.j0 k t345 t351 t352 t355 t356 t357 t365 t366 t371 t372 true)) else (laws_FnEfforts.j0 k t345 t351 t352 t355 t356 t357 t365 t366 t371 t372 true)) else (laws_FnEfforts.j0 k t345 t351 t352 t355 t356 t357 t365 t366 t371 t372 true)) else (laws_FnEfforts.j0 k t345 t351 t352 t355 t356 t357 t365 t366 t371 t372 true))) else (laws_FnEfforts.j0 k t345 t351 t352 t355 t356 t357 t365 t366 t371 t372 true)) else (laws_FnEfforts.j0 k t345 t351 t352 t355 t356 t357 t365 t366 t371 t372 true)) else (laws_FnEfforts.j0 k t345 t351 t352 t355 t356 t357 t365 t366 t371 t372 true))) = some r := H
    have A11 := Aside0.mk A110
    clear A110
    replace H := Option.bind_eq_some_iff.mp H
    obtain ⟨⟨t375, t376⟩, A120, H⟩ := H
    replace H : (if t352 = t354 then (if t351 = t353 then (if t357 = t362 then ((laws_likeInts.f k t355 t360).bind fun t377 => (if t377 = true then (if t356 = t361 then (if t372 = t374 then (if t371 = t373 then (if t376 = t372 then (laws_FnEfforts.j0 k t345 t351 t352 t355 t356 t357 t365 t366 t371 t372 (t375 != t371)) else (laws_FnEfforts.j0 k t345 t351 t352 t355 t356 t357 t365 t366 t371 t372 true)) else (laws_FnEfforts.j0 k t345 t351 t352 t355 t356 t357 t365 t366 t371 t372 true)) else (laws_FnEfforts.j0 k t345 t351 t352 t355 t356 t357 t365 t366 t371 t372 true)) else (laws_FnEfforts.j0 k t345 t351 t352 t355 t356 t357 t365 t366 t371 t372 true)) else (laws_FnEfforts.j0 k t345 t351 t352 t355 t356 t357 t365 t366 t371 t372 true))) else (laws_FnEfforts.j0 k t345 t351 t352 t355 t356 t357 t365 t366 t371 t372 true)) else (laws_FnEfforts.j0 k t345 t351 t352 t355 t356 t357 t365 t366 t371 t372 true)) else (laws_FnEfforts.j0 k t345 t351 t352 t355 t356 t357 t365 t366 t371 t372 true)) = some r := H
    have A12 := Aside0.mk A120
    clear A120
    have HC13 := Aside0.mk H
    clear H
    go_enter Try.func8, Try.ntmps8
    go_upto_region 12 with (first | ((with_reducible refine gate_callee (f := 30) rfl ?_); refine goesL_ (some 31) rfl rfl Try.func30 (by kernel_rfl) rfl #[.slice A0 l0.length c0] rfl (by (try simp only [List.map_toArray, List.map_cons, List.map_nil]); first | done | rfl | (simp only [List.length_drop, List.length_take]; rfl)) ?_; (with_reducible refine (laws_big.calls _ _ l0 false _ ?side1 ?side2 A2.out).mono ?_); (case side1 => repeat (first | exact HR0.out | (with_reducible refine Kd.C_alloc ?_ _) | (with_reducible refine Kd.C_drewN ?_ _) | (with_reducible refine Kd.C_drew ?_))); (case side2 => exact HC0.out); rintro e w' ⟨rfl, ⟨nd, rfl⟩⟩; refine ⟨_, rfl, ?_⟩) | ((with_reducible refine gate_callee (f := 31) rfl ?_); refine goesL_ (some 34) rfl rfl Try.func31 (by kernel_rfl) rfl #[.slice A0 l0.length c0] rfl (by (try simp only [List.map_toArray, List.map_cons, List.map_nil]); first | done | rfl | (simp only [List.length_drop, List.length_take]; rfl)) ?_; (with_reducible refine (spec_DrawEffortOf.calls k _ _ l0 t345 t346 _ ?side1 ?side2 A4.out).mono ?_); (case side1 => repeat (first | exact HR0.out | (with_reducible refine Kd.C_alloc ?_ _) | (with_reducible refine Kd.C_drewN ?_ _) | (with_reducible refine Kd.C_drew ?_))); (case side2 => exact HC0.out); rintro e w14 ⟨v347, v349, rfl, ho0, ho1, hb⟩; refine ⟨_, rfl, ?_⟩; have n0_ := Aside0.mk (Kd.S_lower ho0 (below_size (by repeat (first | (with_reducible first | exact HB.out | apply below_alloc | apply pw_below_drewN | apply below_drew1) | exact HB.out)))); have n1_ := Aside0.mk (Kd.R_lower ho1 (below_size (by repeat (first | (with_reducible first | exact HB.out | apply below_alloc | apply pw_below_drewN | apply below_drew1) | exact HB.out)))); have n2_ := Aside0.mk (below_step (by repeat (first | (with_reducible first | exact HB.out | apply below_alloc | apply pw_below_drewN | apply below_drew1) | exact HB.out)) hb); clear HB; have HO348 := n0_; have HO350 := n1_; have HB := n2_; clear n0_ n1_ n2_; (try clear hb); (try clear hb2); (try clear hk); (try clear hi); (try clear ho0); (try clear ho1); obtain ⟨Ao15, co15, eo15⟩ := Kd.S_slice HO348.out; subst eo15; obtain ⟨Ao16, co16, eo16⟩ := Kd.R_slice HO350.out; subst eo16) | ((with_reducible refine gate_callee (f := 22) rfl ?_); refine goesL_ (some 40) rfl rfl Try.func22 (by kernel_rfl) rfl #[.slice Ao15 t345.length co15, .slice Ao16 t346.length co16] rfl (by (try simp only [List.map_toArray, List.map_cons, List.map_nil]); first | done | rfl | (simp only [List.length_drop, List.length_take]; rfl)) ?_; (with_reducible refine (impl_EffortOf.calls k _ _ t345 _ _ t346 t351 t352 _ ?side1 ?side2 ?side3 ?side4 A5.out).mono ?_); (case side1 => repeat (first | exact (Kd.S_reads' HO348.out).2.2 | (with_reducible refine Kd.C_alloc ?_ _) | (with_reducible refine Kd.C_drewN ?_ _) | (with_reducible refine Kd.C_drew ?_))); (case side2 => exact (Kd.S_reads' HO348.out).2.1); (case side3 => repeat (first | exact (Kd.R_reads' HO350.out).2.2 | (with_reducible refine Kd.C_alloc ?_ _) | (with_reducible refine Kd.C_drewN ?_ _) | (with_reducible refine Kd.C_drew ?_))); (case side4 => exact (Kd.R_reads' HO350.out).2.1); rintro e w17 ⟨rfl, hb⟩; refine ⟨_, rfl, ?_⟩; have n0_ := Aside0.mk (Kd.S_below (by (with_reducible repeat (first | apply Kd.S_alloc | apply Kd.S_drewN | apply Kd.S_drew)); exact HO348.out) hb); have n1_ := Aside0.mk (Kd.R_below (by (with_reducible repeat (first | apply Kd.R_alloc | apply Kd.R_drewN | apply Kd.R_drew)); exact HO350.out) hb); have n2_ := Aside0.mk (below_step (by repeat (first | (with_reducible first | exact HB.out | apply below_alloc | apply pw_below_drewN | apply below_drew1) | exact HB.out)) hb); clear HO348; clear HO350; clear HB; have HO348 := n0_; have HO350 := n1_; have HB := n2_; clear n0_ n1_ n2_; (try clear hb); (try clear hb2); (try clear hk); (try clear hi)) | ((with_reducible refine gate_callee (f := 19) rfl ?_); refine goesL_ (some 46) rfl rfl Try.func19 (by kernel_rfl) rfl #[.slice Ao15 t345.length co15, .slice Ao16 t346.length co16] rfl (by (try simp only [List.map_toArray, List.map_cons, List.map_nil]); first | done | rfl | (simp only [List.length_drop, List.length_take]; rfl)) ?_; (with_reducible refine (spec_EffortOf.calls k _ _ t345 _ _ t346 t353 t354 _ ?side1 ?side2 ?side3 ?side4 A6.out).mono ?_); (case side1 => repeat (first | exact (Kd.S_reads' HO348.out).2.2 | (with_reducible refine Kd.C_alloc ?_ _) | (with_reducible refine Kd.C_drewN ?_ _) | (with_reducible refine Kd.C_drew ?_))); (case side2 => exact (Kd.S_reads' HO348.out).2.1); (case side3 => repeat (first | exact (Kd.R_reads' HO350.out).2.2 | (with_reducible refine Kd.C_alloc ?_ _) | (with_reducible refine Kd.C_drewN ?_ _) | (with_reducible refine Kd.C_drew ?_))); (case side4 => exact (Kd.R_reads' HO350.out).2.1); rintro e w18 ⟨rfl, hb⟩; refine ⟨_, rfl, ?_⟩; have n0_ := Aside0.mk (Kd.S_below (by (with_reducible repeat (first | apply Kd.S_alloc | apply Kd.S_drewN | apply Kd.S_drew)); exact HO348.out) hb); have n1_ := Aside0.mk (Kd.R_below (by (with_reducible repeat (first | apply Kd.R_alloc | apply Kd.R_drewN | apply Kd.R_drew)); exact HO350.out) hb); have n2_ := Aside0.mk (below_step (by repeat (first | (with_reducible first | exact HB.out | apply below_alloc | apply pw_below_drewN | apply below_drew1) | exact HB.out)) hb); clear HO348; clear HO350; clear HB; have HO348 := n0_; have HO350 := n1_; have HB := n2_; clear n0_ n1_ n2_; (try clear hb); (try clear hb2); (try clear hk); (try clear hi)) | ((with_reducible refine gate_callee (f := 26) rfl ?_); refine goesL_ (some 51) rfl rfl Try.func26 (by kernel_rfl) rfl #[.slice Ao15 t345.length co15] rfl (by (try simp only [List.map_toArray, List.map_cons, List.map_nil]); first | done | rfl | (simp only [List.length_drop, List.length_take]; rfl)) ?_; (with_reducible refine (impl_BestJobOrder.calls k _ _ t345 t355 t356 t357 _ ?side1 ?side2 A7.out).mono ?_); (case side1 => repeat (first | exact (Kd.S_reads' HO348.out).2.2 | (with_reducible refine Kd.C_alloc ?_ _) | (with_reducible refine Kd.C_drewN ?_ _) | (with_reducible refine Kd.C_drew ?_))); (case side2 => exact (Kd.S_reads' HO348.out).2.1); rintro e w19 ⟨v358, rfl, ho0, hb⟩; refine ⟨_, rfl, ?_⟩; have n0_ := Aside0.mk (Kd.S_below (by (with_reducible repeat (first | apply Kd.S_alloc | apply Kd.S_drewN | apply Kd.S_drew)); exact HO348.out) hb); have n1_ := Aside0.mk (Kd.R_elder' (by (with_reducible repeat (first | apply Kd.R_alloc | apply Kd.R_drewN | apply Kd.R_drew)); exact HO350.out) (Kd.R_base ho0) hb); have n2_ := Aside0.mk (Kd.R_lower (Kd.R_new' ho0 (Kd.R_lt (by (with_reducible repeat (first | apply Kd.R_alloc | apply Kd.R_drewN | apply Kd.R_drew)); exact HO350.out))) (below_size (by repeat (first | (with_reducible first | exact HB.out | apply below_alloc | apply pw_below_drewN | apply below_drew1) | exact HB.out)))); have n3_ := Aside0.mk (below_step (by repeat (first | (with_reducible first | exact HB.out | apply below_alloc | apply pw_below_drewN | apply below_drew1) | exact HB.out)) hb); clear HO348; clear HO350; clear HB; have HO348 := n0_; have HO350 := n1_; have HO359 := n2_; have HB := n3_; clear n0_ n1_ n2_ n3_; (try clear hb); (try clear hb2); (try clear hk); (try clear hi); (try clear ho0)) | ((with_reducible refine gate_callee (f := 25) rfl ?_); refine goesL_ (some 57) rfl rfl Try.func25 (by kernel_rfl) rfl #[.slice Ao15 t345.length co15] rfl (by (try simp only [List.map_toArray, List.map_cons, List.map_nil]); first | done | rfl | (simp only [List.length_drop, List.length_take]; rfl)) ?_; (with_reducible refine (spec_BestJobOrder.calls k _ _ t345 t360 t361 t362 _ ?side1 ?side2 A8.out).mono ?_); (case side1 => repeat (first | exact (Kd.S_reads' HO348.out).2.2 | (with_reducible refine Kd.C_alloc ?_ _) | (with_reducible refine Kd.C_drewN ?_ _) | (with_reducible refine Kd.C_drew ?_))); (case side2 => exact (Kd.S_reads' HO348.out).2.1); rintro e w20 ⟨v363, rfl, ho0, hb⟩; refine ⟨_, rfl, ?_⟩; have n0_ := Aside0.mk (Kd.S_below (by (with_reducible repeat (first | apply Kd.S_alloc | apply Kd.S_drewN | apply Kd.S_drew)); exact HO348.out) hb); have n1_ := Aside0.mk (Kd.R_elder' (by (with_reducible repeat (first | apply Kd.R_alloc | apply Kd.R_drewN | apply Kd.R_drew)); exact HO350.out) (Kd.R_base ho0) hb); have n2_ := Aside0.mk (Kd.R_elder' (by (with_reducible repeat (first | apply Kd.R_alloc | apply Kd.R_drewN | apply Kd.R_drew)); exact HO359.out) (Kd.R_base ho0) hb); have n3_ := Aside0.mk (Kd.R_lower (Kd.R_new' (Kd.R_new' ho0 (Kd.R_lt (by (with_reducible repeat (first | apply Kd.R_alloc | apply Kd.R_drewN | apply Kd.R_drew)); exact HO350.out))) (Kd.R_lt (by (with_reducible repeat (first | apply Kd.R_alloc | apply Kd.R_drewN | apply Kd.R_drew)); exact HO359.out))) (below_size (by repeat (first | (with_reducible first | exact HB.out | apply below_alloc | apply pw_below_drewN | apply below_drew1) | exact HB.out)))); have n4_ := Aside0.mk (below_step (by repeat (first | (with_reducible first | exact HB.out | apply below_alloc | apply pw_below_drewN | apply below_drew1) | exact HB.out)) hb); clear HO348; clear HO350; clear HO359; clear HB; have HO348 := n0_; have HO350 := n1_; have HO359 := n2_; have HO364 := n3_; have HB := n4_; clear n0_ n1_ n2_ n3_ n4_; (try clear hb); (try clear hb2); (try clear hk); (try clear hi); (try clear ho0)) | ((with_reducible refine gate_callee (f := 32) rfl ?_); refine goesL_ (some 63) rfl rfl Try.func32 (by kernel_rfl) rfl #[.slice A0 l0.length c0] rfl (by (try simp only [List.map_toArray, List.map_cons, List.map_nil]); first | done | rfl | (simp only [List.length_drop, List.length_take]; rfl)) ?_; (with_reducible refine (spec_DrawCountChanges.calls k _ _ l0 t365 t366 _ ?side1 ?side2 A9.out).mono ?_); (case side1 => repeat (first | exact (Kd.C_below HR0.out HB.out) | (with_reducible refine Kd.C_alloc ?_ _) | (with_reducible refine Kd.C_drewN ?_ _) | (with_reducible refine Kd.C_drew ?_))); (case side2 => exact HC0.out); rintro e w21 ⟨v367, v369, rfl, ho0, ho1, hb⟩; refine ⟨_, rfl, ?_⟩; have n0_ := Aside0.mk (Kd.S_mono (Kd.S_told (Kd.S_told (Kd.S_old (by (with_reducible repeat (first | apply Kd.S_alloc | apply Kd.S_drewN | apply Kd.S_drew)); exact HO348.out) hb) (Kd.R_base ho0)) (Kd.R_base ho1)) (fun _ h_ => h_.1)); have n1_ := Aside0.mk (Kd.R_below (by (with_reducible repeat (first | apply Kd.R_alloc | apply Kd.R_drewN | apply Kd.R_drew)); exact HO350.out) hb); have n2_ := Aside0.mk (Kd.R_below (by (with_reducible repeat (first | apply Kd.R_alloc | apply Kd.R_drewN | apply Kd.R_drew)); exact HO359.out) hb); have n3_ := Aside0.mk (Kd.R_below (by (with_reducible repeat (first | apply Kd.R_alloc | apply Kd.R_drewN | apply Kd.R_drew)); exact HO364.out) hb); have n4_ := Aside0.mk (Kd.R_lower ho0 (below_size (by repeat (first | (with_reducible first | exact HB.out | apply below_alloc | apply pw_below_drewN | apply below_drew1) | exact HB.out)))); have n5_ := Aside0.mk (Kd.R_lower ho1 (below_size (by repeat (first | (with_reducible first | exact HB.out | apply below_alloc | apply pw_below_drewN | apply below_drew1) | exact HB.out)))); have n6_ := Aside0.mk (below_step (by repeat (first | (with_reducible first | exact HB.out | apply below_alloc | apply pw_below_drewN | apply below_drew1) | exact HB.out)) hb); clear HO348; clear HO350; clear HO359; clear HO364; clear HB; have HO348 := n0_; have HO350 := n1_; have HO359 := n2_; have HO364 := n3_; have HO368 := n4_; have HO370 := n5_; have HB := n6_; clear n0_ n1_ n2_ n3_ n4_ n5_ n6_; (try clear hb); (try clear hb2); (try clear hk); (try clear hi); (try clear ho0); (try clear ho1); obtain ⟨Ao22, co22, eo22⟩ := Kd.R_slice HO368.out; subst eo22; obtain ⟨Ao23, co23, eo23⟩ := Kd.R_slice HO370.out; subst eo23) | ((with_reducible refine gate_callee (f := 15) rfl ?_); refine goesL_ (some 69) rfl rfl Try.func15 (by kernel_rfl) rfl #[.slice Ao22 t365.length co22, .slice Ao23 t366.length co23] rfl (by (try simp only [List.map_toArray, List.map_cons, List.map_nil]); first | done | rfl | (simp only [List.length_drop, List.length_take]; rfl)) ?_; (with_reducible refine (impl_CountChanges.calls k _ _ t365 _ _ t366 t371 t372 _ ?side1 ?side2 ?side3 ?side4 A10.out).mono ?_); (case side1 => repeat (first | exact (Kd.R_reads' HO368.out).2.2 | (with_reducible refine Kd.C_alloc ?_ _) | (with_reducible refine Kd.C_drewN ?_ _) | (with_reducible refine Kd.C_drew ?_))); (case side2 => exact (Kd.R_reads' HO368.out).2.1); (case side3 => repeat (first | exact (Kd.R_reads' HO370.out).2.2 | (with_reducible refine Kd.C_alloc ?_ _) | (with_reducible refine Kd.C_drewN ?_ _) | (with_reducible refine Kd.C_drew ?_))); (case side4 => exact (Kd.R_reads' HO370.out).2.1); rintro e w24 ⟨rfl, hb⟩; refine ⟨_, rfl, ?_⟩; have n0_ := Aside0.mk (Kd.S_below (by (with_reducible repeat (first | apply Kd.S_alloc | apply Kd.S_drewN | apply Kd.S_drew)); exact HO348.out) hb); have n1_ := Aside0.mk (Kd.R_below (by (with_reducible repeat (first | apply Kd.R_alloc | apply Kd.R_drewN | apply Kd.R_drew)); exact HO350.out) hb); have n2_ := Aside0.mk (Kd.R_below (by (with_reducible repeat (first | apply Kd.R_alloc | apply Kd.R_drewN | apply Kd.R_drew)); exact HO359.out) hb); have n3_ := Aside0.mk (Kd.R_below (by (with_reducible repeat (first | apply Kd.R_alloc | apply Kd.R_drewN | apply Kd.R_drew)); exact HO364.out) hb); have n4_ := Aside0.mk (Kd.R_below (by (with_reducible repeat (first | apply Kd.R_alloc | apply Kd.R_drewN | apply Kd.R_drew)); exact HO368.out) hb); have n5_ := Aside0.mk (Kd.R_below (by (with_reducible repeat (first | apply Kd.R_alloc | apply Kd.R_drewN | apply Kd.R_drew)); exact HO370.out) hb); have n6_ := Aside0.mk (below_step (by repeat (first | (with_reducible first | exact HB.out | apply below_alloc | apply pw_below_drewN | apply below_drew1) | exact HB.out)) hb); clear HO348; clear HO350; clear HO359; clear HO364; clear HO368; clear HO370; clear HB; have HO348 := n0_; have HO350 := n1_; have HO359 := n2_; have HO364 := n3_; have HO368 := n4_; have HO370 := n5_; have HB := n6_; clear n0_ n1_ n2_ n3_ n4_ n5_ n6_; (try clear hb); (try clear hb2); (try clear hk); (try clear hi)) | ((with_reducible refine gate_callee (f := 14) rfl ?_); refine goesL_ (some 75) rfl rfl Try.func14 (by kernel_rfl) rfl #[.slice Ao22 t365.length co22, .slice Ao23 t366.length co23] rfl (by (try simp only [List.map_toArray, List.map_cons, List.map_nil]); first | done | rfl | (simp only [List.length_drop, List.length_take]; rfl)) ?_; (with_reducible refine (spec_CountChanges.calls k _ _ t365 _ _ t366 t373 t374 _ ?side1 ?side2 ?side3 ?side4 A11.out).mono ?_); (case side1 => repeat (first | exact (Kd.R_reads' HO368.out).2.2 | (with_reducible refine Kd.C_alloc ?_ _) | (with_reducible refine Kd.C_drewN ?_ _) | (with_reducible refine Kd.C_drew ?_))); (case side2 => exact (Kd.R_reads' HO368.out).2.1); (case side3 => repeat (first | exact (Kd.R_reads' HO370.out).2.2 | (with_reducible refine Kd.C_alloc ?_ _) | (with_reducible refine Kd.C_drewN ?_ _) | (with_reducible refine Kd.C_drew ?_))); (case side4 => exact (Kd.R_reads' HO370.out).2.1); rintro e w' ⟨rfl, ⟨nd, rfl⟩⟩; refine ⟨_, rfl, ?_⟩) | ((with_reducible refine gate_callee (f := 15) rfl ?_); refine goesL_ (some 81) rfl rfl Try.func15 (by kernel_rfl) rfl #[.slice Ao23 t366.length co23, .slice Ao22 t365.length co22] rfl (by (try simp only [List.map_toArray, List.map_cons, List.map_nil]); first | done | rfl | (simp only [List.length_drop, List.length_take]; rfl)) ?_; (with_reducible refine (impl_CountChanges.calls k _ _ t366 _ _ t365 t375 t376 _ ?side1 ?side2 ?side3 ?side4 A12.out).mono ?_); (case side1 => repeat (first | exact (Kd.R_reads' HO370.out).2.2 | (with_reducible refine Kd.C_alloc ?_ _) | (with_reducible refine Kd.C_drewN ?_ _) | (with_reducible refine Kd.C_drew ?_))); (case side2 => exact (Kd.R_reads' HO370.out).2.1); (case side3 => repeat (first | exact (Kd.R_reads' HO368.out).2.2 | (with_reducible refine Kd.C_alloc ?_ _) | (with_reducible refine Kd.C_drewN ?_ _) | (with_reducible refine Kd.C_drew ?_))); (case side4 => exact (Kd.R_reads' HO368.out).2.1); rintro e w25 ⟨rfl, hb⟩; refine ⟨_, rfl, ?_⟩; have n0_ := Aside0.mk (Kd.S_below (by (with_reducible repeat (first | apply Kd.S_alloc | apply Kd.S_drewN | apply Kd.S_drew)); exact HO348.out) hb); have n1_ := Aside0.mk (Kd.R_below (by (with_reducible repeat (first | apply Kd.R_alloc | apply Kd.R_drewN | apply Kd.R_drew)); exact HO350.out) hb); have n2_ := Aside0.mk (Kd.R_below (by (with_reducible repeat (first | apply Kd.R_alloc | apply Kd.R_drewN | apply Kd.R_drew)); exact HO359.out) hb); have n3_ := Aside0.mk (Kd.R_below (by (with_reducible repeat (first | apply Kd.R_alloc | apply Kd.R_drewN | apply Kd.R_drew)); exact HO364.out) hb); have n4_ := Aside0.mk (Kd.R_below (by (with_reducible repeat (first | apply Kd.R_alloc | apply Kd.R_drewN | apply Kd.R_drew)); exact HO368.out) hb); have n5_ := Aside0.mk (Kd.R_below (by (with_reducible repeat (first | apply Kd.R_alloc | apply Kd.R_drewN | apply Kd.R_drew)); exact HO370.out) hb); have n6_ := Aside0.mk (below_step (by repeat (first | (with_reducible first | exact HB.out | apply below_alloc | apply pw_below_drewN | apply below_drew1) | exact HB.out)) hb); clear HO348; clear HO350; clear HO359; clear HO364; clear HO368; clear HO370; clear HB; have HO348 := n0_; have HO350 := n1_; have HO359 := n2_; have HO364 := n3_; have HO368 := n4_; have HO370 := n5_; have HB := n6_; clear n0_ n1_ n2_ n3_ n4_ n5_ n6_; (try clear hb); (try clear hb2); (try clear hk); (try clear hi)))
    (try simp only [Act.put, List.setIfInBounds_toArray, List.set_cons_zero, List.set_cons_succ])
    go_cut [127] (fun v127 wc => ∃ (kq : Nat) (x127_12 : Bool), v127 = .bool x127_12 ∧ Aside0 (laws_FnEfforts.j0 kq t345 t351 t352 t355 t356 t357 t365 t366 t371 t372 x127_12 = some r) ∧ Aside0 (kq ≤ k) ∧ Aside0 (Kd.S (Kd.slice 60 k60) 26 wc w.heap.size (fun k_ => some k_ ≠ ((.slice Ao22 t365.length co22) : Value).ownBlock ∧ some k_ ≠ ((.slice Ao23 t366.length co23) : Value).ownBlock) (.slice Ao15 t345.length co15) t345) ∧ Aside0 (Kd.R (Kd.int .i64) 2 wc w.heap.size (fun _ => True) v358 t355) ∧ Aside0 (Kd.R k60 60 wc w.heap.size (fun k_ => some k_ ≠ ((.slice Ao23 t366.length co23) : Value).ownBlock) (.slice Ao22 t365.length co22) t365) ∧ Aside0 (Kd.R k60 60 wc w.heap.size (fun k_ => some k_ ≠ ((.slice Ao22 t365.length co22) : Value).ownBlock) (.slice Ao23 t366.length co23) t366) ∧ Aside0 (Below w.heap.size w wc))
    case first =>
      have H := HC13.out
      clear HC13
      by_cases c26 : t352 = t354
      · rw [if_pos c26] at H
        have c26b0 : (t352 == t354) = true := beq_iff_eq.mpr c26
        have c26b1 : (t352 != t354) = false := bne_eq_false_iff_eq.mpr c26
        clear c26
        (first | rw [c26b0] | (simp only [i64_w, i32_w]; rw [c26b0]) | skip)
        by_cases c27 : t351 = t353
        · rw [if_pos c27] at H
          have c27b0 : (t351 == t353) = true := beq_iff_eq.mpr c27
          have c27b1 : (t351 != t353) = false := bne_eq_false_iff_eq.mpr c27
          clear c27
          by_cases c28 : t357 = t362
          · rw [if_pos c28] at H
            have c28b0 : (t357 == t362) = true := beq_iff_eq.mpr c28
            have c28b1 : (t357 != t362) = false := bne_eq_false_iff_eq.mpr c28
            clear c28
            replace H := Option.bind_eq_some_iff.mp H
            obtain ⟨t377, A290, H⟩ := H
            replace H : (if t377 = true then (if t356 = t361 then (if t372 = t374 then (if t371 = t373 then (if t376 = t372 then (laws_FnEfforts.j0 k t345 t351 t352 t355 t356 t357 t365 t366 t371 t372 (t375 != t371)) else (laws_FnEfforts.j0 k t345 t351 t352 t355 t356 t357 t365 t366 t371 t372 true)) else (laws_FnEfforts.j0 k t345 t351 t352 t355 t356 t357 t365 t366 t371 t372 true)) else (laws_FnEfforts.j0 k t345 t351 t352 t355 t356 t357 t365 t366 t371 t372 true)) else (laws_FnEfforts.j0 k t345 t351 t352 t355 t356 t357 t365 t366 t371 t372 true)) else (laws_FnEfforts.j0 k t345 t351 t352 t355 t356 t357 t365 t366 t371 t372 true)) = some r := H
            have A29 := Aside0.mk A290
            clear A290
            by_cases c30 : t377 = true
            · subst c30
              have H1 : (if t356 = t361 then (if t372 = t374 then (if t371 = t373 then (if t376 = t372 then (laws_FnEfforts.j0 k t345 t351 t352 t355 t356 t357 t365 t366 t371 t372 (t375 != t371)) else (laws_FnEfforts.j0 k t345 t351 t352 t355 t356 t357 t365 t366 t371 t372 true)) else (laws_FnEfforts.j0 k t345 t351 t352 t355 t356 t357 t365 t366 t371 t372 true)) else (laws_FnEfforts.j0 k t345 t351 t352 t355 t356 t357 t365 t366 t371 t372 true)) else (laws_FnEfforts.j0 k t345 t351 t352 t355 t356 t357 t365 t366 t371 t372 true)) = some r := by rw [if_pos rfl] at H; exact H
              clear H
              have H := H1
              clear H1
              by_cases c31 : t356 = t361
              · rw [if_pos c31] at H
                have c31b0 : (t356 == t361) = true := beq_iff_eq.mpr c31
                have c31b1 : (t356 != t361) = false := bne_eq_false_iff_eq.mpr c31
                clear c31
                by_cases c32 : t372 = t374
                · rw [if_pos c32] at H
                  have c32b0 : (t372 == t374) = true := beq_iff_eq.mpr c32
                  have c32b1 : (t372 != t374) = false := bne_eq_false_iff_eq.mpr c32
                  clear c32
                  by_cases c33 : t371 = t373
                  · rw [if_pos c33] at H
                    have c33b0 : (t371 == t373) = true := beq_iff_eq.mpr c33
                    have c33b1 : (t371 != t373) = false := bne_eq_false_iff_eq.mpr c33
                    clear c33
                    by_cases c34 : t376 = t372
                    · rw [if_pos c34] at H
                      have c34b0 : (t376 == t372) = true := beq_iff_eq.mpr c34
                      have c34b1 : (t376 != t372) = false := bne_eq_false_iff_eq.mpr c34
                      clear c34
                      have H' := Aside0.mk H
                      clear H
                      obtain ⟨Ao35, co35, eo35⟩ := Kd.R_slice HO359.out
                      subst eo35
                      obtain ⟨Ao36, co36, eo36⟩ := Kd.R_slice HO364.out
                      subst eo36
                      go_wp2_with (first | (go_at_call 33; (with_reducible refine (laws_likeInts.calls k _ _ t355 _ _ t360 true _ ?side1 ?side2 ?side3 ?side4 A29.out).mono ?_); (case side1 => repeat (first | exact (Kd.R_reads' HO359.out).2.2 | (with_reducible refine Kd.C_alloc ?_ _) | (with_reducible refine Kd.C_drewN ?_ _) | (with_reducible refine Kd.C_drew ?_))); (case side2 => exact (Kd.R_reads' HO359.out).2.1); (case side3 => repeat (first | exact (Kd.R_reads' HO364.out).2.2 | (with_reducible refine Kd.C_alloc ?_ _) | (with_reducible refine Kd.C_drewN ?_ _) | (with_reducible refine Kd.C_drew ?_))); (case side4 => exact (Kd.R_reads' HO364.out).2.1); rintro e w' ⟨rfl, ⟨nd, rfl⟩⟩))
                      go_meet
                      case rel => exact ⟨_, ((t375 != t371)), (by first | rfl | (simp; done) | (simp [*]; done)), H', ⟨by first | omega | exact Nat.le_refl _⟩, ⟨by (with_reducible repeat (first | apply Kd.S_alloc | apply Kd.S_drewN | apply Kd.S_drew)); exact Kd.S_mono HO348.out (fun _ hk => ⟨hk.1.2, hk.2⟩)⟩, ⟨by (with_reducible repeat (first | apply Kd.R_alloc | apply Kd.R_drewN | apply Kd.R_drew)); exact Kd.R_mono HO359.out (fun _ hk => trivial)⟩, ⟨by (with_reducible repeat (first | apply Kd.R_alloc | apply Kd.R_drewN | apply Kd.R_drew)); exact HO368.out⟩, ⟨by (with_reducible repeat (first | apply Kd.R_alloc | apply Kd.R_drewN | apply Kd.R_drew)); exact HO370.out⟩, ⟨by repeat (first | (with_reducible first | exact HB.out | apply below_alloc | apply pw_below_drewN | apply below_drew1) | exact HB.out)⟩⟩
                    · rw [if_neg c34] at H
                      have c34b0 : (t376 == t372) = false := beq_eq_false_iff_ne.mpr c34
                      have c34b1 : (t376 != t372) = true := bne_iff_ne.mpr c34
                      have H' := Aside0.mk H
                      clear H
                      obtain ⟨Ao37, co37, eo37⟩ := Kd.R_slice HO359.out
                      subst eo37
                      obtain ⟨Ao38, co38, eo38⟩ := Kd.R_slice HO364.out
                      subst eo38
                      go_wp2_with (first | (go_at_call 33; (with_reducible refine (laws_likeInts.calls k _ _ t355 _ _ t360 true _ ?side1 ?side2 ?side3 ?side4 A29.out).mono ?_); (case side1 => repeat (first | exact (Kd.R_reads' HO359.out).2.2 | (with_reducible refine Kd.C_alloc ?_ _) | (with_reducible refine Kd.C_drewN ?_ _) | (with_reducible refine Kd.C_drew ?_))); (case side2 => exact (Kd.R_reads' HO359.out).2.1); (case side3 => repeat (first | exact (Kd.R_reads' HO364.out).2.2 | (with_reducible refine Kd.C_alloc ?_ _) | (with_reducible refine Kd.C_drewN ?_ _) | (with_reducible refine Kd.C_drew ?_))); (case side4 => exact (Kd.R_reads' HO364.out).2.1); rintro e w' ⟨rfl, ⟨nd, rfl⟩⟩))
                      go_meet
                      case rel => exact ⟨_, (true), (by first | rfl | (simp; done) | (simp [*]; done)), H', ⟨by first | omega | exact Nat.le_refl _⟩, ⟨by (with_reducible repeat (first | apply Kd.S_alloc | apply Kd.S_drewN | apply Kd.S_drew)); exact Kd.S_mono HO348.out (fun _ hk => ⟨hk.1.2, hk.2⟩)⟩, ⟨by (with_reducible repeat (first | apply Kd.R_alloc | apply Kd.R_drewN | apply Kd.R_drew)); exact Kd.R_mono HO359.out (fun _ hk => trivial)⟩, ⟨by (with_reducible repeat (first | apply Kd.R_alloc | apply Kd.R_drewN | apply Kd.R_drew)); exact HO368.out⟩, ⟨by (with_reducible repeat (first | apply Kd.R_alloc | apply Kd.R_drewN | apply Kd.R_drew)); exact HO370.out⟩, ⟨by repeat (first | (with_reducible first | exact HB.out | apply below_alloc | apply pw_below_drewN | apply below_drew1) | exact HB.out)⟩⟩
                  · rw [if_neg c33] at H
                    have c33b0 : (t371 == t373) = false := beq_eq_false_iff_ne.mpr c33
                    have c33b1 : (t371 != t373) = true := bne_iff_ne.mpr c33
                    have H' := Aside0.mk H
                    clear H
                    obtain ⟨Ao39, co39, eo39⟩ := Kd.R_slice HO359.out
                    subst eo39
                    obtain ⟨Ao40, co40, eo40⟩ := Kd.R_slice HO364.out
                    subst eo40
                    go_wp2_with (first | (go_at_call 33; (with_reducible refine (laws_likeInts.calls k _ _ t355 _ _ t360 true _ ?side1 ?side2 ?side3 ?side4 A29.out).mono ?_); (case side1 => repeat (first | exact (Kd.R_reads' HO359.out).2.2 | (with_reducible refine Kd.C_alloc ?_ _) | (with_reducible refine Kd.C_drewN ?_ _) | (with_reducible refine Kd.C_drew ?_))); (case side2 => exact (Kd.R_reads' HO359.out).2.1); (case side3 => repeat (first | exact (Kd.R_reads' HO364.out).2.2 | (with_reducible refine Kd.C_alloc ?_ _) | (with_reducible refine Kd.C_drewN ?_ _) | (with_reducible refine Kd.C_drew ?_))); (case side4 => exact (Kd.R_reads' HO364.out).2.1); rintro e w' ⟨rfl, ⟨nd, rfl⟩⟩))
                    go_meet
                    case rel => exact ⟨_, (true), (by first | rfl | (simp; done) | (simp [*]; done)), H', ⟨by first | omega | exact Nat.le_refl _⟩, ⟨by (with_reducible repeat (first | apply Kd.S_alloc | apply Kd.S_drewN | apply Kd.S_drew)); exact Kd.S_mono HO348.out (fun _ hk => ⟨hk.1.2, hk.2⟩)⟩, ⟨by (with_reducible repeat (first | apply Kd.R_alloc | apply Kd.R_drewN | apply Kd.R_drew)); exact Kd.R_mono HO359.out (fun _ hk => trivial)⟩, ⟨by (with_reducible repeat (first | apply Kd.R_alloc | apply Kd.R_drewN | apply Kd.R_drew)); exact HO368.out⟩, ⟨by (with_reducible repeat (first | apply Kd.R_alloc | apply Kd.R_drewN | apply Kd.R_drew)); exact HO370.out⟩, ⟨by repeat (first | (with_reducible first | exact HB.out | apply below_alloc | apply pw_below_drewN | apply below_drew1) | exact HB.out)⟩⟩
                · rw [if_neg c32] at H
                  have c32b0 : (t372 == t374) = false := beq_eq_false_iff_ne.mpr c32
                  have c32b1 : (t372 != t374) = true := bne_iff_ne.mpr c32
                  have H' := Aside0.mk H
                  clear H
                  obtain ⟨Ao41, co41, eo41⟩ := Kd.R_slice HO359.out
                  subst eo41
                  obtain ⟨Ao42, co42, eo42⟩ := Kd.R_slice HO364.out
                  subst eo42
                  go_wp2_with (first | (go_at_call 33; (with_reducible refine (laws_likeInts.calls k _ _ t355 _ _ t360 true _ ?side1 ?side2 ?side3 ?side4 A29.out).mono ?_); (case side1 => repeat (first | exact (Kd.R_reads' HO359.out).2.2 | (with_reducible refine Kd.C_alloc ?_ _) | (with_reducible refine Kd.C_drewN ?_ _) | (with_reducible refine Kd.C_drew ?_))); (case side2 => exact (Kd.R_reads' HO359.out).2.1); (case side3 => repeat (first | exact (Kd.R_reads' HO364.out).2.2 | (with_reducible refine Kd.C_alloc ?_ _) | (with_reducible refine Kd.C_drewN ?_ _) | (with_reducible refine Kd.C_drew ?_))); (case side4 => exact (Kd.R_reads' HO364.out).2.1); rintro e w' ⟨rfl, ⟨nd, rfl⟩⟩))
                  go_meet
                  case rel => exact ⟨_, (true), (by first | rfl | (simp; done) | (simp [*]; done)), H', ⟨by first | omega | exact Nat.le_refl _⟩, ⟨by (with_reducible repeat (first | apply Kd.S_alloc | apply Kd.S_drewN | apply Kd.S_drew)); exact Kd.S_mono HO348.out (fun _ hk => ⟨hk.1.2, hk.2⟩)⟩, ⟨by (with_reducible repeat (first | apply Kd.R_alloc | apply Kd.R_drewN | apply Kd.R_drew)); exact Kd.R_mono HO359.out (fun _ hk => trivial)⟩, ⟨by (with_reducible repeat (first | apply Kd.R_alloc | apply Kd.R_drewN | apply Kd.R_drew)); exact HO368.out⟩, ⟨by (with_reducible repeat (first | apply Kd.R_alloc | apply Kd.R_drewN | apply Kd.R_drew)); exact HO370.out⟩, ⟨by repeat (first | (with_reducible first | exact HB.out | apply below_alloc | apply pw_below_drewN | apply below_drew1) | exact HB.out)⟩⟩
              · rw [if_neg c31] at H
                have c31b0 : (t356 == t361) = false := beq_eq_false_iff_ne.mpr c31
                have c31b1 : (t356 != t361) = true := bne_iff_ne.mpr c31
                have H' := Aside0.mk H
                clear H
                obtain ⟨Ao43, co43, eo43⟩ := Kd.R_slice HO359.out
                subst eo43
                obtain ⟨Ao44, co44, eo44⟩ := Kd.R_slice HO364.out
                subst eo44
                go_wp2_with (first | (go_at_call 33; (with_reducible refine (laws_likeInts.calls k _ _ t355 _ _ t360 true _ ?side1 ?side2 ?side3 ?side4 A29.out).mono ?_); (case side1 => repeat (first | exact (Kd.R_reads' HO359.out).2.2 | (with_reducible refine Kd.C_alloc ?_ _) | (with_reducible refine Kd.C_drewN ?_ _) | (with_reducible refine Kd.C_drew ?_))); (case side2 => exact (Kd.R_reads' HO359.out).2.1); (case side3 => repeat (first | exact (Kd.R_reads' HO364.out).2.2 | (with_reducible refine Kd.C_alloc ?_ _) | (with_reducible refine Kd.C_drewN ?_ _) | (with_reducible refine Kd.C_drew ?_))); (case side4 => exact (Kd.R_reads' HO364.out).2.1); rintro e w' ⟨rfl, ⟨nd, rfl⟩⟩))
                go_meet
                case rel => exact ⟨_, (true), (by first | rfl | (simp; done) | (simp [*]; done)), H', ⟨by first | omega | exact Nat.le_refl _⟩, ⟨by (with_reducible repeat (first | apply Kd.S_alloc | apply Kd.S_drewN | apply Kd.S_drew)); exact Kd.S_mono HO348.out (fun _ hk => ⟨hk.1.2, hk.2⟩)⟩, ⟨by (with_reducible repeat (first | apply Kd.R_alloc | apply Kd.R_drewN | apply Kd.R_drew)); exact Kd.R_mono HO359.out (fun _ hk => trivial)⟩, ⟨by (with_reducible repeat (first | apply Kd.R_alloc | apply Kd.R_drewN | apply Kd.R_drew)); exact HO368.out⟩, ⟨by (with_reducible repeat (first | apply Kd.R_alloc | apply Kd.R_drewN | apply Kd.R_drew)); exact HO370.out⟩, ⟨by repeat (first | (with_reducible first | exact HB.out | apply below_alloc | apply pw_below_drewN | apply below_drew1) | exact HB.out)⟩⟩
            · replace c30 := Bool.eq_false_iff.mpr c30
              subst c30
              have H1 : (laws_FnEfforts.j0 k t345 t351 t352 t355 t356 t357 t365 t366 t371 t372 true) = some r := by rw [if_neg (show ¬ (false = true) by decide)] at H; exact H
              clear H
              have H := H1
              clear H1
              have H' := Aside0.mk H
              clear H
              obtain ⟨Ao45, co45, eo45⟩ := Kd.R_slice HO359.out
              subst eo45
              obtain ⟨Ao46, co46, eo46⟩ := Kd.R_slice HO364.out
              subst eo46
              go_wp2_with (first | (go_at_call 33; (with_reducible refine (laws_likeInts.calls k _ _ t355 _ _ t360 false _ ?side1 ?side2 ?side3 ?side4 A29.out).mono ?_); (case side1 => repeat (first | exact (Kd.R_reads' HO359.out).2.2 | (with_reducible refine Kd.C_alloc ?_ _) | (with_reducible refine Kd.C_drewN ?_ _) | (with_reducible refine Kd.C_drew ?_))); (case side2 => exact (Kd.R_reads' HO359.out).2.1); (case side3 => repeat (first | exact (Kd.R_reads' HO364.out).2.2 | (with_reducible refine Kd.C_alloc ?_ _) | (with_reducible refine Kd.C_drewN ?_ _) | (with_reducible refine Kd.C_drew ?_))); (case side4 => exact (Kd.R_reads' HO364.out).2.1); rintro e w' ⟨rfl, ⟨nd, rfl⟩⟩))
              go_meet
              case rel => exact ⟨_, (true), (by first | rfl | (simp; done) | (simp [*]; done)), H', ⟨by first | omega | exact Nat.le_refl _⟩, ⟨by (with_reducible repeat (first | apply Kd.S_alloc | apply Kd.S_drewN | apply Kd.S_drew)); exact Kd.S_mono HO348.out (fun _ hk => ⟨hk.1.2, hk.2⟩)⟩, ⟨by (with_reducible repeat (first | apply Kd.R_alloc | apply Kd.R_drewN | apply Kd.R_drew)); exact Kd.R_mono HO359.out (fun _ hk => trivial)⟩, ⟨by (with_reducible repeat (first | apply Kd.R_alloc | apply Kd.R_drewN | apply Kd.R_drew)); exact HO368.out⟩, ⟨by (with_reducible repeat (first | apply Kd.R_alloc | apply Kd.R_drewN | apply Kd.R_drew)); exact HO370.out⟩, ⟨by repeat (first | (with_reducible first | exact HB.out | apply below_alloc | apply pw_below_drewN | apply below_drew1) | exact HB.out)⟩⟩
          · rw [if_neg c28] at H
            have c28b0 : (t357 == t362) = false := beq_eq_false_iff_ne.mpr c28
            have c28b1 : (t357 != t362) = true := bne_iff_ne.mpr c28
            have H' := Aside0.mk H
            clear H
            go_wp2
            go_meet
            case rel => exact ⟨_, (true), (by first | rfl | (simp; done) | (simp [*]; done)), H', ⟨by first | omega | exact Nat.le_refl _⟩, ⟨by (with_reducible repeat (first | apply Kd.S_alloc | apply Kd.S_drewN | apply Kd.S_drew)); exact Kd.S_mono HO348.out (fun _ hk => ⟨hk.1.2, hk.2⟩)⟩, ⟨by (with_reducible repeat (first | apply Kd.R_alloc | apply Kd.R_drewN | apply Kd.R_drew)); exact Kd.R_mono HO359.out (fun _ hk => trivial)⟩, ⟨by (with_reducible repeat (first | apply Kd.R_alloc | apply Kd.R_drewN | apply Kd.R_drew)); exact HO368.out⟩, ⟨by (with_reducible repeat (first | apply Kd.R_alloc | apply Kd.R_drewN | apply Kd.R_drew)); exact HO370.out⟩, ⟨by repeat (first | (with_reducible first | exact HB.out | apply below_alloc | apply pw_below_drewN | apply below_drew1) | exact HB.out)⟩⟩
        · rw [if_neg c27] at H
          have c27b0 : (t351 == t353) = false := beq_eq_false_iff_ne.mpr c27
          have c27b1 : (t351 != t353) = true := bne_iff_ne.mpr c27
          have H' := Aside0.mk H
          clear H
          go_wp2
          go_meet
          case rel => exact ⟨_, (true), (by first | rfl | (simp; done) | (simp [*]; done)), H', ⟨by first | omega | exact Nat.le_refl _⟩, ⟨by (with_reducible repeat (first | apply Kd.S_alloc | apply Kd.S_drewN | apply Kd.S_drew)); exact Kd.S_mono HO348.out (fun _ hk => ⟨hk.1.2, hk.2⟩)⟩, ⟨by (with_reducible repeat (first | apply Kd.R_alloc | apply Kd.R_drewN | apply Kd.R_drew)); exact Kd.R_mono HO359.out (fun _ hk => trivial)⟩, ⟨by (with_reducible repeat (first | apply Kd.R_alloc | apply Kd.R_drewN | apply Kd.R_drew)); exact HO368.out⟩, ⟨by (with_reducible repeat (first | apply Kd.R_alloc | apply Kd.R_drewN | apply Kd.R_drew)); exact HO370.out⟩, ⟨by repeat (first | (with_reducible first | exact HB.out | apply below_alloc | apply pw_below_drewN | apply below_drew1) | exact HB.out)⟩⟩
      · rw [if_neg c26] at H
        have c26b0 : (t352 == t354) = false := beq_eq_false_iff_ne.mpr c26
        have c26b1 : (t352 != t354) = true := bne_iff_ne.mpr c26
        (first | rw [c26b0] | (simp only [i64_w, i32_w]; rw [c26b0]) | skip)
        have H' := Aside0.mk H
        clear H
        go_wp2
        go_meet
        case rel => exact ⟨_, (true), (by first | rfl | (simp; done) | (simp [*]; done)), H', ⟨by first | omega | exact Nat.le_refl _⟩, ⟨by (with_reducible repeat (first | apply Kd.S_alloc | apply Kd.S_drewN | apply Kd.S_drew)); exact Kd.S_mono HO348.out (fun _ hk => ⟨hk.1.2, hk.2⟩)⟩, ⟨by (with_reducible repeat (first | apply Kd.R_alloc | apply Kd.R_drewN | apply Kd.R_drew)); exact Kd.R_mono HO359.out (fun _ hk => trivial)⟩, ⟨by (with_reducible repeat (first | apply Kd.R_alloc | apply Kd.R_drewN | apply Kd.R_drew)); exact HO368.out⟩, ⟨by (with_reducible repeat (first | apply Kd.R_alloc | apply Kd.R_drewN | apply Kd.R_drew)); exact HO370.out⟩, ⟨by repeat (first | (with_reducible first | exact HB.out | apply below_alloc | apply pw_below_drewN | apply below_drew1) | exact HB.out)⟩⟩
    case rest =>
      clear HC13
      try clear c1
      try clear c2
      try clear p2
      try clear c3
      try clear c8
      try clear c14
      try clear c15
      try clear c19
      try clear c22
      try clear c25
      try clear c26
      try clear c26b0
      try clear c26b1
      try clear c27
      try clear c27b0
      try clear c27b1
      try clear c28
      try clear c28b0
      try clear c28b1
      try clear c30
      try clear c31
      try clear c31b0
      try clear c31b1
      try clear c32
      try clear c32b0
      try clear c32b1
      try clear c33
      try clear c33b0
      try clear c33b1
      try clear c34
      try clear c34b0
      try clear c34b1
      obtain ⟨kq, x127_12, rfl, HA, HJ12, HO_3, HO_9, HO_15, HO_16, HB⟩ := hcut
      cases kq with
      | zero => exact absurd HA.out (by simp [laws_FnEfforts.j0])
      | succ kj12 =>
        have H := HA.out
        clear HA
        simp only [laws_FnEfforts.j0] at H
        by_cases c47 : x127_12 = true
        · subst c47
          have H1 : (some false) = some r := by rw [if_pos rfl] at H; exact H
          clear H
          have H := H1
          clear H1
          exact absurd ((Option.some.inj H).trans hr_.out) (by decide)
        · replace c47 := Bool.eq_false_iff.mpr c47
          subst c47
          have H1 : (if t372 = 0 then ((some (([] : List (S60)) : List (S60))).bind fun y378 => ((impl_CountChanges.f kj12 t365 y378).bind fun bt381 => ((impl_CountChanges.f kj12 y378 t366).bind fun bt383 => (if bt381.2 = 0 then (if bt383.2 = 0 then (laws_FnEfforts.j1 kj12 t345 t351 t352 t355 t356 t357 (decide (t371 > (wrap64 (bt381.1 + bt383.1))))) else (laws_FnEfforts.j1 kj12 t345 t351 t352 t355 t356 t357 true)) else (laws_FnEfforts.j1 kj12 t345 t351 t352 t355 t356 t357 true))))) else (if t352 = 0 then ((impl_EffortOf.f kj12 t345 t355).bind fun bt387 => (if t357 = 0 then (if t356 ≤ t351 then (if bt387.2 = 0 then (some (bt387.1 == t356)) else (some false)) else (some false)) else (some false))) else (some true))) = some r := by rw [if_neg (show ¬ (false = true) by decide)] at H; exact H
          clear H
          have H := H1
          clear H1
          by_cases c48 : t372 = 0
          · rw [if_pos c48] at H
            have c48b0 : (t372 == 0) = true := beq_iff_eq.mpr c48
            have c48b1 : (t372 != 0) = false := bne_eq_false_iff_eq.mpr c48
            clear c48
            obtain ⟨y378, hy378⟩ : ∃ y_ : List (S60), y_ = (([] : List (S60))) := ⟨_, rfl⟩
            replace H : ((impl_CountChanges.f kj12 t365 y378).bind fun bt381 => ((impl_CountChanges.f kj12 y378 t366).bind fun bt383 => (if bt381.2 = 0 then (if bt383.2 = 0 then (laws_FnEfforts.j1 kj12 t345 t351 t352 t355 t356 t357 (decide (t371 > (wrap64 (bt381.1 + bt383.1))))) else (laws_FnEfforts.j1 kj12 t345 t351 t352 t355 t356 t357 true)) else (laws_FnEfforts.j1 kj12 t345 t351 t352 t355 t356 t357 true)))) = some r := by first | (rw [hy378]; with_reducible exact H) | (have H2_ := (Option.bind_some _ _).symm.trans H; rw [hy378]; with_reducible exact H2_) | (have H2_ := (Option.bind_some _ _).symm.trans H; with_reducible exact H2_) | with_reducible exact H | (rw [hy378]; exact H) | exact H
            have Ny378 := Aside0.mk hy378
            clear hy378
            replace H := Option.bind_eq_some_iff.mp H
            obtain ⟨⟨t381, t382⟩, A490, H⟩ := H
            replace H : ((impl_CountChanges.f kj12 y378 t366).bind fun bt383 => (if t382 = 0 then (if bt383.2 = 0 then (laws_FnEfforts.j1 kj12 t345 t351 t352 t355 t356 t357 (decide (t371 > (wrap64 (t381 + bt383.1))))) else (laws_FnEfforts.j1 kj12 t345 t351 t352 t355 t356 t357 true)) else (laws_FnEfforts.j1 kj12 t345 t351 t352 t355 t356 t357 true))) = some r := H
            have A49 := Aside0.mk A490
            clear A490
            replace H := Option.bind_eq_some_iff.mp H
            obtain ⟨⟨t383, t384⟩, A500, H⟩ := H
            replace H : (if t382 = 0 then (if t384 = 0 then (laws_FnEfforts.j1 kj12 t345 t351 t352 t355 t356 t357 (decide (t371 > (wrap64 (t381 + t383))))) else (laws_FnEfforts.j1 kj12 t345 t351 t352 t355 t356 t357 true)) else (laws_FnEfforts.j1 kj12 t345 t351 t352 t355 t356 t357 true)) = some r := H
            have A50 := Aside0.mk A500
            clear A500
            have HC51 := Aside0.mk H
            clear H
            go_upto_region 18 with (first | ((with_reducible refine gate_dst (N := 130) rfl ?_); refine Kd.R_lit k60 _ 60 ?hg (N := 130) ?hd (xs := ([] : List (S60))) (inner := []) (ok := fun _ => True) (okp := fun _ => True) ?hr ?hp (fun _ hk => hk) trivial (Below.refl _ _) (Nat.le_refl _) (by simp) ?_; (case hd => rfl); (case hg => rfl); (case hr => first | (go_simp; done) | (go_simp; rfl)); (case hp => exact (Reps.none _ _)); intro v379 w52 ho53 hb hg_ hnew_; clear hg_ hnew_; (first | rw [← Ny378.out] at ho53 | (simp only [Int.reduceToNat] at ho53; rw [← Ny378.out] at ho53)); have n0_ := Aside0.mk (Kd.S_elder' (by (with_reducible repeat (first | apply Kd.S_alloc | apply Kd.S_drewN | apply Kd.S_drew)); exact HO_3.out) (Kd.R_base ho53) hb); have n1_ := Aside0.mk (Kd.R_below (by (with_reducible repeat (first | apply Kd.R_alloc | apply Kd.R_drewN | apply Kd.R_drew)); exact HO_9.out) hb); have n2_ := Aside0.mk (Kd.R_elder' (by (with_reducible repeat (first | apply Kd.R_alloc | apply Kd.R_drewN | apply Kd.R_drew)); exact HO_15.out) (Kd.R_base ho53) hb); have n3_ := Aside0.mk (Kd.R_elder' (by (with_reducible repeat (first | apply Kd.R_alloc | apply Kd.R_drewN | apply Kd.R_drew)); exact HO_16.out) (Kd.R_base ho53) hb); have n4_ := Aside0.mk (Kd.R_lower (Kd.R_new' (Kd.R_new' ho53 (Kd.R_lt (by (with_reducible repeat (first | apply Kd.R_alloc | apply Kd.R_drewN | apply Kd.R_drew)); exact HO_15.out))) (Kd.R_lt (by (with_reducible repeat (first | apply Kd.R_alloc | apply Kd.R_drewN | apply Kd.R_drew)); exact HO_16.out))) (below_size (by repeat (first | (with_reducible first | exact HB.out | apply below_alloc | apply pw_below_drewN | apply below_drew1) | exact HB.out)))); have n5_ := Aside0.mk (below_step (by repeat (first | (with_reducible first | exact HB.out | apply below_alloc | apply pw_below_drewN | apply below_drew1) | exact HB.out)) hb); clear HO_3; clear HO_9; clear HO_15; clear HO_16; clear HB; have HO_3 := n0_; have HO_9 := n1_; have HO_15 := n2_; have HO_16 := n3_; have HO380 := n4_; have HB := n5_; clear n0_ n1_ n2_ n3_ n4_ n5_; clear hb ho53; obtain ⟨Ao54, co54, eo54⟩ := Kd.R_slice HO380.out; subst eo54) | ((with_reducible refine gate_callee (f := 15) rfl ?_); refine goesL_ (some 134) rfl rfl Try.func15 (by kernel_rfl) rfl #[.slice Ao22 t365.length co22, .slice Ao54 y378.length co54] rfl (by (try simp only [List.map_toArray, List.map_cons, List.map_nil]); first | done | rfl | (simp only [List.length_drop, List.length_take]; rfl)) ?_; (with_reducible refine (impl_CountChanges.calls kj12 _ _ t365 _ _ y378 t381 t382 _ ?side1 ?side2 ?side3 ?side4 A49.out).mono ?_); (case side1 => repeat (first | exact (Kd.R_reads' HO_15.out).2.2 | (with_reducible refine Kd.C_alloc ?_ _) | (with_reducible refine Kd.C_drewN ?_ _) | (with_reducible refine Kd.C_drew ?_))); (case side2 => exact (Kd.R_reads' HO_15.out).2.1); (case side3 => repeat (first | exact (Kd.R_reads' HO380.out).2.2 | (with_reducible refine Kd.C_alloc ?_ _) | (with_reducible refine Kd.C_drewN ?_ _) | (with_reducible refine Kd.C_drew ?_))); (case side4 => exact (Kd.R_reads' HO380.out).2.1); rintro e w55 ⟨rfl, hb⟩; refine ⟨_, rfl, ?_⟩; have n0_ := Aside0.mk (Kd.S_below (by (with_reducible repeat (first | apply Kd.S_alloc | apply Kd.S_drewN | apply Kd.S_drew)); exact HO_3.out) hb); have n1_ := Aside0.mk (Kd.R_below (by (with_reducible repeat (first | apply Kd.R_alloc | apply Kd.R_drewN | apply Kd.R_drew)); exact HO_9.out) hb); have n2_ := Aside0.mk (Kd.R_below (by (with_reducible repeat (first | apply Kd.R_alloc | apply Kd.R_drewN | apply Kd.R_drew)); exact HO_15.out) hb); have n3_ := Aside0.mk (Kd.R_below (by (with_reducible repeat (first | apply Kd.R_alloc | apply Kd.R_drewN | apply Kd.R_drew)); exact HO_16.out) hb); have n4_ := Aside0.mk (Kd.R_below (by (with_reducible repeat (first | apply Kd.R_alloc | apply Kd.R_drewN | apply Kd.R_drew)); exact HO380.out) hb); have n5_ := Aside0.mk (below_step (by repeat (first | (with_reducible first | exact HB.out | apply below_alloc | apply pw_below_drewN | apply below_drew1) | exact HB.out)) hb); clear HO_3; clear HO_9; clear HO_15; clear HO_16; clear HO380; clear HB; have HO_3 := n0_; have HO_9 := n1_; have HO_15 := n2_; have HO_16 := n3_; have HO380 := n4_; have HB := n5_; clear n0_ n1_ n2_ n3_ n4_ n5_; (try clear hb); (try clear hb2); (try clear hk); (try clear hi)) | ((with_reducible refine gate_callee (f := 15) rfl ?_); refine goesL_ (some 140) rfl rfl Try.func15 (by kernel_rfl) rfl #[.slice Ao54 y378.length co54, .slice Ao23 t366.length co23] rfl (by (try simp only [List.map_toArray, List.map_cons, List.map_nil]); first | done | rfl | (simp only [List.length_drop, List.length_take]; rfl)) ?_; (with_reducible refine (impl_CountChanges.calls kj12 _ _ y378 _ _ t366 t383 t384 _ ?side1 ?side2 ?side3 ?side4 A50.out).mono ?_); (case side1 => repeat (first | exact (Kd.R_reads' HO380.out).2.2 | (with_reducible refine Kd.C_alloc ?_ _) | (with_reducible refine Kd.C_drewN ?_ _) | (with_reducible refine Kd.C_drew ?_))); (case side2 => exact (Kd.R_reads' HO380.out).2.1); (case side3 => repeat (first | exact (Kd.R_reads' HO_16.out).2.2 | (with_reducible refine Kd.C_alloc ?_ _) | (with_reducible refine Kd.C_drewN ?_ _) | (with_reducible refine Kd.C_drew ?_))); (case side4 => exact (Kd.R_reads' HO_16.out).2.1); rintro e w56 ⟨rfl, hb⟩; refine ⟨_, rfl, ?_⟩; have n0_ := Aside0.mk (Kd.S_below (by (with_reducible repeat (first | apply Kd.S_alloc | apply Kd.S_drewN | apply Kd.S_drew)); exact HO_3.out) hb); have n1_ := Aside0.mk (Kd.R_below (by (with_reducible repeat (first | apply Kd.R_alloc | apply Kd.R_drewN | apply Kd.R_drew)); exact HO_9.out) hb); have n2_ := Aside0.mk (Kd.R_below (by (with_reducible repeat (first | apply Kd.R_alloc | apply Kd.R_drewN | apply Kd.R_drew)); exact HO_15.out) hb); have n3_ := Aside0.mk (Kd.R_below (by (with_reducible repeat (first | apply Kd.R_alloc | apply Kd.R_drewN | apply Kd.R_drew)); exact HO_16.out) hb); have n4_ := Aside0.mk (Kd.R_below (by (with_reducible repeat (first | apply Kd.R_alloc | apply Kd.R_drewN | apply Kd.R_drew)); exact HO380.out) hb); have n5_ := Aside0.mk (below_step (by repeat (first | (with_reducible first | exact HB.out | apply below_alloc | apply pw_below_drewN | apply below_drew1) | exact HB.out)) hb); clear HO_3; clear HO_9; clear HO_15; clear HO_16; clear HO380; clear HB; have HO_3 := n0_; have HO_9 := n1_; have HO_15 := n2_; have HO_16 := n3_; have HO380 := n4_; have HB := n5_; clear n0_ n1_ n2_ n3_ n4_ n5_; (try clear hb); (try clear hb2); (try clear hk); (try clear hi)))
            (try simp only [Act.put, List.setIfInBounds_toArray, List.set_cons_zero, List.set_cons_succ])
            go_cut [155] (fun v155 wc => ∃ (kq : Nat) (x155_50 : Bool), v155 = .bool x155_50 ∧ Aside0 (laws_FnEfforts.j1 kq t345 t351 t352 t355 t356 t357 x155_50 = some r) ∧ Aside0 (kq ≤ kj12) ∧ Aside0 (Kd.S (Kd.slice 60 k60) 26 wc w.heap.size (fun _ => True) (.slice Ao15 t345.length co15) t345) ∧ Aside0 (Kd.R (Kd.int .i64) 2 wc w.heap.size (fun _ => True) v358 t355) ∧ Aside0 (Below w.heap.size w wc))
            case first =>
              have H := HC51.out
              clear HC51
              by_cases c57 : t382 = 0
              · rw [if_pos c57] at H
                have c57b0 : (t382 == 0) = true := beq_iff_eq.mpr c57
                have c57b1 : (t382 != 0) = false := bne_eq_false_iff_eq.mpr c57
                clear c57
                (first | rw [c57b0] | (simp only [i64_w, i32_w]; rw [c57b0]) | skip)
                by_cases c58 : t384 = 0
                · rw [if_pos c58] at H
                  have c58b0 : (t384 == 0) = true := beq_iff_eq.mpr c58
                  have c58b1 : (t384 != 0) = false := bne_eq_false_iff_eq.mpr c58
                  clear c58
                  have H' := Aside0.mk H
                  clear H
                  go_wp2
                  go_meet
                  case rel => exact ⟨_, (decide (t371 > (wrap64 (t381 + t383)))), (by first | rfl | (simp; done) | (simp [*]; done)), H', ⟨by have := HJ12.out; first | omega | exact Nat.le_refl _⟩, ⟨by (with_reducible repeat (first | apply Kd.S_alloc | apply Kd.S_drewN | apply Kd.S_drew)); exact Kd.S_mono HO_3.out (fun _ hk => trivial)⟩, ⟨by (with_reducible repeat (first | apply Kd.R_alloc | apply Kd.R_drewN | apply Kd.R_drew)); exact HO_9.out⟩, ⟨by repeat (first | (with_reducible first | exact HB.out | apply below_alloc | apply pw_below_drewN | apply below_drew1) | exact HB.out)⟩⟩
                · rw [if_neg c58] at H
                  have c58b0 : (t384 == 0) = false := beq_eq_false_iff_ne.mpr c58
                  have c58b1 : (t384 != 0) = true := bne_iff_ne.mpr c58
                  have H' := Aside0.mk H
                  clear H
                  go_wp2
                  go_meet
                  case rel => exact ⟨_, (true), (by first | rfl | (simp; done) | (simp [*]; done)), H', ⟨by have := HJ12.out; first | omega | exact Nat.le_refl _⟩, ⟨by (with_reducible repeat (first | apply Kd.S_alloc | apply Kd.S_drewN | apply Kd.S_drew)); exact Kd.S_mono HO_3.out (fun _ hk => trivial)⟩, ⟨by (with_reducible repeat (first | apply Kd.R_alloc | apply Kd.R_drewN | apply Kd.R_drew)); exact HO_9.out⟩, ⟨by repeat (first | (with_reducible first | exact HB.out | apply below_alloc | apply pw_below_drewN | apply below_drew1) | exact HB.out)⟩⟩
              · rw [if_neg c57] at H
                have c57b0 : (t382 == 0) = false := beq_eq_false_iff_ne.mpr c57
                have c57b1 : (t382 != 0) = true := bne_iff_ne.mpr c57
                (first | rw [c57b0] | (simp only [i64_w, i32_w]; rw [c57b0]) | skip)
                have H' := Aside0.mk H
                clear H
                go_wp2
                go_meet
                case rel => exact ⟨_, (true), (by first | rfl | (simp; done) | (simp [*]; done)), H', ⟨by have := HJ12.out; first | omega | exact Nat.le_refl _⟩, ⟨by (with_reducible repeat (first | apply Kd.S_alloc | apply Kd.S_drewN | apply Kd.S_drew)); exact Kd.S_mono HO_3.out (fun _ hk => trivial)⟩, ⟨by (with_reducible repeat (first | apply Kd.R_alloc | apply Kd.R_drewN | apply Kd.R_drew)); exact HO_9.out⟩, ⟨by repeat (first | (with_reducible first | exact HB.out | apply below_alloc | apply pw_below_drewN | apply below_drew1) | exact HB.out)⟩⟩
            case rest =>
              clear HC51
              try clear c1
              try clear c2
              try clear p2
              try clear c3
              try clear c4
              try clear c5
              try clear p6
              try clear c8
              try clear c14
              try clear c15
              try clear c19
              try clear c22
              try clear c25
              try clear c26
              try clear c26b0
              try clear c26b1
              try clear c27
              try clear c27b0
              try clear c27b1
              try clear c28
              try clear c28b0
              try clear c28b1
              try clear c30
              try clear c31
              try clear c31b0
              try clear c31b1
              try clear c32
              try clear c32b0
              try clear c32b1
              try clear c33
              try clear c33b0
              try clear c33b1
              try clear c34
              try clear c34b0
              try clear c34b1
              try clear c47
              try clear c48
              try clear c48b0
              try clear c48b1
              try clear c57
              try clear c57b0
              try clear c57b1
              try clear c58
              try clear c58b0
              try clear c58b1
              try clear p2
              obtain ⟨kq, x155_50, rfl, HA, HJ50, HO_3, HO_9, HB⟩ := hcut
              cases kq with
              | zero => exact absurd HA.out (by simp [laws_FnEfforts.j1])
              | succ kj50 =>
                have H := HA.out
                clear HA
                simp only [laws_FnEfforts.j1] at H
                by_cases c59 : x155_50 = true
                · subst c59
                  have H1 : (some false) = some r := by rw [if_pos rfl] at H; exact H
                  clear H
                  have H := H1
                  clear H1
                  exact absurd ((Option.some.inj H).trans hr_.out) (by decide)
                · replace c59 := Bool.eq_false_iff.mpr c59
                  subst c59
                  have H1 : (if t352 = 0 then ((impl_EffortOf.f kj50 t345 t355).bind fun bt385 => (if t357 = 0 then (if t356 ≤ t351 then (if bt385.2 = 0 then (some (bt385.1 == t356)) else (some false)) else (some false)) else (some false))) else (some true)) = some r := by rw [if_neg (show ¬ (false = true) by decide)] at H; exact H
                  clear H
                  have H := H1
                  clear H1
                  by_cases c60 : t352 = 0
                  · rw [if_pos c60] at H
                    have c60b0 : (t352 == 0) = true := beq_iff_eq.mpr c60
                    have c60b1 : (t352 != 0) = false := bne_eq_false_iff_eq.mpr c60
                    clear c60
                    replace H := Option.bind_eq_some_iff.mp H
                    obtain ⟨⟨t385, t386⟩, A610, H⟩ := H
                    replace H : (if t357 = 0 then (if t356 ≤ t351 then (if t386 = 0 then (some (t385 == t356)) else (some false)) else (some false)) else (some false)) = some r := H
                    have A61 := Aside0.mk A610
                    clear A610
                    by_cases c62 : t357 = 0
                    · rw [if_pos c62] at H
                      have c62b0 : (t357 == 0) = true := beq_iff_eq.mpr c62
                      have c62b1 : (t357 != 0) = false := bne_eq_false_iff_eq.mpr c62
                      clear c62
                      by_cases c63 : t356 ≤ t351
                      · rw [if_pos c63] at H
                        have c63b0 : decide (t356 ≤ t351) = true := decide_eq_true c63
                        clear c63
                        by_cases c64 : t386 = 0
                        · rw [if_pos c64] at H
                          have c64b0 : (t386 == 0) = true := beq_iff_eq.mpr c64
                          have c64b1 : (t386 != 0) = false := bne_eq_false_iff_eq.mpr c64
                          clear c64
                          obtain rfl := Option.some.inj H
                          obtain ⟨Ao65, co65, eo65⟩ := Kd.R_slice HO_9.out
                          subst eo65
                          go_wp2_with (first | ((with_reducible refine gate_callee (f := 22) rfl ?_); refine goesL_ (some 161) rfl rfl Try.func22 (by kernel_rfl) rfl #[.slice Ao15 t345.length co15, .slice Ao65 t355.length co65] rfl (by (try simp only [List.map_toArray, List.map_cons, List.map_nil]); first | done | rfl | (simp only [List.length_drop, List.length_take]; rfl)) ?_; (with_reducible refine (impl_EffortOf.calls kj50 _ _ t345 _ _ t355 t385 t386 _ ?side1 ?side2 ?side3 ?side4 A61.out).mono ?_); (case side1 => repeat (first | exact (Kd.S_reads' HO_3.out).2.2 | (with_reducible refine Kd.C_alloc ?_ _) | (with_reducible refine Kd.C_drewN ?_ _) | (with_reducible refine Kd.C_drew ?_))); (case side2 => exact (Kd.S_reads' HO_3.out).2.1); (case side3 => repeat (first | exact (Kd.R_reads' HO_9.out).2.2 | (with_reducible refine Kd.C_alloc ?_ _) | (with_reducible refine Kd.C_drewN ?_ _) | (with_reducible refine Kd.C_drew ?_))); (case side4 => exact (Kd.R_reads' HO_9.out).2.1); rintro e w66 ⟨rfl, hb⟩; refine ⟨_, rfl, ?_⟩; have n0_ := Aside0.mk (Kd.S_below (by (with_reducible repeat (first | apply Kd.S_alloc | apply Kd.S_drewN | apply Kd.S_drew)); exact HO_3.out) hb); have n1_ := Aside0.mk (Kd.R_below (by (with_reducible repeat (first | apply Kd.R_alloc | apply Kd.R_drewN | apply Kd.R_drew)); exact HO_9.out) hb); have n2_ := Aside0.mk (below_step (by repeat (first | (with_reducible first | exact HB.out | apply below_alloc | apply pw_below_drewN | apply below_drew1) | exact HB.out)) hb); clear HO_3; clear HO_9; clear HB; have HO_3 := n0_; have HO_9 := n1_; have HB := n2_; clear n0_ n1_ n2_; (try clear hb); (try clear hb2); (try clear hk); (try clear hi)))
                          go_ret
                          exact ⟨by first | rfl | (simp [errW_none, errW_some] <;> rfl) | (simp [*, errW_none, errW_some] <;> rfl), by repeat (first | (with_reducible first | exact HB.out | apply below_alloc | apply pw_below_drewN | apply below_drew1) | exact HB.out)⟩
                        · rw [if_neg c64] at H
                          have c64b0 : (t386 == 0) = false := beq_eq_false_iff_ne.mpr c64
                          have c64b1 : (t386 != 0) = true := bne_iff_ne.mpr c64
                          exact absurd ((Option.some.inj H).trans hr_.out) (by decide)
                      · rw [if_neg c63] at H
                        have c63b0 : decide (t356 ≤ t351) = false := decide_eq_false c63
                        clear c63
                        exact absurd ((Option.some.inj H).trans hr_.out) (by decide)
                    · rw [if_neg c62] at H
                      have c62b0 : (t357 == 0) = false := beq_eq_false_iff_ne.mpr c62
                      have c62b1 : (t357 != 0) = true := bne_iff_ne.mpr c62
                      exact absurd ((Option.some.inj H).trans hr_.out) (by decide)
                  · rw [if_neg c60] at H
                    have c60b0 : (t352 == 0) = false := beq_eq_false_iff_ne.mpr c60
                    have c60b1 : (t352 != 0) = true := bne_iff_ne.mpr c60
                    obtain rfl := Option.some.inj H
                    go_wp2
                    go_ret
                    exact ⟨by first | rfl | (simp [errW_none, errW_some] <;> rfl) | (simp [*, errW_none, errW_some] <;> rfl), by repeat (first | (with_reducible first | exact HB.out | apply below_alloc | apply pw_below_drewN | apply below_drew1) | exact HB.out)⟩
          · rw [if_neg c48] at H
            have c48b0 : (t372 == 0) = false := beq_eq_false_iff_ne.mpr c48
            have c48b1 : (t372 != 0) = true := bne_iff_ne.mpr c48
            by_cases c67 : t352 = 0
            · rw [if_pos c67] at H
              have c67b0 : (t352 == 0) = true := beq_iff_eq.mpr c67
              have c67b1 : (t352 != 0) = false := bne_eq_false_iff_eq.mpr c67
              clear c67
              replace H := Option.bind_eq_some_iff.mp H
              obtain ⟨⟨t387, t388⟩, A680, H⟩ := H
              replace H : (if t357 = 0 then (if t356 ≤ t351 then (if t388 = 0 then (some (t387 == t356)) else (some false)) else (some false)) else (some false)) = some r := H
              have A68 := Aside0.mk A680
              clear A680
              by_cases c69 : t357 = 0
              · rw [if_pos c69] at H
                have c69b0 : (t357 == 0) = true := beq_iff_eq.mpr c69
                have c69b1 : (t357 != 0) = false := bne_eq_false_iff_eq.mpr c69
                clear c69
                by_cases c70 : t356 ≤ t351
                · rw [if_pos c70] at H
                  have c70b0 : decide (t356 ≤ t351) = true := decide_eq_true c70
                  clear c70
                  by_cases c71 : t388 = 0
                  · rw [if_pos c71] at H
                    have c71b0 : (t388 == 0) = true := beq_iff_eq.mpr c71
                    have c71b1 : (t388 != 0) = false := bne_eq_false_iff_eq.mpr c71
                    clear c71
                    obtain rfl := Option.some.inj H
                    obtain ⟨Ao72, co72, eo72⟩ := Kd.R_slice HO_9.out
                    subst eo72
                    go_wp2_with (first | ((with_reducible refine gate_callee (f := 22) rfl ?_); refine goesL_ (some 161) rfl rfl Try.func22 (by kernel_rfl) rfl #[.slice Ao15 t345.length co15, .slice Ao72 t355.length co72] rfl (by (try simp only [List.map_toArray, List.map_cons, List.map_nil]); first | done | rfl | (simp only [List.length_drop, List.length_take]; rfl)) ?_; (with_reducible refine (impl_EffortOf.calls kj12 _ _ t345 _ _ t355 t387 t388 _ ?side1 ?side2 ?side3 ?side4 A68.out).mono ?_); (case side1 => repeat (first | exact (Kd.S_reads' HO_3.out).2.2 | (with_reducible refine Kd.C_alloc ?_ _) | (with_reducible refine Kd.C_drewN ?_ _) | (with_reducible refine Kd.C_drew ?_))); (case side2 => exact (Kd.S_reads' HO_3.out).2.1); (case side3 => repeat (first | exact (Kd.R_reads' HO_9.out).2.2 | (with_reducible refine Kd.C_alloc ?_ _) | (with_reducible refine Kd.C_drewN ?_ _) | (with_reducible refine Kd.C_drew ?_))); (case side4 => exact (Kd.R_reads' HO_9.out).2.1); rintro e w73 ⟨rfl, hb⟩; refine ⟨_, rfl, ?_⟩; have n0_ := Aside0.mk (Kd.S_below (by (with_reducible repeat (first | apply Kd.S_alloc | apply Kd.S_drewN | apply Kd.S_drew)); exact HO_3.out) hb); have n1_ := Aside0.mk (Kd.R_below (by (with_reducible repeat (first | apply Kd.R_alloc | apply Kd.R_drewN | apply Kd.R_drew)); exact HO_9.out) hb); have n2_ := Aside0.mk (Kd.R_below (by (with_reducible repeat (first | apply Kd.R_alloc | apply Kd.R_drewN | apply Kd.R_drew)); exact HO_15.out) hb); have n3_ := Aside0.mk (Kd.R_below (by (with_reducible repeat (first | apply Kd.R_alloc | apply Kd.R_drewN | apply Kd.R_drew)); exact HO_16.out) hb); have n4_ := Aside0.mk (below_step (by repeat (first | (with_reducible first | exact HB.out | apply below_alloc | apply pw_below_drewN | apply below_drew1) | exact HB.out)) hb); clear HO_3; clear HO_9; clear HO_15; clear HO_16; clear HB; have HO_3 := n0_; have HO_9 := n1_; have HO_15 := n2_; have HO_16 := n3_; have HB := n4_; clear n0_ n1_ n2_ n3_ n4_; (try clear hb); (try clear hb2); (try clear hk); (try clear hi)))
                    go_ret
                    exact ⟨by first | rfl | (simp [errW_none, errW_some] <;> rfl) | (simp [*, errW_none, errW_some] <;> rfl), by repeat (first | (with_reducible first | exact HB.out | apply below_alloc | apply pw_below_drewN | apply below_drew1) | exact HB.out)⟩
                  · rw [if_neg c71] at H
                    have c71b0 : (t388 == 0) = false := beq_eq_false_iff_ne.mpr c71
                    have c71b1 : (t388 != 0) = true := bne_iff_ne.mpr c71
                    exact absurd ((Option.some.inj H).trans hr_.out) (by decide)
                · rw [if_neg c70] at H
                  have c70b0 : decide (t356 ≤ t351) = false := decide_eq_false c70
                  clear c70
                  exact absurd ((Option.some.inj H).trans hr_.out) (by decide)
              · rw [if_neg c69] at H
                have c69b0 : (t357 == 0) = false := beq_eq_false_iff_ne.mpr c69
                have c69b1 : (t357 != 0) = true := bne_iff_ne.mpr c69
                exact absurd ((Option.some.inj H).trans hr_.out) (by decide)
            · rw [if_neg c67] at H
              have c67b0 : (t352 == 0) = false := beq_eq_false_iff_ne.mpr c67
              have c67b1 : (t352 != 0) = true := bne_iff_ne.mpr c67
              obtain rfl := Option.some.inj H
              go_wp2
              go_ret
              exact ⟨by first | rfl | (simp [errW_none, errW_some] <;> rfl) | (simp [*, errW_none, errW_some] <;> rfl), by repeat (first | (with_reducible first | exact HB.out | apply below_alloc | apply pw_below_drewN | apply below_drew1) | exact HB.out)⟩

end Go.Proofs.Ytpndkekgoadjkaa.PFnEfforts
