import Derived.Test.YtomddpdfcdnaaaaDoorPFnPlanValuesx0
import Derived.Test.YtomddpdfcdnaaaaDoorPFnPlanValuesx1
import Derived.Test.YtomddpdfcdnaaaaDoorPFnPlanValuesx7
import Derived.Test.YtomddpdfcdnaaaaDoorPFnPlanValuesx9
namespace Go.Proofs.YtomddpdfcdnaaaaDoor.PFnPlanValues
open Go.RowKit Go.Proofs.YtomddpdfcdnaaaaDoorW.PrintWords Go.Proofs.YtomddpdfcdnaaaaDoorW.PrintLast Go.Proofs.YtomddpdfcdnaaaaDoorW.PrintMore
attribute [local go_sem] max2_int min2_int max_two min_two max_three min_three max_four min_four   -- for this text's walks alone
set_option linter.unusedVariables false
set_option linter.unusedSimpArgs false

mutual
def spec_l12DrawText.j0 : Nat → Int → Int → Int → Int → Bool → List Int → Int → Int → Option (ByteArray × Int × Int)
 | 0, _, _, _, _, _, _, _, _ => none
 | k + 1, x1, x2, x3, x4, x19, x1000, x1001, x1002 => if x19 = true then ((some (([(⟨#[46]⟩ : ByteArray), (⟨#[97]⟩ : ByteArray), (⟨#[98]⟩ : ByteArray), (⟨#[99]⟩ : ByteArray), (⟨#[100]⟩ : ByteArray)] : List ByteArray) : List ByteArray)).bind fun y328 => ((spec_l01Next.f x1000 x1001 x1002 (mn 5 (wrap64 (x3 + 1)))).bind fun bt331 => (if 0 ≤ bt331.1 then (if bt331.1 < (y328.length : Int) then (some (rdOf ByteArray.empty y328 bt331.1, bt331.2.1, bt331.2.2)) else (none)) else (none)))) else (if x1 > 1 then (if x2 < 2 then (spec_l12DrawText.j1 k x1 x2 x3 x4 true x1000 x1001 x1002) else ((spec_l01Next.f x1000 x1001 x1002 2).bind fun bt335 => (spec_l12DrawText.j1 k x1 x2 x3 x4 (bt335.1 == 0) x1000 bt335.2.1 bt335.2.2))) else (spec_l12DrawText.j1 k x1 x2 x3 x4 false x1000 x1001 x1002))
def spec_l12DrawText.j1 : Nat → Int → Int → Int → Int → Bool → List Int → Int → Int → Option (ByteArray × Int × Int)
 | 0, _, _, _, _, _, _, _, _ => none
 | k + 1, x1, x2, x3, x4, x38, x1000, x1001, x1002 => if x38 = true then ((spec_l01Next.f x1000 x1001 x1002 (wrap64 (x1 - 1))).bind fun bt338 => ((spec_l01Dec.f k (wrap64 (1 + bt338.1))).bind fun t341 => (if 1 + t341.size ≤ 9223372036854775807 then (if ((⟨#[124]⟩ : ByteArray) ++ t341).size + 1 ≤ 9223372036854775807 then ((spec_l12DrawText.f k x1000 bt338.2.1 bt338.2.2 (wrap64 (1 + bt338.1)) x2 x3 (wrap64 (x4 - 1))).bind fun bt342 => (if (((⟨#[124]⟩ : ByteArray) ++ t341) ++ (⟨#[40]⟩ : ByteArray)).size + bt342.1.size ≤ 9223372036854775807 then (if ((((⟨#[124]⟩ : ByteArray) ++ t341) ++ (⟨#[40]⟩ : ByteArray)) ++ bt342.1).size + 2 ≤ 9223372036854775807 then ((spec_l12DrawText.f k x1000 bt342.2.1 bt342.2.2 (wrap64 (x1 - (wrap64 (1 + bt338.1)))) x2 x3 (wrap64 (x4 - 1))).bind fun bt345 => (if (((((⟨#[124]⟩ : ByteArray) ++ t341) ++ (⟨#[40]⟩ : ByteArray)) ++ bt342.1) ++ (⟨#[41, 40]⟩ : ByteArray)).size + bt345.1.size ≤ 9223372036854775807 then (if ((((((⟨#[124]⟩ : ByteArray) ++ t341) ++ (⟨#[40]⟩ : ByteArray)) ++ bt342.1) ++ (⟨#[41, 40]⟩ : ByteArray)) ++ bt345.1).size + 1 ≤ 9223372036854775807 then (some (((((((⟨#[124]⟩ : ByteArray) ++ t341) ++ (⟨#[40]⟩ : ByteArray)) ++ bt342.1) ++ (⟨#[41, 40]⟩ : ByteArray)) ++ bt345.1) ++ (⟨#[41]⟩ : ByteArray), bt345.2.1, bt345.2.2)) else (none)) else (none))) else (none)) else (none))) else (none)) else (none)))) else (if x2 > 1 then ((spec_l01Next.f x1000 x1001 x1002 (wrap64 (x2 - 1))).bind fun bt348 => ((spec_l01Dec.f k (wrap64 (1 + bt348.1))).bind fun t351 => (if 1 + t351.size ≤ 9223372036854775807 then (if ((⟨#[45]⟩ : ByteArray) ++ t351).size + 1 ≤ 9223372036854775807 then ((spec_l12DrawText.f k x1000 bt348.2.1 bt348.2.2 x1 (wrap64 (1 + bt348.1)) x3 (wrap64 (x4 - 1))).bind fun bt352 => (if (((⟨#[45]⟩ : ByteArray) ++ t351) ++ (⟨#[40]⟩ : ByteArray)).size + bt352.1.size ≤ 9223372036854775807 then (if ((((⟨#[45]⟩ : ByteArray) ++ t351) ++ (⟨#[40]⟩ : ByteArray)) ++ bt352.1).size + 2 ≤ 9223372036854775807 then ((spec_l12DrawText.f k x1000 bt352.2.1 bt352.2.2 x1 (wrap64 (x2 - (wrap64 (1 + bt348.1)))) x3 (wrap64 (x4 - 1))).bind fun bt355 => (if (((((⟨#[45]⟩ : ByteArray) ++ t351) ++ (⟨#[40]⟩ : ByteArray)) ++ bt352.1) ++ (⟨#[41, 40]⟩ : ByteArray)).size + bt355.1.size ≤ 9223372036854775807 then (if ((((((⟨#[45]⟩ : ByteArray) ++ t351) ++ (⟨#[40]⟩ : ByteArray)) ++ bt352.1) ++ (⟨#[41, 40]⟩ : ByteArray)) ++ bt355.1).size + 1 ≤ 9223372036854775807 then (some (((((((⟨#[45]⟩ : ByteArray) ++ t351) ++ (⟨#[40]⟩ : ByteArray)) ++ bt352.1) ++ (⟨#[41, 40]⟩ : ByteArray)) ++ bt355.1) ++ (⟨#[41]⟩ : ByteArray), bt355.2.1, bt355.2.2)) else (none)) else (none))) else (none)) else (none))) else (none)) else (none)))) else (some ((⟨#[46]⟩ : ByteArray), x1001, x1002)))
def spec_l12DrawText.f : Nat → List Int → Int → Int → Int → Int → Int → Int → Option (ByteArray × Int × Int)
 | 0, _, _, _, _, _, _, _ => none
 | k + 1, s0_0, s0_1, s0_2, a1, a2, a3, a4 => if a4 = 0 then (spec_l12DrawText.j0 k a1 a2 a3 a4 true s0_0 s0_1 s0_2) else ((spec_l01Next.f s0_0 s0_1 s0_2 5).bind fun bt325 => (spec_l12DrawText.j0 k a1 a2 a3 a4 (bt325.1 == 0) s0_0 bt325.2.1 bt325.2.2))
end
theorem spec_l12DrawText.mono_l : ∀ k, (∀ y0 y1 y2 y3 y4 y5 y6, LeO (spec_l12DrawText.f k y0 y1 y2 y3 y4 y5 y6) (spec_l12DrawText.f (k + 1) y0 y1 y2 y3 y4 y5 y6)) ∧ (∀ y0 y1 y2 y3 y4 y5 y6 y7, LeO (spec_l12DrawText.j0 k y0 y1 y2 y3 y4 y5 y6 y7) (spec_l12DrawText.j0 (k + 1) y0 y1 y2 y3 y4 y5 y6 y7)) ∧ (∀ y0 y1 y2 y3 y4 y5 y6 y7, LeO (spec_l12DrawText.j1 k y0 y1 y2 y3 y4 y5 y6 y7) (spec_l12DrawText.j1 (k + 1) y0 y1 y2 y3 y4 y5 y6 y7))
 | 0 => ⟨fun _ _ _ _ _ _ _ r h => by simp [spec_l12DrawText.f] at h, fun _ _ _ _ _ _ _ _ r h => by simp [spec_l12DrawText.j0] at h, fun _ _ _ _ _ _ _ _ r h => by simp [spec_l12DrawText.j1] at h⟩
 | k + 1 => by
  obtain ⟨ih0, ih1, ih2⟩ := spec_l12DrawText.mono_l k
  refine ⟨?_, ?_, ?_⟩
  ·intro y0 y1 y2 y3 y4 y5 y6
   unfold spec_l12DrawText.f
   repeat' first
   | (with_reducible exact ih0 _ _ _ _ _ _ _)
   | (with_reducible exact ih1 _ _ _ _ _ _ _ _)
   | (with_reducible exact ih2 _ _ _ _ _ _ _ _)
   | (with_reducible exact spec_l01Dec.mono _ _)
   | (with_reducible exact LeO.refl _)
   | (with_reducible exact LeO.none _)
   | (with_reducible refine LeO.ite ?_ ?_)
   | (with_reducible refine LeO.bind ?_ (fun _ => ?_))
   | exact ih0 _ _ _ _ _ _ _
   | exact ih1 _ _ _ _ _ _ _ _
   | exact ih2 _ _ _ _ _ _ _ _
   | exact spec_l01Dec.mono _ _
   | exact LeO.none _
   | refine LeO.ite ?_ ?_
   | refine LeO.bind ?_ (fun _ => ?_)
  ·intro y0 y1 y2 y3 y4 y5 y6 y7
   unfold spec_l12DrawText.j0
   repeat' first
   | (with_reducible exact ih0 _ _ _ _ _ _ _)
   | (with_reducible exact ih1 _ _ _ _ _ _ _ _)
   | (with_reducible exact ih2 _ _ _ _ _ _ _ _)
   | (with_reducible exact spec_l01Dec.mono _ _)
   | (with_reducible exact LeO.refl _)
   | (with_reducible exact LeO.none _)
   | (with_reducible refine LeO.ite ?_ ?_)
   | (with_reducible refine LeO.bind ?_ (fun _ => ?_))
   | exact ih0 _ _ _ _ _ _ _
   | exact ih1 _ _ _ _ _ _ _ _
   | exact ih2 _ _ _ _ _ _ _ _
   | exact spec_l01Dec.mono _ _
   | exact LeO.none _
   | refine LeO.ite ?_ ?_
   | refine LeO.bind ?_ (fun _ => ?_)
  ·intro y0 y1 y2 y3 y4 y5 y6 y7
   unfold spec_l12DrawText.j1
   repeat' first
   | (with_reducible exact ih0 _ _ _ _ _ _ _)
   | (with_reducible exact ih1 _ _ _ _ _ _ _ _)
   | (with_reducible exact ih2 _ _ _ _ _ _ _ _)
   | (with_reducible exact spec_l01Dec.mono _ _)
   | (with_reducible exact LeO.refl _)
   | (with_reducible exact LeO.none _)
   | (with_reducible refine LeO.ite ?_ ?_)
   | (with_reducible refine LeO.bind ?_ (fun _ => ?_))
   | exact ih0 _ _ _ _ _ _ _
   | exact ih1 _ _ _ _ _ _ _ _
   | exact ih2 _ _ _ _ _ _ _ _
   | exact spec_l01Dec.mono _ _
   | exact LeO.none _
   | refine LeO.ite ?_ ?_
   | refine LeO.bind ?_ (fun _ => ?_)
theorem spec_l12DrawText.mono : ∀ a0 a1 a2 a3 a4 a5 a6 k, LeO (spec_l12DrawText.f k a0 a1 a2 a3 a4 a5 a6) (spec_l12DrawText.f (k + 1) a0 a1 a2 a3 a4 a5 a6) := by
 intro a0 a1 a2 a3 a4 a5 a6 k
 obtain ⟨ih0, ih1, ih2⟩ := spec_l12DrawText.mono_l k
 exact ih0 a0 a1 a2 a3 a4 a5 a6
set_option maxHeartbeats 8000000 in
set_option maxRecDepth 100000 in
theorem spec_l12DrawText.calls (k : Nat) : ∀ (g : Nat) (s0_0 : List Int) (s0_1 : Int) (s0_2 : Int) (a1 : Int) (a2 : Int) (a3 : Int) (a4 : Int) (r1 : ByteArray) (r2 : Int) (r3 : Int) (w0 w : World) (hI : IsS82 w0 w g s0_0 s0_1 s0_2) (hB : Below w0.heap.size w0 w) (h : spec_l12DrawText.f k s0_0 s0_1 s0_2 a1 a2 a3 a4 = some (r1, r2, r3)),
  Calls Tryd.prog 62 #[.pointer (some ⟨g, 0, none⟩), .int .i64 a1, .int .i64 a2, .int .i64 a3, .int .i64 a4] w fun e w' => e = .returned (.string r1) ∧ IsS82 w0 w' g s0_0 r2 r3 ∧ Below w0.heap.size w0 w' ∧ KeepBut w w' g none := by
 induction k using Nat.strongRecOn with
 | _ k ih =>
 intro g s0_0 s0_1 s0_2 a1 a2 a3 a4 r1 r2 r3 w0 w hI hB h
 cases k with
 | zero => exact absurd h (by simp [spec_l12DrawText.f])
 | succ k =>
 simp only [spec_l12DrawText.f] at h
 have HI0 := Aside0.mk hI
 have HK := Aside0.mk (KeepBut.refl w g none)
 have HL := Aside0.mk hB.size
 clear hI
 have HW0 := Aside0.mk hB.size
 have HB := Aside0.mk hB
 clear hB
 have H : (if a4 = 0 then (spec_l12DrawText.j0 k a1 a2 a3 a4 true s0_0 s0_1 s0_2) else ((spec_l01Next.f s0_0 s0_1 s0_2 5).bind fun bt325 => (spec_l12DrawText.j0 k a1 a2 a3 a4 (bt325.1 == 0) s0_0 bt325.2.1 bt325.2.2))) = some (r1, r2, r3) := h
 clear h
 have HC6 := Aside0.mk H
 clear H
 go_enter Tryd.func62, Tryd.ntmps62
 go_upto_region 1 with (fail)
 go_cut [19] (fun v19 wc => ∃ (kq : Nat) (x19_5 : Bool) (x1001_5 : Int) (x1002_5 : Int), v19 = .bool x19_5 ∧ Aside0 (spec_l12DrawText.j0 kq a1 a2 a3 a4 x19_5 s0_0 x1001_5 x1002_5 = some (r1, r2, r3)) ∧ Aside0 (kq ≤ k) ∧ Aside0 (IsS82 w0 wc g s0_0 x1001_5 x1002_5) ∧ Aside0 (KeepBut w wc g none) ∧ Aside0 (Below w0.heap.size w0 wc))
 case first =>
  have H := HC6.out
  clear HC6
  by_cases c7 : a4 = 0
  ·rw [if_pos c7] at H
   have c7b0 : (a4 == 0) = true := beq_iff_eq.mpr c7
   have c7b1 : (a4 != 0) = false := bne_eq_false_iff_eq.mpr c7
   clear c7
   (first | rw [c7b0] | (simp only [i64_w, i32_w]; rw [c7b0]) | skip)
   have H' := Aside0.mk H
   clear H
   go_wp2
   go_meet
   case rel => exact ⟨_, (true), (s0_1), (s0_2), (by first | rfl | (simp; done) | (simp [*]; done)), H', ⟨by first | omega | exact Nat.le_refl _⟩, ⟨by repeat (first | (with_reducible first | exact HI0.out | apply IsS82.alloc | apply IsS82.drewN | apply IsS82.drew | apply IsS82.set_1 | apply IsS82.set_2) | exact HI0.out)⟩, ⟨by repeat (first | (with_reducible first | exact HK.out | apply KeepBut.set_ | apply keep_drewN | apply keep_drew | apply keep_alloc) | exact HK.out)⟩, ⟨by repeat (first | (with_reducible first | exact HB.out | apply below_alloc | apply pw_below_drewN | apply below_drew1 | refine below_set ?_ (IsS82.ge HI0.out)) | exact HB.out)⟩⟩
  ·rw [if_neg c7] at H
   have c7b0 : (a4 == 0) = false := beq_eq_false_iff_ne.mpr c7
   have c7b1 : (a4 != 0) = true := bne_iff_ne.mpr c7
   (first | rw [c7b0] | (simp only [i64_w, i32_w]; rw [c7b0]) | skip)
   replace H := Option.bind_eq_some_iff.mp H
   obtain ⟨⟨t325, t326, t327⟩, A80, H⟩ := H
   replace H : (spec_l12DrawText.j0 k a1 a2 a3 a4 (t325 == 0) s0_0 t326 t327) = some (r1, r2, r3) := H
   have A8 := Aside0.mk A80
   clear A80
   have H' := Aside0.mk H
   clear H
   go_wp2_with (first | (go_at_call 59; (with_reducible refine (spec_l01Next.calls g s0_0 s0_1 s0_2 5 t325 t326 t327 w0 _ ?side1 ?side2 A8.out).mono ?_); (case side1 => repeat (first | (with_reducible first | exact HI0.out | apply IsS82.alloc | apply IsS82.drewN | apply IsS82.drew | apply IsS82.set_1 | apply IsS82.set_2) | exact HI0.out)); (case side2 => repeat (first | (with_reducible first | exact HB.out | apply below_alloc | apply pw_below_drewN | apply below_drew1 | refine below_set ?_ (IsS82.ge HI0.out)) | exact HB.out)); rintro e w9 ⟨rfl, hi, hb, hk⟩; have n0_ := Aside0.mk (KeepBut.trans (by repeat (first | (with_reducible first | exact HK.out | apply KeepBut.set_ | apply keep_drewN | apply keep_drew | apply keep_alloc) | exact HK.out)) hk (.inl rfl)); have n1_ := Aside0.mk (hb); have n2_ := Aside0.mk (hi); clear HK; clear HB; clear HI0; have HK := n0_; have HB := n1_; have HI0 := n2_; clear n0_ n1_ n2_; (try clear hb); (try clear hk); (try clear hi)))
   go_meet
   case rel => exact ⟨_, ((t325 == 0)), (t326), (t327), (by first | rfl | (simp; done) | (simp [*]; done)), H', ⟨by first | omega | exact Nat.le_refl _⟩, ⟨by repeat (first | (with_reducible first | exact HI0.out | apply IsS82.alloc | apply IsS82.drewN | apply IsS82.drew | apply IsS82.set_1 | apply IsS82.set_2) | exact HI0.out)⟩, ⟨by repeat (first | (with_reducible first | exact HK.out | apply KeepBut.set_ | apply keep_drewN | apply keep_drew | apply keep_alloc) | exact HK.out)⟩, ⟨by repeat (first | (with_reducible first | exact HB.out | apply below_alloc | apply pw_below_drewN | apply below_drew1 | refine below_set ?_ (IsS82.ge HI0.out)) | exact HB.out)⟩⟩
 case rest =>
  clear HC6
  try clear p2
  try clear c6
  try clear c7
  try clear c7b0
  try clear c7b1
  obtain ⟨kq, x19_5, x1001_5, x1002_5, rfl, HA, HJ5, HI0, HK, HB⟩ := hcut
  cases kq with
  | zero => exact absurd HA.out (by simp [spec_l12DrawText.j0])
  | succ kj5 =>
   have H := HA.out
   clear HA
   simp only [spec_l12DrawText.j0] at H
   by_cases c10 : x19_5 = true
   ·subst c10
    have H1 : ((some (([(⟨#[46]⟩ : ByteArray), (⟨#[97]⟩ : ByteArray), (⟨#[98]⟩ : ByteArray), (⟨#[99]⟩ : ByteArray), (⟨#[100]⟩ : ByteArray)] : List ByteArray) : List ByteArray)).bind fun y328 => ((spec_l01Next.f s0_0 x1001_5 x1002_5 (mn 5 (wrap64 (a3 + 1)))).bind fun bt331 => (if 0 ≤ bt331.1 then (if bt331.1 < (y328.length : Int) then (some (rdOf ByteArray.empty y328 bt331.1, bt331.2.1, bt331.2.2)) else (none)) else (none)))) = some (r1, r2, r3) := by rw [if_pos rfl] at H; exact H
    clear H
    have H := H1
    clear H1
    obtain ⟨y328, hy328⟩ : ∃ y_ : List ByteArray, y_ = (([(⟨#[46]⟩ : ByteArray), (⟨#[97]⟩ : ByteArray), (⟨#[98]⟩ : ByteArray), (⟨#[99]⟩ : ByteArray), (⟨#[100]⟩ : ByteArray)] : List ByteArray)) := ⟨_, rfl⟩
    replace H : ((spec_l01Next.f s0_0 x1001_5 x1002_5 (mn 5 (wrap64 (a3 + 1)))).bind fun bt331 => (if 0 ≤ bt331.1 then (if bt331.1 < (y328.length : Int) then (some (rdOf ByteArray.empty y328 bt331.1, bt331.2.1, bt331.2.2)) else (none)) else (none))) = some (r1, r2, r3) := by first | (rw [hy328]; with_reducible exact H) | (have H2_ := (Option.bind_some _ _).symm.trans H; rw [hy328]; with_reducible exact H2_) | (have H2_ := (Option.bind_some _ _).symm.trans H; with_reducible exact H2_) | with_reducible exact H | (rw [hy328]; exact H) | exact H
    have Ny328 := Aside0.mk hy328
    clear hy328
    obtain ⟨ji11, hji11⟩ : ∃ j_ : Int, (mn 5 (wrap64 (a3 + 1))) = j_ := ⟨_, rfl⟩
    replace H : ((spec_l01Next.f s0_0 x1001_5 x1002_5 (ji11)).bind fun bt331 => (if 0 ≤ bt331.1 then (if bt331.1 < (y328.length : Int) then (some (rdOf ByteArray.empty y328 bt331.1, bt331.2.1, bt331.2.2)) else (none)) else (none))) = some (r1, r2, r3) := by first | (rw [hji11] at H; exact H) | (simp only [hji11] at H ⊢; exact H)
    have hji11_ : (if (wrap64 (a3 + 1)) < 5 then (wrap64 (a3 + 1)) else 5) = ji11 := hji11
    replace H := Option.bind_eq_some_iff.mp H
    obtain ⟨⟨t331, t332, t333⟩, A120, H⟩ := H
    replace H : (if 0 ≤ t331 then (if t331 < (y328.length : Int) then (some (rdOf ByteArray.empty y328 t331, t332, t333)) else (none)) else (none)) = some (r1, r2, r3) := H
    have A12 := Aside0.mk A120
    clear A120
    by_cases c13 : 0 ≤ t331
    ·rw [if_pos c13] at H
     have c13b0 : decide (0 ≤ t331) = true := decide_eq_true c13
     clear c13
     by_cases c14 : t331 < (y328.length : Int)
     ·rw [if_pos c14] at H
      have c14b0 : decide (t331 < (y328.length : Int)) = true := decide_eq_true c14
      clear c14
      simp only [Option.some.injEq, Prod.mk.injEq] at H
      obtain ⟨rfl, rfl, rfl⟩ := H
      go_wp2_with (first | ((with_reducible refine gate_dst (N := 20) rfl ?_); refine Kd.R_lit Kd.string _ 9 ?hg (N := 20) ?hd (xs := ([(⟨#[46]⟩ : ByteArray), (⟨#[97]⟩ : ByteArray), (⟨#[98]⟩ : ByteArray), (⟨#[99]⟩ : ByteArray), (⟨#[100]⟩ : ByteArray)] : List ByteArray)) (inner := [.string (⟨#[46]⟩ : ByteArray), .string (⟨#[97]⟩ : ByteArray), .string (⟨#[98]⟩ : ByteArray), .string (⟨#[99]⟩ : ByteArray), .string (⟨#[100]⟩ : ByteArray)]) (ok := fun _ => True) (okp := fun _ => True) ?hr ?hp (fun _ hk => hk) trivial (Below.refl _ _) (Nat.le_refl _) (by simp) ?_; (case hd => rfl); (case hg => rfl); (case hr => first | (go_simp; done) | (go_simp; rfl)); (case hp => exact (Reps.one (show Kd.M Kd.string _ _ _ (⟨#[46]⟩ : ByteArray) [.string (⟨#[46]⟩ : ByteArray)] from rfl) (Reps.one (show Kd.M Kd.string _ _ _ (⟨#[97]⟩ : ByteArray) [.string (⟨#[97]⟩ : ByteArray)] from rfl) (Reps.one (show Kd.M Kd.string _ _ _ (⟨#[98]⟩ : ByteArray) [.string (⟨#[98]⟩ : ByteArray)] from rfl) (Reps.one (show Kd.M Kd.string _ _ _ (⟨#[99]⟩ : ByteArray) [.string (⟨#[99]⟩ : ByteArray)] from rfl) (Reps.one (show Kd.M Kd.string _ _ _ (⟨#[100]⟩ : ByteArray) [.string (⟨#[100]⟩ : ByteArray)] from rfl) (Reps.none _ _))))))); intro v329 w15 ho16 hb hg_ hnew_; clear hg_ hnew_; (first | rw [← Ny328.out] at ho16 | (simp only [Int.reduceToNat] at ho16; rw [← Ny328.out] at ho16)); have n0_ := Aside0.mk (Kd.R_lower ho16 (keep_size (w := w) (g := g) (row := none) (by repeat (first | (with_reducible first | exact HK.out | apply KeepBut.set_ | apply keep_drewN | apply keep_drew | apply keep_alloc) | exact HK.out)))); have n1_ := Aside0.mk (IsS82.below (by repeat (first | (with_reducible first | exact HI0.out | apply IsS82.alloc | apply IsS82.drewN | apply IsS82.drew | apply IsS82.set_1 | apply IsS82.set_2) | exact HI0.out)) hb); have n2_ := Aside0.mk (KeepBut.trans (by repeat (first | (with_reducible first | exact HK.out | apply KeepBut.set_ | apply keep_drewN | apply keep_drew | apply keep_alloc) | exact HK.out)) (KeepBut.of_below hb g none) (.inl rfl)); have n3_ := Aside0.mk (below_step (by repeat (first | (with_reducible first | exact HB.out | apply below_alloc | apply pw_below_drewN | apply below_drew1 | refine below_set ?_ (IsS82.ge HI0.out)) | exact HB.out)) hb); clear HI0; clear HK; clear HB; have HO330 := n0_; have HI0 := n1_; have HK := n2_; have HB := n3_; clear n0_ n1_ n2_ n3_; clear hb ho16) | ((with_reducible refine gate_callee (f := 59) rfl ?_); refine goesL_ (some 25) rfl rfl Tryd.func59 (by kernel_rfl) rfl #[.pointer (some ⟨g, 0, none⟩), .int .i64 ji11] rfl (by (try simp only [List.map_toArray, List.map_cons, List.map_nil]); first | done | (simp only [hji11]; rfl) | rfl | (simp only [List.length_drop, List.length_take]; rfl)) ?_; (with_reducible refine (spec_l01Next.calls g s0_0 x1001_5 x1002_5 ji11 t331 t332 t333 w0 _ ?side1 ?side2 A12.out).mono ?_); (case side1 => repeat (first | (with_reducible first | exact HI0.out | apply IsS82.alloc | apply IsS82.drewN | apply IsS82.drew | apply IsS82.set_1 | apply IsS82.set_2) | exact HI0.out)); (case side2 => repeat (first | (with_reducible first | exact HB.out | apply below_alloc | apply pw_below_drewN | apply below_drew1 | refine below_set ?_ (IsS82.ge HI0.out)) | exact HB.out)); rintro e w17 ⟨rfl, hi, hb, hk⟩; refine ⟨_, rfl, ?_⟩; have n0_ := Aside0.mk (Kd.R_mono (Kd.R_keep (IsS82.apart (show IsS82 w0 _ g s0_0 x1001_5 x1002_5 from by repeat (first | (with_reducible first | exact HI0.out | apply IsS82.alloc | apply IsS82.drewN | apply IsS82.drew | apply IsS82.set_1 | apply IsS82.set_2) | exact HI0.out)) (by (with_reducible repeat (first | apply Kd.R_alloc | apply Kd.R_drewN | apply Kd.R_drew)); exact HO330.out) (by decide)) hk (fun _ h => h.2)) (fun _ h => h.1)); have n1_ := Aside0.mk (KeepBut.trans (by repeat (first | (with_reducible first | exact HK.out | apply KeepBut.set_ | apply keep_drewN | apply keep_drew | apply keep_alloc) | exact HK.out)) hk (.inl rfl)); have n2_ := Aside0.mk (hb); have n3_ := Aside0.mk (hi); clear HO330; clear HK; clear HB; clear HI0; have HO330 := n0_; have HK := n1_; have HB := n2_; have HI0 := n3_; clear n0_ n1_ n2_ n3_; (try clear hb); (try clear hk); (try clear hi); obtain ⟨Ao18, co18, eo18⟩ := Kd.R_slice HO330.out; subst eo18; have p334 : 0 ≤ (t331 : Int) := of_decide_eq_true (by first | (with_reducible assumption) | assumption); have q334 : t331 < (y328.length : Int) := of_decide_eq_true (by first | (with_reducible assumption) | assumption); obtain ⟨ad334, e334, hx334_0⟩ := Kd.at_string (Kd.R_reads' HO330.out).2.2 t331 p334 q334; cases e334; replace p334 := eq_true p334; replace q334 := eq_true q334))
      go_ret
      exact ⟨by first | rfl | (simp [errW_none, errW_some] <;> rfl) | (simp only [← hji11]; first | rfl | (simp [errW_none, errW_some] <;> rfl)) | (simp [*, errW_none, errW_some] <;> rfl), by repeat (first | (with_reducible first | exact HI0.out | apply IsS82.alloc | apply IsS82.drewN | apply IsS82.drew | apply IsS82.set_1 | apply IsS82.set_2) | exact HI0.out), by repeat (first | (with_reducible first | exact HB.out | apply below_alloc | apply pw_below_drewN | apply below_drew1 | refine below_set ?_ (IsS82.ge HI0.out)) | exact HB.out), by repeat (first | (with_reducible first | exact HK.out | apply KeepBut.set_ | apply keep_drewN | apply keep_drew | apply keep_alloc) | exact HK.out)⟩
     ·rw [if_neg c14] at H
      exact absurd H (by simp)
    ·rw [if_neg c13] at H
     exact absurd H (by simp)
   ·replace c10 := Bool.eq_false_iff.mpr c10
    subst c10
    have H1 : (if a1 > 1 then (if a2 < 2 then (spec_l12DrawText.j1 kj5 a1 a2 a3 a4 true s0_0 x1001_5 x1002_5) else ((spec_l01Next.f s0_0 x1001_5 x1002_5 2).bind fun bt335 => (spec_l12DrawText.j1 kj5 a1 a2 a3 a4 (bt335.1 == 0) s0_0 bt335.2.1 bt335.2.2))) else (spec_l12DrawText.j1 kj5 a1 a2 a3 a4 false s0_0 x1001_5 x1002_5)) = some (r1, r2, r3) := by rw [if_neg (show ¬ (false = true) by decide)] at H; exact H
    clear H
    have H := H1
    clear H1
    have HC19 := Aside0.mk H
    clear H
    go_upto_region 3 with (fail)
    go_cut [38] (fun v38 wc => ∃ (kq : Nat) (x38_18 : Bool) (x1001_18 : Int) (x1002_18 : Int), v38 = .bool x38_18 ∧ Aside0 (spec_l12DrawText.j1 kq a1 a2 a3 a4 x38_18 s0_0 x1001_18 x1002_18 = some (r1, r2, r3)) ∧ Aside0 (kq ≤ kj5) ∧ Aside0 (IsS82 w0 wc g s0_0 x1001_18 x1002_18) ∧ Aside0 (KeepBut w wc g none) ∧ Aside0 (Below w0.heap.size w0 wc))
    case first =>
     have H := HC19.out
     clear HC19
     by_cases c20 : a1 > 1
     ·rw [if_pos c20] at H
      have c20b0 : decide (1 < a1) = true := decide_eq_true c20
      clear c20
      (first | rw [c20b0] | (simp only [i64_w, i32_w]; rw [c20b0]) | skip)
      by_cases c21 : a2 < 2
      ·rw [if_pos c21] at H
       have c21b0 : decide (a2 < 2) = true := decide_eq_true c21
       clear c21
       have H' := Aside0.mk H
       clear H
       go_wp2
       go_meet
       case rel => exact ⟨_, (true), (x1001_5), (x1002_5), (by first | rfl | (simp; done) | (simp [*]; done)), H', ⟨by have := HJ5.out; first | omega | exact Nat.le_refl _⟩, ⟨by repeat (first | (with_reducible first | exact HI0.out | apply IsS82.alloc | apply IsS82.drewN | apply IsS82.drew | apply IsS82.set_1 | apply IsS82.set_2) | exact HI0.out)⟩, ⟨by repeat (first | (with_reducible first | exact HK.out | apply KeepBut.set_ | apply keep_drewN | apply keep_drew | apply keep_alloc) | exact HK.out)⟩, ⟨by repeat (first | (with_reducible first | exact HB.out | apply below_alloc | apply pw_below_drewN | apply below_drew1 | refine below_set ?_ (IsS82.ge HI0.out)) | exact HB.out)⟩⟩
      ·rw [if_neg c21] at H
       have c21b0 : decide (a2 < 2) = false := decide_eq_false c21
       clear c21
       replace H := Option.bind_eq_some_iff.mp H
       obtain ⟨⟨t335, t336, t337⟩, A220, H⟩ := H
       replace H : (spec_l12DrawText.j1 kj5 a1 a2 a3 a4 (t335 == 0) s0_0 t336 t337) = some (r1, r2, r3) := H
       have A22 := Aside0.mk A220
       clear A220
       have H' := Aside0.mk H
       clear H
       go_wp2_with (first | (go_at_call 59; (with_reducible refine (spec_l01Next.calls g s0_0 x1001_5 x1002_5 2 t335 t336 t337 w0 _ ?side1 ?side2 A22.out).mono ?_); (case side1 => repeat (first | (with_reducible first | exact HI0.out | apply IsS82.alloc | apply IsS82.drewN | apply IsS82.drew | apply IsS82.set_1 | apply IsS82.set_2) | exact HI0.out)); (case side2 => repeat (first | (with_reducible first | exact HB.out | apply below_alloc | apply pw_below_drewN | apply below_drew1 | refine below_set ?_ (IsS82.ge HI0.out)) | exact HB.out)); rintro e w23 ⟨rfl, hi, hb, hk⟩; have n0_ := Aside0.mk (KeepBut.trans (by repeat (first | (with_reducible first | exact HK.out | apply KeepBut.set_ | apply keep_drewN | apply keep_drew | apply keep_alloc) | exact HK.out)) hk (.inl rfl)); have n1_ := Aside0.mk (hb); have n2_ := Aside0.mk (hi); clear HK; clear HB; clear HI0; have HK := n0_; have HB := n1_; have HI0 := n2_; clear n0_ n1_ n2_; (try clear hb); (try clear hk); (try clear hi)))
       go_meet
       case rel => exact ⟨_, ((t335 == 0)), (t336), (t337), (by first | rfl | (simp; done) | (simp [*]; done)), H', ⟨by have := HJ5.out; first | omega | exact Nat.le_refl _⟩, ⟨by repeat (first | (with_reducible first | exact HI0.out | apply IsS82.alloc | apply IsS82.drewN | apply IsS82.drew | apply IsS82.set_1 | apply IsS82.set_2) | exact HI0.out)⟩, ⟨by repeat (first | (with_reducible first | exact HK.out | apply KeepBut.set_ | apply keep_drewN | apply keep_drew | apply keep_alloc) | exact HK.out)⟩, ⟨by repeat (first | (with_reducible first | exact HB.out | apply below_alloc | apply pw_below_drewN | apply below_drew1 | refine below_set ?_ (IsS82.ge HI0.out)) | exact HB.out)⟩⟩
     ·rw [if_neg c20] at H
      have c20b0 : decide (1 < a1) = false := decide_eq_false c20
      clear c20
      (first | rw [c20b0] | (simp only [i64_w, i32_w]; rw [c20b0]) | skip)
      have H' := Aside0.mk H
      clear H
      go_wp2
      go_meet
      case rel => exact ⟨_, (false), (x1001_5), (x1002_5), (by first | rfl | (simp; done) | (simp [*]; done)), H', ⟨by have := HJ5.out; first | omega | exact Nat.le_refl _⟩, ⟨by repeat (first | (with_reducible first | exact HI0.out | apply IsS82.alloc | apply IsS82.drewN | apply IsS82.drew | apply IsS82.set_1 | apply IsS82.set_2) | exact HI0.out)⟩, ⟨by repeat (first | (with_reducible first | exact HK.out | apply KeepBut.set_ | apply keep_drewN | apply keep_drew | apply keep_alloc) | exact HK.out)⟩, ⟨by repeat (first | (with_reducible first | exact HB.out | apply below_alloc | apply pw_below_drewN | apply below_drew1 | refine below_set ?_ (IsS82.ge HI0.out)) | exact HB.out)⟩⟩
    case rest =>
     clear HC19
     try clear c1
     try clear c2
     try clear p2
     try clear p3
     try clear q3
     try clear hx3
     try clear c5
     try clear c6
     try clear p6
     try clear c7
     try clear c7b0
     try clear c7b1
     try clear c10
     try clear c13
     try clear c13b0
     try clear c14
     try clear c14b0
     try clear c20
     try clear c20b0
     try clear c21
     try clear c21b0
     try clear hx334_0
     try clear p2
     try clear p334
     try clear q334
     obtain ⟨kq, x38_18, x1001_18, x1002_18, rfl, HA, HJ18, HI0, HK, HB⟩ := hcut
     cases kq with
     | zero => exact absurd HA.out (by simp [spec_l12DrawText.j1])
     | succ kj18 =>
      have H := HA.out
      clear HA
      simp only [spec_l12DrawText.j1] at H
      by_cases c24 : x38_18 = true
      ·subst c24
       have H1 : ((spec_l01Next.f s0_0 x1001_18 x1002_18 (wrap64 (a1 - 1))).bind fun bt338 => ((spec_l01Dec.f kj18 (wrap64 (1 + bt338.1))).bind fun t341 => (if 1 + t341.size ≤ 9223372036854775807 then (if ((⟨#[124]⟩ : ByteArray) ++ t341).size + 1 ≤ 9223372036854775807 then ((spec_l12DrawText.f kj18 s0_0 bt338.2.1 bt338.2.2 (wrap64 (1 + bt338.1)) a2 a3 (wrap64 (a4 - 1))).bind fun bt342 => (if (((⟨#[124]⟩ : ByteArray) ++ t341) ++ (⟨#[40]⟩ : ByteArray)).size + bt342.1.size ≤ 9223372036854775807 then (if ((((⟨#[124]⟩ : ByteArray) ++ t341) ++ (⟨#[40]⟩ : ByteArray)) ++ bt342.1).size + 2 ≤ 9223372036854775807 then ((spec_l12DrawText.f kj18 s0_0 bt342.2.1 bt342.2.2 (wrap64 (a1 - (wrap64 (1 + bt338.1)))) a2 a3 (wrap64 (a4 - 1))).bind fun bt345 => (if (((((⟨#[124]⟩ : ByteArray) ++ t341) ++ (⟨#[40]⟩ : ByteArray)) ++ bt342.1) ++ (⟨#[41, 40]⟩ : ByteArray)).size + bt345.1.size ≤ 9223372036854775807 then (if ((((((⟨#[124]⟩ : ByteArray) ++ t341) ++ (⟨#[40]⟩ : ByteArray)) ++ bt342.1) ++ (⟨#[41, 40]⟩ : ByteArray)) ++ bt345.1).size + 1 ≤ 9223372036854775807 then (some (((((((⟨#[124]⟩ : ByteArray) ++ t341) ++ (⟨#[40]⟩ : ByteArray)) ++ bt342.1) ++ (⟨#[41, 40]⟩ : ByteArray)) ++ bt345.1) ++ (⟨#[41]⟩ : ByteArray), bt345.2.1, bt345.2.2)) else (none)) else (none))) else (none)) else (none))) else (none)) else (none)))) = some (r1, r2, r3) := by rw [if_pos rfl] at H; exact H
       clear H
       have H := H1
       clear H1
       replace H := Option.bind_eq_some_iff.mp H
       obtain ⟨⟨t338, t339, t340⟩, A250, H⟩ := H
       replace H : ((spec_l01Dec.f kj18 (wrap64 (1 + t338))).bind fun t341 => (if 1 + t341.size ≤ 9223372036854775807 then (if ((⟨#[124]⟩ : ByteArray) ++ t341).size + 1 ≤ 9223372036854775807 then ((spec_l12DrawText.f kj18 s0_0 t339 t340 (wrap64 (1 + t338)) a2 a3 (wrap64 (a4 - 1))).bind fun bt342 => (if (((⟨#[124]⟩ : ByteArray) ++ t341) ++ (⟨#[40]⟩ : ByteArray)).size + bt342.1.size ≤ 9223372036854775807 then (if ((((⟨#[124]⟩ : ByteArray) ++ t341) ++ (⟨#[40]⟩ : ByteArray)) ++ bt342.1).size + 2 ≤ 9223372036854775807 then ((spec_l12DrawText.f kj18 s0_0 bt342.2.1 bt342.2.2 (wrap64 (a1 - (wrap64 (1 + t338)))) a2 a3 (wrap64 (a4 - 1))).bind fun bt345 => (if (((((⟨#[124]⟩ : ByteArray) ++ t341) ++ (⟨#[40]⟩ : ByteArray)) ++ bt342.1) ++ (⟨#[41, 40]⟩ : ByteArray)).size + bt345.1.size ≤ 9223372036854775807 then (if ((((((⟨#[124]⟩ : ByteArray) ++ t341) ++ (⟨#[40]⟩ : ByteArray)) ++ bt342.1) ++ (⟨#[41, 40]⟩ : ByteArray)) ++ bt345.1).size + 1 ≤ 9223372036854775807 then (some (((((((⟨#[124]⟩ : ByteArray) ++ t341) ++ (⟨#[40]⟩ : ByteArray)) ++ bt342.1) ++ (⟨#[41, 40]⟩ : ByteArray)) ++ bt345.1) ++ (⟨#[41]⟩ : ByteArray), bt345.2.1, bt345.2.2)) else (none)) else (none))) else (none)) else (none))) else (none)) else (none))) = some (r1, r2, r3) := H
       have A25 := Aside0.mk A250
       clear A250
       replace H := Option.bind_eq_some_iff.mp H
       obtain ⟨t341, A260, H⟩ := H
       replace H : (if 1 + t341.size ≤ 9223372036854775807 then (if ((⟨#[124]⟩ : ByteArray) ++ t341).size + 1 ≤ 9223372036854775807 then ((spec_l12DrawText.f kj18 s0_0 t339 t340 (wrap64 (1 + t338)) a2 a3 (wrap64 (a4 - 1))).bind fun bt342 => (if (((⟨#[124]⟩ : ByteArray) ++ t341) ++ (⟨#[40]⟩ : ByteArray)).size + bt342.1.size ≤ 9223372036854775807 then (if ((((⟨#[124]⟩ : ByteArray) ++ t341) ++ (⟨#[40]⟩ : ByteArray)) ++ bt342.1).size + 2 ≤ 9223372036854775807 then ((spec_l12DrawText.f kj18 s0_0 bt342.2.1 bt342.2.2 (wrap64 (a1 - (wrap64 (1 + t338)))) a2 a3 (wrap64 (a4 - 1))).bind fun bt345 => (if (((((⟨#[124]⟩ : ByteArray) ++ t341) ++ (⟨#[40]⟩ : ByteArray)) ++ bt342.1) ++ (⟨#[41, 40]⟩ : ByteArray)).size + bt345.1.size ≤ 9223372036854775807 then (if ((((((⟨#[124]⟩ : ByteArray) ++ t341) ++ (⟨#[40]⟩ : ByteArray)) ++ bt342.1) ++ (⟨#[41, 40]⟩ : ByteArray)) ++ bt345.1).size + 1 ≤ 9223372036854775807 then (some (((((((⟨#[124]⟩ : ByteArray) ++ t341) ++ (⟨#[40]⟩ : ByteArray)) ++ bt342.1) ++ (⟨#[41, 40]⟩ : ByteArray)) ++ bt345.1) ++ (⟨#[41]⟩ : ByteArray), bt345.2.1, bt345.2.2)) else (none)) else (none))) else (none)) else (none))) else (none)) else (none)) = some (r1, r2, r3) := H
       have A26 := Aside0.mk A260
       clear A260
       by_cases c27 : 1 + t341.size ≤ 9223372036854775807
       ·rw [if_pos c27] at H
        have c27b0 := eq_true c27
        have c27b1 : decide (1 + t341.size ≤ 9223372036854775807) = true := decide_eq_true c27
        try have c27b2 : (9223372036854775807 < 1 + t341.size) = False := eq_false (Nat.not_lt.2 c27)
        by_cases c28 : ((⟨#[124]⟩ : ByteArray) ++ t341).size + 1 ≤ 9223372036854775807
        ·rw [if_pos c28] at H
         have c28b0 := eq_true c28
         have c28b1 : decide (((⟨#[124]⟩ : ByteArray) ++ t341).size + 1 ≤ 9223372036854775807) = true := decide_eq_true c28
         try have c28b2 : (9223372036854775807 < ((⟨#[124]⟩ : ByteArray) ++ t341).size + 1) = False := eq_false (Nat.not_lt.2 c28)
         try have c28b6 : (9223372036854775807 < 1 + t341.size + 1) = False := (by have h_ := c28b2; simp only [ByteArray.size_append] at h_; exact h_)
         try have c28b3 : (9223372036854775807 < ((⟨#[124]⟩ : ByteArray) ++ t341).size + 1) = False := c28b2
         try simp only [ByteArray.size_append] at c28b3
         replace H := Option.bind_eq_some_iff.mp H
         obtain ⟨⟨t342, t343, t344⟩, A290, H⟩ := H
         replace H : (if (((⟨#[124]⟩ : ByteArray) ++ t341) ++ (⟨#[40]⟩ : ByteArray)).size + t342.size ≤ 9223372036854775807 then (if ((((⟨#[124]⟩ : ByteArray) ++ t341) ++ (⟨#[40]⟩ : ByteArray)) ++ t342).size + 2 ≤ 9223372036854775807 then ((spec_l12DrawText.f kj18 s0_0 t343 t344 (wrap64 (a1 - (wrap64 (1 + t338)))) a2 a3 (wrap64 (a4 - 1))).bind fun bt345 => (if (((((⟨#[124]⟩ : ByteArray) ++ t341) ++ (⟨#[40]⟩ : ByteArray)) ++ t342) ++ (⟨#[41, 40]⟩ : ByteArray)).size + bt345.1.size ≤ 9223372036854775807 then (if ((((((⟨#[124]⟩ : ByteArray) ++ t341) ++ (⟨#[40]⟩ : ByteArray)) ++ t342) ++ (⟨#[41, 40]⟩ : ByteArray)) ++ bt345.1).size + 1 ≤ 9223372036854775807 then (some (((((((⟨#[124]⟩ : ByteArray) ++ t341) ++ (⟨#[40]⟩ : ByteArray)) ++ t342) ++ (⟨#[41, 40]⟩ : ByteArray)) ++ bt345.1) ++ (⟨#[41]⟩ : ByteArray), bt345.2.1, bt345.2.2)) else (none)) else (none))) else (none)) else (none)) = some (r1, r2, r3) := H
         have A29 := Aside0.mk A290
         clear A290
         by_cases c30 : (((⟨#[124]⟩ : ByteArray) ++ t341) ++ (⟨#[40]⟩ : ByteArray)).size + t342.size ≤ 9223372036854775807
         ·rw [if_pos c30] at H
          have c30b0 := eq_true c30
          have c30b1 : decide ((((⟨#[124]⟩ : ByteArray) ++ t341) ++ (⟨#[40]⟩ : ByteArray)).size + t342.size ≤ 9223372036854775807) = true := decide_eq_true c30
          try have c30b2 : (9223372036854775807 < (((⟨#[124]⟩ : ByteArray) ++ t341) ++ (⟨#[40]⟩ : ByteArray)).size + t342.size) = False := eq_false (Nat.not_lt.2 c30)
          try have c30b6 : (9223372036854775807 < 1 + t341.size + 1 + t342.size) = False := (by have h_ := c30b2; simp only [ByteArray.size_append] at h_; exact h_)
          try have c30b3 : (9223372036854775807 < (((⟨#[124]⟩ : ByteArray) ++ t341) ++ (⟨#[40]⟩ : ByteArray)).size + t342.size) = False := c30b2
          try simp only [ByteArray.size_append] at c30b3
          by_cases c31 : ((((⟨#[124]⟩ : ByteArray) ++ t341) ++ (⟨#[40]⟩ : ByteArray)) ++ t342).size + 2 ≤ 9223372036854775807
          ·rw [if_pos c31] at H
           have c31b0 := eq_true c31
           have c31b1 : decide (((((⟨#[124]⟩ : ByteArray) ++ t341) ++ (⟨#[40]⟩ : ByteArray)) ++ t342).size + 2 ≤ 9223372036854775807) = true := decide_eq_true c31
           try have c31b2 : (9223372036854775807 < ((((⟨#[124]⟩ : ByteArray) ++ t341) ++ (⟨#[40]⟩ : ByteArray)) ++ t342).size + 2) = False := eq_false (Nat.not_lt.2 c31)
           try have c31b6 : (9223372036854775807 < 1 + t341.size + 1 + t342.size + 2) = False := (by have h_ := c31b2; simp only [ByteArray.size_append] at h_; exact h_)
           try have c31b3 : (9223372036854775807 < ((((⟨#[124]⟩ : ByteArray) ++ t341) ++ (⟨#[40]⟩ : ByteArray)) ++ t342).size + 2) = False := c31b2
           try simp only [ByteArray.size_append] at c31b3
           replace H := Option.bind_eq_some_iff.mp H
           obtain ⟨⟨t345, t346, t347⟩, A320, H⟩ := H
           replace H : (if (((((⟨#[124]⟩ : ByteArray) ++ t341) ++ (⟨#[40]⟩ : ByteArray)) ++ t342) ++ (⟨#[41, 40]⟩ : ByteArray)).size + t345.size ≤ 9223372036854775807 then (if ((((((⟨#[124]⟩ : ByteArray) ++ t341) ++ (⟨#[40]⟩ : ByteArray)) ++ t342) ++ (⟨#[41, 40]⟩ : ByteArray)) ++ t345).size + 1 ≤ 9223372036854775807 then (some (((((((⟨#[124]⟩ : ByteArray) ++ t341) ++ (⟨#[40]⟩ : ByteArray)) ++ t342) ++ (⟨#[41, 40]⟩ : ByteArray)) ++ t345) ++ (⟨#[41]⟩ : ByteArray), t346, t347)) else (none)) else (none)) = some (r1, r2, r3) := H
           have A32 := Aside0.mk A320
           clear A320
           by_cases c33 : (((((⟨#[124]⟩ : ByteArray) ++ t341) ++ (⟨#[40]⟩ : ByteArray)) ++ t342) ++ (⟨#[41, 40]⟩ : ByteArray)).size + t345.size ≤ 9223372036854775807
           ·rw [if_pos c33] at H
            have c33b0 := eq_true c33
            have c33b1 : decide ((((((⟨#[124]⟩ : ByteArray) ++ t341) ++ (⟨#[40]⟩ : ByteArray)) ++ t342) ++ (⟨#[41, 40]⟩ : ByteArray)).size + t345.size ≤ 9223372036854775807) = true := decide_eq_true c33
            try have c33b2 : (9223372036854775807 < (((((⟨#[124]⟩ : ByteArray) ++ t341) ++ (⟨#[40]⟩ : ByteArray)) ++ t342) ++ (⟨#[41, 40]⟩ : ByteArray)).size + t345.size) = False := eq_false (Nat.not_lt.2 c33)
            try have c33b6 : (9223372036854775807 < 1 + t341.size + 1 + t342.size + 2 + t345.size) = False := (by have h_ := c33b2; simp only [ByteArray.size_append] at h_; exact h_)
            try have c33b3 : (9223372036854775807 < (((((⟨#[124]⟩ : ByteArray) ++ t341) ++ (⟨#[40]⟩ : ByteArray)) ++ t342) ++ (⟨#[41, 40]⟩ : ByteArray)).size + t345.size) = False := c33b2
            try simp only [ByteArray.size_append] at c33b3
            by_cases c34 : ((((((⟨#[124]⟩ : ByteArray) ++ t341) ++ (⟨#[40]⟩ : ByteArray)) ++ t342) ++ (⟨#[41, 40]⟩ : ByteArray)) ++ t345).size + 1 ≤ 9223372036854775807
            ·rw [if_pos c34] at H
             have c34b0 := eq_true c34
             have c34b1 : decide (((((((⟨#[124]⟩ : ByteArray) ++ t341) ++ (⟨#[40]⟩ : ByteArray)) ++ t342) ++ (⟨#[41, 40]⟩ : ByteArray)) ++ t345).size + 1 ≤ 9223372036854775807) = true := decide_eq_true c34
             try have c34b2 : (9223372036854775807 < ((((((⟨#[124]⟩ : ByteArray) ++ t341) ++ (⟨#[40]⟩ : ByteArray)) ++ t342) ++ (⟨#[41, 40]⟩ : ByteArray)) ++ t345).size + 1) = False := eq_false (Nat.not_lt.2 c34)
             try have c34b6 : (9223372036854775807 < 1 + t341.size + 1 + t342.size + 2 + t345.size + 1) = False := (by have h_ := c34b2; simp only [ByteArray.size_append] at h_; exact h_)
             try have c34b3 : (9223372036854775807 < ((((((⟨#[124]⟩ : ByteArray) ++ t341) ++ (⟨#[40]⟩ : ByteArray)) ++ t342) ++ (⟨#[41, 40]⟩ : ByteArray)) ++ t345).size + 1) = False := c34b2
             try simp only [ByteArray.size_append] at c34b3
             simp only [Option.some.injEq, Prod.mk.injEq] at H
             obtain ⟨rfl, rfl, rfl⟩ := H
             go_wp2_with (first | ((with_reducible refine gate_callee (f := 59) rfl ?_); refine goesL_ (some 42) rfl rfl Tryd.func59 (by kernel_rfl) rfl #[.pointer (some ⟨g, 0, none⟩), .int .i64 (wrap64 (a1 - 1))] rfl (by (try simp only [List.map_toArray, List.map_cons, List.map_nil]); first | done | rfl | (simp only [List.length_drop, List.length_take]; rfl)) ?_; (with_reducible refine (spec_l01Next.calls g s0_0 x1001_18 x1002_18 (wrap64 (a1 - 1)) t338 t339 t340 w0 _ ?side1 ?side2 A25.out).mono ?_); (case side1 => repeat (first | (with_reducible first | exact HI0.out | apply IsS82.alloc | apply IsS82.drewN | apply IsS82.drew | apply IsS82.set_1 | apply IsS82.set_2) | exact HI0.out)); (case side2 => repeat (first | (with_reducible first | exact HB.out | apply below_alloc | apply pw_below_drewN | apply below_drew1 | refine below_set ?_ (IsS82.ge HI0.out)) | exact HB.out)); rintro e w35 ⟨rfl, hi, hb, hk⟩; refine ⟨_, rfl, ?_⟩; have n0_ := Aside0.mk (KeepBut.trans (by repeat (first | (with_reducible first | exact HK.out | apply KeepBut.set_ | apply keep_drewN | apply keep_drew | apply keep_alloc) | exact HK.out)) hk (.inl rfl)); have n1_ := Aside0.mk (hb); have n2_ := Aside0.mk (hi); clear HK; clear HB; clear HI0; have HK := n0_; have HB := n1_; have HI0 := n2_; clear n0_ n1_ n2_; (try clear hb); (try clear hk); (try clear hi)) | ((with_reducible refine gate_callee (f := 57) rfl ?_); refine goesL_ (some 45) rfl rfl Tryd.func57 (by kernel_rfl) rfl #[.int .i64 (wrap64 (1 + t338))] rfl (by (try simp only [List.map_toArray, List.map_cons, List.map_nil]); first | done | rfl | (simp only [List.length_drop, List.length_take]; rfl)) ?_; (with_reducible refine (spec_l01Dec.calls kj18 (wrap64 (1 + t338)) t341 _ A26.out).mono ?_); rintro e w36 ⟨rfl, hb⟩; refine ⟨_, rfl, ?_⟩; have n0_ := Aside0.mk (IsS82.below (by repeat (first | (with_reducible first | exact HI0.out | apply IsS82.alloc | apply IsS82.drewN | apply IsS82.drew | apply IsS82.set_1 | apply IsS82.set_2) | exact HI0.out)) hb); have n1_ := Aside0.mk (KeepBut.trans (by repeat (first | (with_reducible first | exact HK.out | apply KeepBut.set_ | apply keep_drewN | apply keep_drew | apply keep_alloc) | exact HK.out)) (KeepBut.of_below hb g none) (.inl rfl)); have n2_ := Aside0.mk (below_step (by repeat (first | (with_reducible first | exact HB.out | apply below_alloc | apply pw_below_drewN | apply below_drew1 | refine below_set ?_ (IsS82.ge HI0.out)) | exact HB.out)) hb); clear HI0; clear HK; clear HB; have HI0 := n0_; have HK := n1_; have HB := n2_; clear n0_ n1_ n2_; (try clear hb); (try clear hk); (try clear hi)) | ((with_reducible refine gate_callee (f := 62) rfl ?_); refine goesL_ (some 54) rfl rfl Tryd.func62 (by kernel_rfl) rfl #[.pointer (some ⟨g, 0, none⟩), .int .i64 (wrap64 (1 + t338)), .int .i64 a2, .int .i64 a3, .int .i64 (wrap64 (a4 - 1))] rfl (by (try simp only [List.map_toArray, List.map_cons, List.map_nil]); first | done | rfl | (simp only [List.length_drop, List.length_take]; rfl)) ?_; (with_reducible refine (ih kj18 (by have := HJ5.out; have := HJ18.out; omega) g s0_0 t339 t340 (wrap64 (1 + t338)) a2 a3 (wrap64 (a4 - 1)) t342 t343 t344 w0 _ ?side1 ?side2 A29.out).mono ?_); (case side1 => repeat (first | (with_reducible first | exact HI0.out | apply IsS82.alloc | apply IsS82.drewN | apply IsS82.drew | apply IsS82.set_1 | apply IsS82.set_2) | exact HI0.out)); (case side2 => repeat (first | (with_reducible first | exact HB.out | apply below_alloc | apply pw_below_drewN | apply below_drew1 | refine below_set ?_ (IsS82.ge HI0.out)) | exact HB.out)); rintro e w37 ⟨rfl, hi, hb, hk⟩; refine ⟨_, rfl, ?_⟩; have n0_ := Aside0.mk (KeepBut.trans (by repeat (first | (with_reducible first | exact HK.out | apply KeepBut.set_ | apply keep_drewN | apply keep_drew | apply keep_alloc) | exact HK.out)) hk (.inl rfl)); have n1_ := Aside0.mk (hb); have n2_ := Aside0.mk (hi); clear HK; clear HB; clear HI0; have HK := n0_; have HB := n1_; have HI0 := n2_; clear n0_ n1_ n2_; (try clear hb); (try clear hk); (try clear hi)) | ((with_reducible refine gate_callee (f := 62) rfl ?_); refine goesL_ (some 65) rfl rfl Tryd.func62 (by kernel_rfl) rfl #[.pointer (some ⟨g, 0, none⟩), .int .i64 (wrap64 (a1 - (wrap64 (1 + t338)))), .int .i64 a2, .int .i64 a3, .int .i64 (wrap64 (a4 - 1))] rfl (by (try simp only [List.map_toArray, List.map_cons, List.map_nil]); first | done | rfl | (simp only [List.length_drop, List.length_take]; rfl)) ?_; (with_reducible refine (ih kj18 (by have := HJ5.out; have := HJ18.out; omega) g s0_0 t343 t344 (wrap64 (a1 - (wrap64 (1 + t338)))) a2 a3 (wrap64 (a4 - 1)) t345 t346 t347 w0 _ ?side1 ?side2 A32.out).mono ?_); (case side1 => repeat (first | (with_reducible first | exact HI0.out | apply IsS82.alloc | apply IsS82.drewN | apply IsS82.drew | apply IsS82.set_1 | apply IsS82.set_2) | exact HI0.out)); (case side2 => repeat (first | (with_reducible first | exact HB.out | apply below_alloc | apply pw_below_drewN | apply below_drew1 | refine below_set ?_ (IsS82.ge HI0.out)) | exact HB.out)); rintro e w38 ⟨rfl, hi, hb, hk⟩; refine ⟨_, rfl, ?_⟩; have n0_ := Aside0.mk (KeepBut.trans (by repeat (first | (with_reducible first | exact HK.out | apply KeepBut.set_ | apply keep_drewN | apply keep_drew | apply keep_alloc) | exact HK.out)) hk (.inl rfl)); have n1_ := Aside0.mk (hb); have n2_ := Aside0.mk (hi); clear HK; clear HB; clear HI0; have HK := n0_; have HB := n1_; have HI0 := n2_; clear n0_ n1_ n2_; (try clear hb); (try clear hk); (try clear hi)))
             go_ret
             exact ⟨by first | rfl | (simp [errW_none, errW_some] <;> rfl) | (simp [*, errW_none, errW_some] <;> rfl), by repeat (first | (with_reducible first | exact HI0.out | apply IsS82.alloc | apply IsS82.drewN | apply IsS82.drew | apply IsS82.set_1 | apply IsS82.set_2) | exact HI0.out), by repeat (first | (with_reducible first | exact HB.out | apply below_alloc | apply pw_below_drewN | apply below_drew1 | refine below_set ?_ (IsS82.ge HI0.out)) | exact HB.out), by repeat (first | (with_reducible first | exact HK.out | apply KeepBut.set_ | apply keep_drewN | apply keep_drew | apply keep_alloc) | exact HK.out)⟩
            ·rw [if_neg c34] at H
             exact absurd H (by simp)
           ·rw [if_neg c33] at H
            exact absurd H (by simp)
          ·rw [if_neg c31] at H
           exact absurd H (by simp)
         ·rw [if_neg c30] at H
          exact absurd H (by simp)
        ·rw [if_neg c28] at H
         exact absurd H (by simp)
       ·rw [if_neg c27] at H
        exact absurd H (by simp)
      ·replace c24 := Bool.eq_false_iff.mpr c24
       subst c24
       have H1 : (if a2 > 1 then ((spec_l01Next.f s0_0 x1001_18 x1002_18 (wrap64 (a2 - 1))).bind fun bt348 => ((spec_l01Dec.f kj18 (wrap64 (1 + bt348.1))).bind fun t351 => (if 1 + t351.size ≤ 9223372036854775807 then (if ((⟨#[45]⟩ : ByteArray) ++ t351).size + 1 ≤ 9223372036854775807 then ((spec_l12DrawText.f kj18 s0_0 bt348.2.1 bt348.2.2 a1 (wrap64 (1 + bt348.1)) a3 (wrap64 (a4 - 1))).bind fun bt352 => (if (((⟨#[45]⟩ : ByteArray) ++ t351) ++ (⟨#[40]⟩ : ByteArray)).size + bt352.1.size ≤ 9223372036854775807 then (if ((((⟨#[45]⟩ : ByteArray) ++ t351) ++ (⟨#[40]⟩ : ByteArray)) ++ bt352.1).size + 2 ≤ 9223372036854775807 then ((spec_l12DrawText.f kj18 s0_0 bt352.2.1 bt352.2.2 a1 (wrap64 (a2 - (wrap64 (1 + bt348.1)))) a3 (wrap64 (a4 - 1))).bind fun bt355 => (if (((((⟨#[45]⟩ : ByteArray) ++ t351) ++ (⟨#[40]⟩ : ByteArray)) ++ bt352.1) ++ (⟨#[41, 40]⟩ : ByteArray)).size + bt355.1.size ≤ 9223372036854775807 then (if ((((((⟨#[45]⟩ : ByteArray) ++ t351) ++ (⟨#[40]⟩ : ByteArray)) ++ bt352.1) ++ (⟨#[41, 40]⟩ : ByteArray)) ++ bt355.1).size + 1 ≤ 9223372036854775807 then (some (((((((⟨#[45]⟩ : ByteArray) ++ t351) ++ (⟨#[40]⟩ : ByteArray)) ++ bt352.1) ++ (⟨#[41, 40]⟩ : ByteArray)) ++ bt355.1) ++ (⟨#[41]⟩ : ByteArray), bt355.2.1, bt355.2.2)) else (none)) else (none))) else (none)) else (none))) else (none)) else (none)))) else (some ((⟨#[46]⟩ : ByteArray), x1001_18, x1002_18))) = some (r1, r2, r3) := by rw [if_neg (show ¬ (false = true) by decide)] at H; exact H
       clear H
       have H := H1
       clear H1
       by_cases c39 : a2 > 1
       ·rw [if_pos c39] at H
        have c39b0 : decide (1 < a2) = true := decide_eq_true c39
        clear c39
        replace H := Option.bind_eq_some_iff.mp H
        obtain ⟨⟨t348, t349, t350⟩, A400, H⟩ := H
        replace H : ((spec_l01Dec.f kj18 (wrap64 (1 + t348))).bind fun t351 => (if 1 + t351.size ≤ 9223372036854775807 then (if ((⟨#[45]⟩ : ByteArray) ++ t351).size + 1 ≤ 9223372036854775807 then ((spec_l12DrawText.f kj18 s0_0 t349 t350 a1 (wrap64 (1 + t348)) a3 (wrap64 (a4 - 1))).bind fun bt352 => (if (((⟨#[45]⟩ : ByteArray) ++ t351) ++ (⟨#[40]⟩ : ByteArray)).size + bt352.1.size ≤ 9223372036854775807 then (if ((((⟨#[45]⟩ : ByteArray) ++ t351) ++ (⟨#[40]⟩ : ByteArray)) ++ bt352.1).size + 2 ≤ 9223372036854775807 then ((spec_l12DrawText.f kj18 s0_0 bt352.2.1 bt352.2.2 a1 (wrap64 (a2 - (wrap64 (1 + t348)))) a3 (wrap64 (a4 - 1))).bind fun bt355 => (if (((((⟨#[45]⟩ : ByteArray) ++ t351) ++ (⟨#[40]⟩ : ByteArray)) ++ bt352.1) ++ (⟨#[41, 40]⟩ : ByteArray)).size + bt355.1.size ≤ 9223372036854775807 then (if ((((((⟨#[45]⟩ : ByteArray) ++ t351) ++ (⟨#[40]⟩ : ByteArray)) ++ bt352.1) ++ (⟨#[41, 40]⟩ : ByteArray)) ++ bt355.1).size + 1 ≤ 9223372036854775807 then (some (((((((⟨#[45]⟩ : ByteArray) ++ t351) ++ (⟨#[40]⟩ : ByteArray)) ++ bt352.1) ++ (⟨#[41, 40]⟩ : ByteArray)) ++ bt355.1) ++ (⟨#[41]⟩ : ByteArray), bt355.2.1, bt355.2.2)) else (none)) else (none))) else (none)) else (none))) else (none)) else (none))) = some (r1, r2, r3) := H
        have A40 := Aside0.mk A400
        clear A400
        replace H := Option.bind_eq_some_iff.mp H
        obtain ⟨t351, A410, H⟩ := H
        replace H : (if 1 + t351.size ≤ 9223372036854775807 then (if ((⟨#[45]⟩ : ByteArray) ++ t351).size + 1 ≤ 9223372036854775807 then ((spec_l12DrawText.f kj18 s0_0 t349 t350 a1 (wrap64 (1 + t348)) a3 (wrap64 (a4 - 1))).bind fun bt352 => (if (((⟨#[45]⟩ : ByteArray) ++ t351) ++ (⟨#[40]⟩ : ByteArray)).size + bt352.1.size ≤ 9223372036854775807 then (if ((((⟨#[45]⟩ : ByteArray) ++ t351) ++ (⟨#[40]⟩ : ByteArray)) ++ bt352.1).size + 2 ≤ 9223372036854775807 then ((spec_l12DrawText.f kj18 s0_0 bt352.2.1 bt352.2.2 a1 (wrap64 (a2 - (wrap64 (1 + t348)))) a3 (wrap64 (a4 - 1))).bind fun bt355 => (if (((((⟨#[45]⟩ : ByteArray) ++ t351) ++ (⟨#[40]⟩ : ByteArray)) ++ bt352.1) ++ (⟨#[41, 40]⟩ : ByteArray)).size + bt355.1.size ≤ 9223372036854775807 then (if ((((((⟨#[45]⟩ : ByteArray) ++ t351) ++ (⟨#[40]⟩ : ByteArray)) ++ bt352.1) ++ (⟨#[41, 40]⟩ : ByteArray)) ++ bt355.1).size + 1 ≤ 9223372036854775807 then (some (((((((⟨#[45]⟩ : ByteArray) ++ t351) ++ (⟨#[40]⟩ : ByteArray)) ++ bt352.1) ++ (⟨#[41, 40]⟩ : ByteArray)) ++ bt355.1) ++ (⟨#[41]⟩ : ByteArray), bt355.2.1, bt355.2.2)) else (none)) else (none))) else (none)) else (none))) else (none)) else (none)) = some (r1, r2, r3) := H
        have A41 := Aside0.mk A410
        clear A410
        by_cases c42 : 1 + t351.size ≤ 9223372036854775807
        ·rw [if_pos c42] at H
         have c42b0 := eq_true c42
         have c42b1 : decide (1 + t351.size ≤ 9223372036854775807) = true := decide_eq_true c42
         try have c42b2 : (9223372036854775807 < 1 + t351.size) = False := eq_false (Nat.not_lt.2 c42)
         by_cases c43 : ((⟨#[45]⟩ : ByteArray) ++ t351).size + 1 ≤ 9223372036854775807
         ·rw [if_pos c43] at H
          have c43b0 := eq_true c43
          have c43b1 : decide (((⟨#[45]⟩ : ByteArray) ++ t351).size + 1 ≤ 9223372036854775807) = true := decide_eq_true c43
          try have c43b2 : (9223372036854775807 < ((⟨#[45]⟩ : ByteArray) ++ t351).size + 1) = False := eq_false (Nat.not_lt.2 c43)
          try have c43b6 : (9223372036854775807 < 1 + t351.size + 1) = False := (by have h_ := c43b2; simp only [ByteArray.size_append] at h_; exact h_)
          try have c43b3 : (9223372036854775807 < ((⟨#[45]⟩ : ByteArray) ++ t351).size + 1) = False := c43b2
          try simp only [ByteArray.size_append] at c43b3
          replace H := Option.bind_eq_some_iff.mp H
          obtain ⟨⟨t352, t353, t354⟩, A440, H⟩ := H
          replace H : (if (((⟨#[45]⟩ : ByteArray) ++ t351) ++ (⟨#[40]⟩ : ByteArray)).size + t352.size ≤ 9223372036854775807 then (if ((((⟨#[45]⟩ : ByteArray) ++ t351) ++ (⟨#[40]⟩ : ByteArray)) ++ t352).size + 2 ≤ 9223372036854775807 then ((spec_l12DrawText.f kj18 s0_0 t353 t354 a1 (wrap64 (a2 - (wrap64 (1 + t348)))) a3 (wrap64 (a4 - 1))).bind fun bt355 => (if (((((⟨#[45]⟩ : ByteArray) ++ t351) ++ (⟨#[40]⟩ : ByteArray)) ++ t352) ++ (⟨#[41, 40]⟩ : ByteArray)).size + bt355.1.size ≤ 9223372036854775807 then (if ((((((⟨#[45]⟩ : ByteArray) ++ t351) ++ (⟨#[40]⟩ : ByteArray)) ++ t352) ++ (⟨#[41, 40]⟩ : ByteArray)) ++ bt355.1).size + 1 ≤ 9223372036854775807 then (some (((((((⟨#[45]⟩ : ByteArray) ++ t351) ++ (⟨#[40]⟩ : ByteArray)) ++ t352) ++ (⟨#[41, 40]⟩ : ByteArray)) ++ bt355.1) ++ (⟨#[41]⟩ : ByteArray), bt355.2.1, bt355.2.2)) else (none)) else (none))) else (none)) else (none)) = some (r1, r2, r3) := H
          have A44 := Aside0.mk A440
          clear A440
          by_cases c45 : (((⟨#[45]⟩ : ByteArray) ++ t351) ++ (⟨#[40]⟩ : ByteArray)).size + t352.size ≤ 9223372036854775807
          ·rw [if_pos c45] at H
           have c45b0 := eq_true c45
           have c45b1 : decide ((((⟨#[45]⟩ : ByteArray) ++ t351) ++ (⟨#[40]⟩ : ByteArray)).size + t352.size ≤ 9223372036854775807) = true := decide_eq_true c45
           try have c45b2 : (9223372036854775807 < (((⟨#[45]⟩ : ByteArray) ++ t351) ++ (⟨#[40]⟩ : ByteArray)).size + t352.size) = False := eq_false (Nat.not_lt.2 c45)
           try have c45b6 : (9223372036854775807 < 1 + t351.size + 1 + t352.size) = False := (by have h_ := c45b2; simp only [ByteArray.size_append] at h_; exact h_)
           try have c45b3 : (9223372036854775807 < (((⟨#[45]⟩ : ByteArray) ++ t351) ++ (⟨#[40]⟩ : ByteArray)).size + t352.size) = False := c45b2
           try simp only [ByteArray.size_append] at c45b3
           by_cases c46 : ((((⟨#[45]⟩ : ByteArray) ++ t351) ++ (⟨#[40]⟩ : ByteArray)) ++ t352).size + 2 ≤ 9223372036854775807
           ·rw [if_pos c46] at H
            have c46b0 := eq_true c46
            have c46b1 : decide (((((⟨#[45]⟩ : ByteArray) ++ t351) ++ (⟨#[40]⟩ : ByteArray)) ++ t352).size + 2 ≤ 9223372036854775807) = true := decide_eq_true c46
            try have c46b2 : (9223372036854775807 < ((((⟨#[45]⟩ : ByteArray) ++ t351) ++ (⟨#[40]⟩ : ByteArray)) ++ t352).size + 2) = False := eq_false (Nat.not_lt.2 c46)
            try have c46b6 : (9223372036854775807 < 1 + t351.size + 1 + t352.size + 2) = False := (by have h_ := c46b2; simp only [ByteArray.size_append] at h_; exact h_)
            try have c46b3 : (9223372036854775807 < ((((⟨#[45]⟩ : ByteArray) ++ t351) ++ (⟨#[40]⟩ : ByteArray)) ++ t352).size + 2) = False := c46b2
            try simp only [ByteArray.size_append] at c46b3
            replace H := Option.bind_eq_some_iff.mp H
            obtain ⟨⟨t355, t356, t357⟩, A470, H⟩ := H
            replace H : (if (((((⟨#[45]⟩ : ByteArray) ++ t351) ++ (⟨#[40]⟩ : ByteArray)) ++ t352) ++ (⟨#[41, 40]⟩ : ByteArray)).size + t355.size ≤ 9223372036854775807 then (if ((((((⟨#[45]⟩ : ByteArray) ++ t351) ++ (⟨#[40]⟩ : ByteArray)) ++ t352) ++ (⟨#[41, 40]⟩ : ByteArray)) ++ t355).size + 1 ≤ 9223372036854775807 then (some (((((((⟨#[45]⟩ : ByteArray) ++ t351) ++ (⟨#[40]⟩ : ByteArray)) ++ t352) ++ (⟨#[41, 40]⟩ : ByteArray)) ++ t355) ++ (⟨#[41]⟩ : ByteArray), t356, t357)) else (none)) else (none)) = some (r1, r2, r3) := H
            have A47 := Aside0.mk A470
            clear A470
            by_cases c48 : (((((⟨#[45]⟩ : ByteArray) ++ t351) ++ (⟨#[40]⟩ : ByteArray)) ++ t352) ++ (⟨#[41, 40]⟩ : ByteArray)).size + t355.size ≤ 9223372036854775807
            ·rw [if_pos c48] at H
             have c48b0 := eq_true c48
             have c48b1 : decide ((((((⟨#[45]⟩ : ByteArray) ++ t351) ++ (⟨#[40]⟩ : ByteArray)) ++ t352) ++ (⟨#[41, 40]⟩ : ByteArray)).size + t355.size ≤ 9223372036854775807) = true := decide_eq_true c48
             try have c48b2 : (9223372036854775807 < (((((⟨#[45]⟩ : ByteArray) ++ t351) ++ (⟨#[40]⟩ : ByteArray)) ++ t352) ++ (⟨#[41, 40]⟩ : ByteArray)).size + t355.size) = False := eq_false (Nat.not_lt.2 c48)
             try have c48b6 : (9223372036854775807 < 1 + t351.size + 1 + t352.size + 2 + t355.size) = False := (by have h_ := c48b2; simp only [ByteArray.size_append] at h_; exact h_)
             try have c48b3 : (9223372036854775807 < (((((⟨#[45]⟩ : ByteArray) ++ t351) ++ (⟨#[40]⟩ : ByteArray)) ++ t352) ++ (⟨#[41, 40]⟩ : ByteArray)).size + t355.size) = False := c48b2
             try simp only [ByteArray.size_append] at c48b3
             by_cases c49 : ((((((⟨#[45]⟩ : ByteArray) ++ t351) ++ (⟨#[40]⟩ : ByteArray)) ++ t352) ++ (⟨#[41, 40]⟩ : ByteArray)) ++ t355).size + 1 ≤ 9223372036854775807
             ·rw [if_pos c49] at H
              have c49b0 := eq_true c49
              have c49b1 : decide (((((((⟨#[45]⟩ : ByteArray) ++ t351) ++ (⟨#[40]⟩ : ByteArray)) ++ t352) ++ (⟨#[41, 40]⟩ : ByteArray)) ++ t355).size + 1 ≤ 9223372036854775807) = true := decide_eq_true c49
              try have c49b2 : (9223372036854775807 < ((((((⟨#[45]⟩ : ByteArray) ++ t351) ++ (⟨#[40]⟩ : ByteArray)) ++ t352) ++ (⟨#[41, 40]⟩ : ByteArray)) ++ t355).size + 1) = False := eq_false (Nat.not_lt.2 c49)
              try have c49b6 : (9223372036854775807 < 1 + t351.size + 1 + t352.size + 2 + t355.size + 1) = False := (by have h_ := c49b2; simp only [ByteArray.size_append] at h_; exact h_)
              try have c49b3 : (9223372036854775807 < ((((((⟨#[45]⟩ : ByteArray) ++ t351) ++ (⟨#[40]⟩ : ByteArray)) ++ t352) ++ (⟨#[41, 40]⟩ : ByteArray)) ++ t355).size + 1) = False := c49b2
              try simp only [ByteArray.size_append] at c49b3
              simp only [Option.some.injEq, Prod.mk.injEq] at H
              obtain ⟨rfl, rfl, rfl⟩ := H
              go_wp2_with (first | ((with_reducible refine gate_callee (f := 59) rfl ?_); refine goesL_ (some 73) rfl rfl Tryd.func59 (by kernel_rfl) rfl #[.pointer (some ⟨g, 0, none⟩), .int .i64 (wrap64 (a2 - 1))] rfl (by (try simp only [List.map_toArray, List.map_cons, List.map_nil]); first | done | rfl | (simp only [List.length_drop, List.length_take]; rfl)) ?_; (with_reducible refine (spec_l01Next.calls g s0_0 x1001_18 x1002_18 (wrap64 (a2 - 1)) t348 t349 t350 w0 _ ?side1 ?side2 A40.out).mono ?_); (case side1 => repeat (first | (with_reducible first | exact HI0.out | apply IsS82.alloc | apply IsS82.drewN | apply IsS82.drew | apply IsS82.set_1 | apply IsS82.set_2) | exact HI0.out)); (case side2 => repeat (first | (with_reducible first | exact HB.out | apply below_alloc | apply pw_below_drewN | apply below_drew1 | refine below_set ?_ (IsS82.ge HI0.out)) | exact HB.out)); rintro e w50 ⟨rfl, hi, hb, hk⟩; refine ⟨_, rfl, ?_⟩; have n0_ := Aside0.mk (KeepBut.trans (by repeat (first | (with_reducible first | exact HK.out | apply KeepBut.set_ | apply keep_drewN | apply keep_drew | apply keep_alloc) | exact HK.out)) hk (.inl rfl)); have n1_ := Aside0.mk (hb); have n2_ := Aside0.mk (hi); clear HK; clear HB; clear HI0; have HK := n0_; have HB := n1_; have HI0 := n2_; clear n0_ n1_ n2_; (try clear hb); (try clear hk); (try clear hi)) | ((with_reducible refine gate_callee (f := 57) rfl ?_); refine goesL_ (some 76) rfl rfl Tryd.func57 (by kernel_rfl) rfl #[.int .i64 (wrap64 (1 + t348))] rfl (by (try simp only [List.map_toArray, List.map_cons, List.map_nil]); first | done | rfl | (simp only [List.length_drop, List.length_take]; rfl)) ?_; (with_reducible refine (spec_l01Dec.calls kj18 (wrap64 (1 + t348)) t351 _ A41.out).mono ?_); rintro e w51 ⟨rfl, hb⟩; refine ⟨_, rfl, ?_⟩; have n0_ := Aside0.mk (IsS82.below (by repeat (first | (with_reducible first | exact HI0.out | apply IsS82.alloc | apply IsS82.drewN | apply IsS82.drew | apply IsS82.set_1 | apply IsS82.set_2) | exact HI0.out)) hb); have n1_ := Aside0.mk (KeepBut.trans (by repeat (first | (with_reducible first | exact HK.out | apply KeepBut.set_ | apply keep_drewN | apply keep_drew | apply keep_alloc) | exact HK.out)) (KeepBut.of_below hb g none) (.inl rfl)); have n2_ := Aside0.mk (below_step (by repeat (first | (with_reducible first | exact HB.out | apply below_alloc | apply pw_below_drewN | apply below_drew1 | refine below_set ?_ (IsS82.ge HI0.out)) | exact HB.out)) hb); clear HI0; clear HK; clear HB; have HI0 := n0_; have HK := n1_; have HB := n2_; clear n0_ n1_ n2_; (try clear hb); (try clear hk); (try clear hi)) | ((with_reducible refine gate_callee (f := 62) rfl ?_); refine goesL_ (some 85) rfl rfl Tryd.func62 (by kernel_rfl) rfl #[.pointer (some ⟨g, 0, none⟩), .int .i64 a1, .int .i64 (wrap64 (1 + t348)), .int .i64 a3, .int .i64 (wrap64 (a4 - 1))] rfl (by (try simp only [List.map_toArray, List.map_cons, List.map_nil]); first | done | rfl | (simp only [List.length_drop, List.length_take]; rfl)) ?_; (with_reducible refine (ih kj18 (by have := HJ5.out; have := HJ18.out; omega) g s0_0 t349 t350 a1 (wrap64 (1 + t348)) a3 (wrap64 (a4 - 1)) t352 t353 t354 w0 _ ?side1 ?side2 A44.out).mono ?_); (case side1 => repeat (first | (with_reducible first | exact HI0.out | apply IsS82.alloc | apply IsS82.drewN | apply IsS82.drew | apply IsS82.set_1 | apply IsS82.set_2) | exact HI0.out)); (case side2 => repeat (first | (with_reducible first | exact HB.out | apply below_alloc | apply pw_below_drewN | apply below_drew1 | refine below_set ?_ (IsS82.ge HI0.out)) | exact HB.out)); rintro e w52 ⟨rfl, hi, hb, hk⟩; refine ⟨_, rfl, ?_⟩; have n0_ := Aside0.mk (KeepBut.trans (by repeat (first | (with_reducible first | exact HK.out | apply KeepBut.set_ | apply keep_drewN | apply keep_drew | apply keep_alloc) | exact HK.out)) hk (.inl rfl)); have n1_ := Aside0.mk (hb); have n2_ := Aside0.mk (hi); clear HK; clear HB; clear HI0; have HK := n0_; have HB := n1_; have HI0 := n2_; clear n0_ n1_ n2_; (try clear hb); (try clear hk); (try clear hi)) | ((with_reducible refine gate_callee (f := 62) rfl ?_); refine goesL_ (some 96) rfl rfl Tryd.func62 (by kernel_rfl) rfl #[.pointer (some ⟨g, 0, none⟩), .int .i64 a1, .int .i64 (wrap64 (a2 - (wrap64 (1 + t348)))), .int .i64 a3, .int .i64 (wrap64 (a4 - 1))] rfl (by (try simp only [List.map_toArray, List.map_cons, List.map_nil]); first | done | rfl | (simp only [List.length_drop, List.length_take]; rfl)) ?_; (with_reducible refine (ih kj18 (by have := HJ5.out; have := HJ18.out; omega) g s0_0 t353 t354 a1 (wrap64 (a2 - (wrap64 (1 + t348)))) a3 (wrap64 (a4 - 1)) t355 t356 t357 w0 _ ?side1 ?side2 A47.out).mono ?_); (case side1 => repeat (first | (with_reducible first | exact HI0.out | apply IsS82.alloc | apply IsS82.drewN | apply IsS82.drew | apply IsS82.set_1 | apply IsS82.set_2) | exact HI0.out)); (case side2 => repeat (first | (with_reducible first | exact HB.out | apply below_alloc | apply pw_below_drewN | apply below_drew1 | refine below_set ?_ (IsS82.ge HI0.out)) | exact HB.out)); rintro e w53 ⟨rfl, hi, hb, hk⟩; refine ⟨_, rfl, ?_⟩; have n0_ := Aside0.mk (KeepBut.trans (by repeat (first | (with_reducible first | exact HK.out | apply KeepBut.set_ | apply keep_drewN | apply keep_drew | apply keep_alloc) | exact HK.out)) hk (.inl rfl)); have n1_ := Aside0.mk (hb); have n2_ := Aside0.mk (hi); clear HK; clear HB; clear HI0; have HK := n0_; have HB := n1_; have HI0 := n2_; clear n0_ n1_ n2_; (try clear hb); (try clear hk); (try clear hi)))
              go_ret
              exact ⟨by first | rfl | (simp [errW_none, errW_some] <;> rfl) | (simp [*, errW_none, errW_some] <;> rfl), by repeat (first | (with_reducible first | exact HI0.out | apply IsS82.alloc | apply IsS82.drewN | apply IsS82.drew | apply IsS82.set_1 | apply IsS82.set_2) | exact HI0.out), by repeat (first | (with_reducible first | exact HB.out | apply below_alloc | apply pw_below_drewN | apply below_drew1 | refine below_set ?_ (IsS82.ge HI0.out)) | exact HB.out), by repeat (first | (with_reducible first | exact HK.out | apply KeepBut.set_ | apply keep_drewN | apply keep_drew | apply keep_alloc) | exact HK.out)⟩
             ·rw [if_neg c49] at H
              exact absurd H (by simp)
            ·rw [if_neg c48] at H
             exact absurd H (by simp)
           ·rw [if_neg c46] at H
            exact absurd H (by simp)
          ·rw [if_neg c45] at H
           exact absurd H (by simp)
         ·rw [if_neg c43] at H
          exact absurd H (by simp)
        ·rw [if_neg c42] at H
         exact absurd H (by simp)
       ·rw [if_neg c39] at H
        have c39b0 : decide (1 < a2) = false := decide_eq_false c39
        clear c39
        simp only [Option.some.injEq, Prod.mk.injEq] at H
        obtain ⟨rfl, rfl, rfl⟩ := H
        go_wp2
        go_ret
        exact ⟨by first | rfl | (simp [errW_none, errW_some] <;> rfl) | (simp [*, errW_none, errW_some] <;> rfl), by repeat (first | (with_reducible first | exact HI0.out | apply IsS82.alloc | apply IsS82.drewN | apply IsS82.drew | apply IsS82.set_1 | apply IsS82.set_2) | exact HI0.out), by repeat (first | (with_reducible first | exact HB.out | apply below_alloc | apply pw_below_drewN | apply below_drew1 | refine below_set ?_ (IsS82.ge HI0.out)) | exact HB.out), by repeat (first | (with_reducible first | exact HK.out | apply KeepBut.set_ | apply keep_drewN | apply keep_drew | apply keep_alloc) | exact HK.out)⟩

end Go.Proofs.YtomddpdfcdnaaaaDoor.PFnPlanValues
