-- Written by a program of this session.
import Derived.Test.YtdelnmbfokipoaaPFnHolesx0
import Derived.Test.YtdelnmbfokipoaaPFnHolesx1
import Derived.Test.YtdelnmbfokipoaaPFnHolesx2
import Derived.RangeFuncBox
import Derived.RangeFuncLeaves
import Derived.Shelf.Abstract
import Derived.WalkKit
import Derived.OwnWalkIn
import Derived.TacticsInMore
import Derived.LoopNIn
import Derived.LoopIn
import Derived.Shelf.RegionOpen
namespace Go.Proofs.Ytdelnmbfokipoaa.PFnHoles
open Go.RowKit Go.Proofs.YtdelnmbfokipoaaW.PrintWords Go.Proofs.YtdelnmbfokipoaaW.PrintLast Go.Proofs.YtdelnmbfokipoaaW.PrintMore
attribute [local go_sem] max2_int min2_int max_two min_two max_three min_three max_four min_four   -- for this text's walks alone
set_option linter.unusedVariables false
set_option linter.unusedSimpArgs false

/-! ### impl_EvenHoles: function 22 -/
mutual
def impl_EvenHoles.j0 : Nat → Int → Int → Int → Bool → Option (List Int × Int)
  | 0, _, _, _, _ => none
  | k + 1, x0, x1, x2, x23 => if x23 = true then (some (([] : List Int), 2)) else (impl_EvenHoles.l0 k x0 x1 x2 (([] : List Int)) x1 0)
def impl_EvenHoles.l0 : Nat → Int → Int → Int → List Int → Int → Int → Option (List Int × Int)
  | 0, _, _, _, _, _, _ => none
  | k + 1, x0, x1, x2, x8, x25, x26 => if x26 < x25 then (if (wrap64 (x1 - 1)) = 0 then (none) else (if x8.length < 17592186044416 then (impl_EvenHoles.l0 k x0 x1 x2 (x8 ++ [wrap64 (x2 + (wrap64 (Int.tdiv (wrap64 (x26 * (wrap64 (x0 - (wrap64 (2 * x2)))))) (wrap64 (x1 - 1)))))]) x25 (wrap64 (x26 + 1))) else (none))) else ((impl_AreHoles.f k x8).bind fun t137 => (if t137 = true then (some (x8, 0)) else (some (([] : List Int), 5))))
end
def impl_EvenHoles.f (k : Nat) (a0 : Int) (a1 : Int) (a2 : Int) : Option (List Int × Int) := (impl_inRange.f a0 1 20000).bind fun t128 => (if t128 = true then ((impl_inRange.f a1 2 12).bind fun t129 => (if t129 = true then ((impl_inRange.f a2 0 a0).bind fun t130 => (impl_EvenHoles.j0 k a0 a1 a2 (!t130))) else (impl_EvenHoles.j0 k a0 a1 a2 true))) else (impl_EvenHoles.j0 k a0 a1 a2 true))
theorem impl_EvenHoles.mono_l : ∀ k, (∀ y0 y1 y2 y3, LeO (impl_EvenHoles.j0 k y0 y1 y2 y3) (impl_EvenHoles.j0 (k + 1) y0 y1 y2 y3)) ∧ (∀ y0 y1 y2 y3 y4 y5, LeO (impl_EvenHoles.l0 k y0 y1 y2 y3 y4 y5) (impl_EvenHoles.l0 (k + 1) y0 y1 y2 y3 y4 y5))
  | 0 => ⟨fun _ _ _ _ r h => by simp [impl_EvenHoles.j0] at h, fun _ _ _ _ _ _ r h => by simp [impl_EvenHoles.l0] at h⟩
  | k + 1 => by
    obtain ⟨ih0, ih1⟩ := impl_EvenHoles.mono_l k
    refine ⟨?_, ?_⟩
    · intro y0 y1 y2 y3
      unfold impl_EvenHoles.j0
      repeat' first
      | (with_reducible exact ih0 _ _ _ _)
      | (with_reducible exact ih1 _ _ _ _ _ _)
      | (with_reducible exact impl_AreHoles.mono _ _)
      | (with_reducible exact LeO.refl _)
      | (with_reducible exact LeO.none _)
      | (with_reducible refine LeO.ite ?_ ?_)
      | (with_reducible refine LeO.bind ?_ (fun _ => ?_))
      | exact ih0 _ _ _ _
      | exact ih1 _ _ _ _ _ _
      | exact impl_AreHoles.mono _ _
      | exact LeO.none _
      | refine LeO.ite ?_ ?_
      | refine LeO.bind ?_ (fun _ => ?_)
    · intro y0 y1 y2 y3 y4 y5
      unfold impl_EvenHoles.l0
      repeat' first
      | (with_reducible exact ih0 _ _ _ _)
      | (with_reducible exact ih1 _ _ _ _ _ _)
      | (with_reducible exact impl_AreHoles.mono _ _)
      | (with_reducible exact LeO.refl _)
      | (with_reducible exact LeO.none _)
      | (with_reducible refine LeO.ite ?_ ?_)
      | (with_reducible refine LeO.bind ?_ (fun _ => ?_))
      | exact ih0 _ _ _ _
      | exact ih1 _ _ _ _ _ _
      | exact impl_AreHoles.mono _ _
      | exact LeO.none _
      | refine LeO.ite ?_ ?_
      | refine LeO.bind ?_ (fun _ => ?_)
theorem impl_EvenHoles.mono : ∀ a0 a1 a2 k, LeO (impl_EvenHoles.f k a0 a1 a2) (impl_EvenHoles.f (k + 1) a0 a1 a2) := by
  intro a0 a1 a2 k
  obtain ⟨ih0, ih1⟩ := impl_EvenHoles.mono_l k
  unfold impl_EvenHoles.f
  repeat' first
      | (with_reducible exact ih0 _ _ _ _)
      | (with_reducible exact ih1 _ _ _ _ _ _)
      | (with_reducible exact impl_AreHoles.mono _ _)
      | (with_reducible exact LeO.refl _)
      | (with_reducible exact LeO.none _)
      | (with_reducible refine LeO.ite ?_ ?_)
      | (with_reducible refine LeO.bind ?_ (fun _ => ?_))
      | exact ih0 _ _ _ _
      | exact ih1 _ _ _ _ _ _
      | exact impl_AreHoles.mono _ _
      | exact LeO.none _
      | refine LeO.ite ?_ ?_
      | refine LeO.bind ?_ (fun _ => ?_)
set_option maxHeartbeats 8000000 in
set_option maxRecDepth 100000 in
theorem impl_EvenHoles.calls (k : Nat) (a0 : Int) (a1 : Int) (a2 : Int) (r1 : List Int) (r2 : Int) (w : World) (h : impl_EvenHoles.f k a0 a1 a2 = some (r1, r2)) :
    Calls Try.prog 22 #[.int .i64 a0, .int .i64 a1, .int .i64 a2] w fun e w' => ∃ v0_ : Value, e = .returned (.tuple #[v0_, .int .i64 r2]) ∧ Kd.R (Kd.int .i64) 2 w' w.heap.size (fun _ => True) v0_ r1 ∧ Below w.heap.size w w' := by
  have HB := Aside0.mk (Below.refl w.heap.size w)
  have H : ((impl_inRange.f a0 1 20000).bind fun t128 => (if t128 = true then ((impl_inRange.f a1 2 12).bind fun t129 => (if t129 = true then ((impl_inRange.f a2 0 a0).bind fun t130 => (impl_EvenHoles.j0 k a0 a1 a2 (!t130))) else (impl_EvenHoles.j0 k a0 a1 a2 true))) else (impl_EvenHoles.j0 k a0 a1 a2 true))) = some (r1, r2) := h
  clear h
  have HC4 := Aside0.mk H
  clear H
  go_enter Try.func22, Try.ntmps22
  go_upto_region 1 with (fail)
  go_cut [23] (fun v23 wc => ∃ (kq : Nat) (x23_3 : Bool), v23 = .bool x23_3 ∧ Aside0 (impl_EvenHoles.j0 kq a0 a1 a2 x23_3 = some (r1, r2)) ∧ Aside0 (kq ≤ k) ∧ Aside0 (Below w.heap.size w wc))
  case first =>
    have H := HC4.out
    clear HC4
    replace H := Option.bind_eq_some_iff.mp H
    obtain ⟨t128, A50, H⟩ := H
    replace H : (if t128 = true then ((impl_inRange.f a1 2 12).bind fun t129 => (if t129 = true then ((impl_inRange.f a2 0 a0).bind fun t130 => (impl_EvenHoles.j0 k a0 a1 a2 (!t130))) else (impl_EvenHoles.j0 k a0 a1 a2 true))) else (impl_EvenHoles.j0 k a0 a1 a2 true)) = some (r1, r2) := H
    have A5 := Aside0.mk A50
    clear A50
    by_cases c6 : t128 = true
    · subst c6
      have H1 : ((impl_inRange.f a1 2 12).bind fun t129 => (if t129 = true then ((impl_inRange.f a2 0 a0).bind fun t130 => (impl_EvenHoles.j0 k a0 a1 a2 (!t130))) else (impl_EvenHoles.j0 k a0 a1 a2 true))) = some (r1, r2) := by rw [if_pos rfl] at H; exact H
      clear H
      have H := H1
      clear H1
      replace H := Option.bind_eq_some_iff.mp H
      obtain ⟨t129, A70, H⟩ := H
      replace H : (if t129 = true then ((impl_inRange.f a2 0 a0).bind fun t130 => (impl_EvenHoles.j0 k a0 a1 a2 (!t130))) else (impl_EvenHoles.j0 k a0 a1 a2 true)) = some (r1, r2) := H
      have A7 := Aside0.mk A70
      clear A70
      by_cases c8 : t129 = true
      · subst c8
        have H1 : ((impl_inRange.f a2 0 a0).bind fun t130 => (impl_EvenHoles.j0 k a0 a1 a2 (!t130))) = some (r1, r2) := by rw [if_pos rfl] at H; exact H
        clear H
        have H := H1
        clear H1
        replace H := Option.bind_eq_some_iff.mp H
        obtain ⟨t130, A90, H⟩ := H
        replace H : (impl_EvenHoles.j0 k a0 a1 a2 (!t130)) = some (r1, r2) := H
        have A9 := Aside0.mk A90
        clear A90
        have H' := Aside0.mk H
        clear H
        go_wp2_with (first | ((with_reducible refine gate_callee (f := 53) rfl ?_); refine goesL_ (some 11) rfl rfl Try.func53 (by kernel_rfl) rfl #[.int .i64 a0, .int .i64 1, .int .i64 20000] rfl (by (try simp only [List.map_toArray, List.map_cons, List.map_nil]); first | done | rfl | (simp only [List.length_drop, List.length_take]; rfl)) ?_; (with_reducible refine (impl_inRange.calls a0 1 20000 true _ A5.out).mono ?_); rintro e w' ⟨rfl, ⟨nd, rfl⟩⟩; refine ⟨_, rfl, ?_⟩) | (go_at_call 53; (with_reducible refine (impl_inRange.calls a1 2 12 true _ A7.out).mono ?_); rintro e w' ⟨rfl, ⟨nd, rfl⟩⟩) | (go_at_call 53; (with_reducible refine (impl_inRange.calls a2 0 a0 t130 _ A9.out).mono ?_); rintro e w' ⟨rfl, ⟨nd, rfl⟩⟩))
        go_meet
        case rel => exact ⟨_, (!t130), (by first | rfl | (simp; done) | (simp [*]; done)), H', ⟨by first | omega | exact Nat.le_refl _⟩, ⟨by repeat (first | (with_reducible first | exact HB.out | apply below_alloc | apply pw_below_drewN | apply below_drew1) | exact HB.out)⟩⟩
      · replace c8 := Bool.eq_false_iff.mpr c8
        subst c8
        have H1 : (impl_EvenHoles.j0 k a0 a1 a2 true) = some (r1, r2) := by rw [if_neg (show ¬ (false = true) by decide)] at H; exact H
        clear H
        have H := H1
        clear H1
        have H' := Aside0.mk H
        clear H
        go_wp2_with (first | ((with_reducible refine gate_callee (f := 53) rfl ?_); refine goesL_ (some 11) rfl rfl Try.func53 (by kernel_rfl) rfl #[.int .i64 a0, .int .i64 1, .int .i64 20000] rfl (by (try simp only [List.map_toArray, List.map_cons, List.map_nil]); first | done | rfl | (simp only [List.length_drop, List.length_take]; rfl)) ?_; (with_reducible refine (impl_inRange.calls a0 1 20000 true _ A5.out).mono ?_); rintro e w' ⟨rfl, ⟨nd, rfl⟩⟩; refine ⟨_, rfl, ?_⟩) | (go_at_call 53; (with_reducible refine (impl_inRange.calls a1 2 12 false _ A7.out).mono ?_); rintro e w' ⟨rfl, ⟨nd, rfl⟩⟩))
        go_meet
        case rel => exact ⟨_, (true), (by first | rfl | (simp; done) | (simp [*]; done)), H', ⟨by first | omega | exact Nat.le_refl _⟩, ⟨by repeat (first | (with_reducible first | exact HB.out | apply below_alloc | apply pw_below_drewN | apply below_drew1) | exact HB.out)⟩⟩
    · replace c6 := Bool.eq_false_iff.mpr c6
      subst c6
      have H1 : (impl_EvenHoles.j0 k a0 a1 a2 true) = some (r1, r2) := by rw [if_neg (show ¬ (false = true) by decide)] at H; exact H
      clear H
      have H := H1
      clear H1
      have H' := Aside0.mk H
      clear H
      go_wp2_with (first | ((with_reducible refine gate_callee (f := 53) rfl ?_); refine goesL_ (some 11) rfl rfl Try.func53 (by kernel_rfl) rfl #[.int .i64 a0, .int .i64 1, .int .i64 20000] rfl (by (try simp only [List.map_toArray, List.map_cons, List.map_nil]); first | done | rfl | (simp only [List.length_drop, List.length_take]; rfl)) ?_; (with_reducible refine (impl_inRange.calls a0 1 20000 false _ A5.out).mono ?_); rintro e w' ⟨rfl, ⟨nd, rfl⟩⟩; refine ⟨_, rfl, ?_⟩))
      go_meet
      case rel => exact ⟨_, (true), (by first | rfl | (simp; done) | (simp [*]; done)), H', ⟨by first | omega | exact Nat.le_refl _⟩, ⟨by repeat (first | (with_reducible first | exact HB.out | apply below_alloc | apply pw_below_drewN | apply below_drew1) | exact HB.out)⟩⟩
  case rest =>
    clear HC4
    try clear c2
    try clear p2
    try clear c5
    try clear c6
    try clear c8
    obtain ⟨kq, x23_3, rfl, HA, HJ3, HB⟩ := hcut
    cases kq with
    | zero => exact absurd HA.out (by simp [impl_EvenHoles.j0])
    | succ kj3 =>
      have H := HA.out
      clear HA
      simp only [impl_EvenHoles.j0] at H
      by_cases c10 : x23_3 = true
      · subst c10
        have H1 : (some (([] : List Int), 2)) = some (r1, r2) := by rw [if_pos rfl] at H; exact H
        clear H
        have H := H1
        clear H1
        simp only [Option.some.injEq, Prod.mk.injEq] at H
        obtain ⟨rfl, rfl⟩ := H
        go_wp2
        go_ret2
        exact ⟨_, by first | rfl | (simp [errW_none, errW_some] <;> rfl) | (simp [*, errW_none, errW_some] <;> rfl), by first | exact Kd.R_nil _ _ _ _ _ | exact Kd.N_nil _ _ _ _ _ | exact Kd.V_nil _ _ _ _ _ | exact Kd.Q_nil _ _ _ _ _ | exact Kd.S_nil _ _ _ _ _, by repeat (first | (with_reducible first | exact HB.out | apply below_alloc | apply pw_below_drewN | apply below_drew1) | exact HB.out)⟩
      · replace c10 := Bool.eq_false_iff.mpr c10
        subst c10
        have H1 : (impl_EvenHoles.l0 kj3 a0 a1 a2 (([] : List Int)) a1 0) = some (r1, r2) := by rw [if_neg (show ¬ (false = true) by decide)] at H; exact H
        clear H
        have H := H1
        clear H1
        obtain ⟨y131, hy131⟩ : ∃ y_ : List Int, y_ = (([] : List Int)) := ⟨_, rfl⟩
        replace H : (impl_EvenHoles.l0 kj3 a0 a1 a2 y131 a1 0) = some (r1, r2) := by first | (rw [hy131]; with_reducible exact H) | (have H2_ := (Option.bind_some _ _).symm.trans H; rw [hy131]; with_reducible exact H2_) | (have H2_ := (Option.bind_some _ _).symm.trans H; with_reducible exact H2_) | with_reducible exact H | (rw [hy131]; exact H) | exact H
        have Ny131 := Aside0.mk hy131
        clear hy131
        have H' := Aside0.mk H
        clear H
        go_wp2_with (first | ((with_reducible refine gate_dst (N := 24) rfl ?_); refine Kd.R_lit (Kd.int .i64) _ 2 ?hg (N := 24) ?hd (xs := ([] : List Int)) (inner := []) (ok := fun _ => True) (okp := fun _ => True) ?hr ?hp (fun _ hk => hk) trivial (Below.refl _ _) (Nat.le_refl _) (by simp) ?_; (case hd => rfl); (case hg => rfl); (case hr => first | (go_simp; done) | (go_simp; rfl)); (case hp => exact (Reps.none _ _)); intro v132 w11 ho12 hb hg_ hnew_; clear hg_ hnew_; (first | rw [← Ny131.out] at ho12 | (simp only [Int.reduceToNat] at ho12; rw [← Ny131.out] at ho12)); have n0_ := Aside0.mk (Kd.R_lower ho12 (below_size (by repeat (first | (with_reducible first | exact HB.out | apply below_alloc | apply pw_below_drewN | apply below_drew1) | exact HB.out)))); have n1_ := Aside0.mk (below_step (by repeat (first | (with_reducible first | exact HB.out | apply below_alloc | apply pw_below_drewN | apply below_drew1) | exact HB.out)) hb); clear HB; have HO133 := n0_; have HB := n1_; clear n0_ n1_; clear hb ho12))
        go_loopg [8, 26] kj3 (fun kq v8 v26 w' => ∃ (x8_2 : List Int) (x26_2 : Int), v26 = .int .i64 x26_2 ∧ Aside0 (impl_EvenHoles.l0 kq a0 a1 a2 x8_2 a1 x26_2 = some (r1, r2)) ∧ Aside0 (kq ≤ kj3) ∧ Aside0 (Kd.R (Kd.int .i64) 2 w' w.heap.size (fun _ => True) v8 x8_2) ∧ Aside0 (Below w.heap.size w w'))
        case atStart => exact ⟨(y131), (0), (by first | rfl | (simp; done) | (simp [*]; done)), H', ⟨Nat.le_refl _⟩, ⟨by (with_reducible repeat (first | apply Kd.R_alloc | apply Kd.R_drewN | apply Kd.R_drew)); exact HO133.out⟩, ⟨by repeat (first | (with_reducible first | exact HB.out | apply below_alloc | apply pw_below_drewN | apply below_drew1) | exact HB.out)⟩⟩
        case round =>
          clear H'
          try clear c1
          try clear c2
          try clear p2
          try clear c5
          try clear c6
          try clear c8
          try clear c10
          try clear p2
          obtain ⟨x8_2, x26_2, rfl, HA, HK2, HO_8, HB⟩ := hrel
          cases gk with
          | zero => exact absurd HA.out (by simp [impl_EvenHoles.l0])
          | succ k2 =>
            have H := HA.out
            clear HA
            simp only [impl_EvenHoles.l0] at H
            by_cases c13 : x26_2 < a1
            · rw [if_pos c13] at H
              have c13b0 : decide (x26_2 < a1) = true := decide_eq_true c13
              clear c13
              by_cases c14 : (wrap64 (a1 - 1)) = 0
              · rw [if_pos c14] at H
                exact absurd H (by simp)
              · rw [if_neg c14] at H
                have c14b0 : ((wrap64 (a1 - 1)) == 0) = false := beq_eq_false_iff_ne.mpr c14
                have c14b1 : ((wrap64 (a1 - 1)) != 0) = true := bne_iff_ne.mpr c14
                by_cases c15 : x8_2.length < 17592186044416
                · rw [if_pos c15] at H
                  have LMc15 := Aside0.mk c15
                  clear c15
                  obtain ⟨y134, hy134⟩ : ∃ y_ : List Int, y_ = (x8_2 ++ [wrap64 (a2 + (wrap64 (Int.tdiv (wrap64 (x26_2 * (wrap64 (a0 - (wrap64 (2 * a2)))))) (wrap64 (a1 - 1)))))]) := ⟨_, rfl⟩
                  replace H : (impl_EvenHoles.l0 k2 a0 a1 a2 y134 a1 (wrap64 (x26_2 + 1))) = some (r1, r2) := by first | (rw [hy134]; with_reducible exact H) | (have H2_ := (Option.bind_some _ _).symm.trans H; rw [hy134]; with_reducible exact H2_) | (have H2_ := (Option.bind_some _ _).symm.trans H; with_reducible exact H2_) | with_reducible exact H | (rw [hy134]; exact H) | exact H
                  have Ny134 := Aside0.mk hy134
                  clear hy134
                  have H' := Aside0.mk H
                  clear H
                  go_wp2_with (first | ((with_reducible refine gate_builtin (b := .append) (xs := #[.tmp 29, .tmp 41]) rfl ?_); at_builtin; refine Kd.R_append (Kd.int .i64) (w0 := w) w.heap.size rfl (.tmp 29) (.tmp 41) 28 2 (.int .i64 0) 8 rfl Try.underlying28 info2 rfl (by decide) (by omega) u8 x8_2 (wrap64 (a2 + (wrap64 (Int.tdiv (wrap64 (x26_2 * (wrap64 (a0 - (wrap64 (2 * a2)))))) (wrap64 (a1 - 1)))))) [.int .i64 (wrap64 (a2 + (wrap64 (Int.tdiv (wrap64 (x26_2 * (wrap64 (a0 - (wrap64 (2 * a2)))))) (wrap64 (a1 - 1))))))] (fun _ => True) (fun _ => False) rfl rfl ?aP (fun _ hk => hk.elim) ?aF ?aO ?aB ?aS ?aL ?_; (case aP => exact rfl); (case aB => exact (by repeat (first | (with_reducible first | exact HB.out | apply below_alloc | apply pw_below_drewN | apply below_drew1) | exact HB.out))); (case aF => exact (fun _ _ => trivial)); (case aO => exact (by (with_reducible repeat (first | apply Kd.R_alloc | apply Kd.R_drewN | apply Kd.R_drew)); exact HO_8.out)); (case aS => exact (below_size (by repeat (first | (with_reducible first | exact HB.out | apply below_alloc | apply pw_below_drewN | apply below_drew1) | exact HB.out)))); (case aL => have := LMc15.out; omega); intro v135 w16 ho hb hg hat; rw [← Ny134.out] at ho; have n0_ := Aside0.mk (hb); have n1_ := Aside0.mk (ho); clear HB; clear HO_8; have HB := n0_; have HO136 := n1_; clear n0_ n1_; clear ho hb hg hat))
                  go_roundg k2
                  case measure => have := HJ3.out; have := HK2.out; omega
                  case rel => exact ⟨(y134), (wrap64 (x26_2 + 1)), (by first | rfl | (simp; done) | (simp [*]; done)), H', ⟨by have := HJ3.out; have := HK2.out; omega⟩, ⟨by (with_reducible repeat (first | apply Kd.R_alloc | apply Kd.R_drewN | apply Kd.R_drew)); exact HO136.out⟩, ⟨by repeat (first | (with_reducible first | exact HB.out | apply below_alloc | apply pw_below_drewN | apply below_drew1) | exact HB.out)⟩⟩
                · rw [if_neg c15] at H
                  exact absurd H (by simp)
            · rw [if_neg c13] at H
              have c13b0 : decide (x26_2 < a1) = false := decide_eq_false c13
              clear c13
              replace H := Option.bind_eq_some_iff.mp H
              obtain ⟨t137, A170, H⟩ := H
              replace H : (if t137 = true then (some (x8_2, 0)) else (some (([] : List Int), 5))) = some (r1, r2) := H
              have A17 := Aside0.mk A170
              clear A170
              by_cases c18 : t137 = true
              · subst c18
                have H1 : (some (x8_2, 0)) = some (r1, r2) := by rw [if_pos rfl] at H; exact H
                clear H
                have H := H1
                clear H1
                simp only [Option.some.injEq, Prod.mk.injEq] at H
                obtain ⟨rfl, rfl⟩ := H
                obtain ⟨Ao19, co19, eo19⟩ := Kd.R_slice HO_8.out
                subst eo19
                go_wp2_with (first | ((with_reducible refine gate_callee (f := 40) rfl ?_); refine goesL_ (some 45) rfl rfl Try.func40 (by kernel_rfl) rfl #[.slice Ao19 x8_2.length co19] rfl (by (try simp only [List.map_toArray, List.map_cons, List.map_nil]); first | done | rfl | (simp only [List.length_drop, List.length_take]; rfl)) ?_; (with_reducible refine (impl_AreHoles.calls k2 _ _ x8_2 true _ ?side1 ?side2 A17.out).mono ?_); (case side1 => repeat (first | exact (Kd.R_reads' HO_8.out).2.2 | (with_reducible refine Kd.C_alloc ?_ _) | (with_reducible refine Kd.C_drewN ?_ _) | (with_reducible refine Kd.C_drew ?_))); (case side2 => exact (Kd.R_reads' HO_8.out).2.1); rintro e w20 ⟨rfl, hb⟩; refine ⟨_, rfl, ?_⟩; have n0_ := Aside0.mk (Kd.R_below (by (with_reducible repeat (first | apply Kd.R_alloc | apply Kd.R_drewN | apply Kd.R_drew)); exact HO_8.out) hb); have n1_ := Aside0.mk (below_step (by repeat (first | (with_reducible first | exact HB.out | apply below_alloc | apply pw_below_drewN | apply below_drew1) | exact HB.out)) hb); clear HO_8; clear HB; have HO_8 := n0_; have HB := n1_; clear n0_ n1_; (try clear hb); (try clear hb2); (try clear hk); (try clear hi)))
                go_ret2
                exact ⟨_, by first | rfl | (simp [errW_none, errW_some] <;> rfl) | (simp [*, errW_none, errW_some] <;> rfl), by (with_reducible repeat (first | apply Kd.R_alloc | apply Kd.R_drewN | apply Kd.R_drew)); exact HO_8.out, by repeat (first | (with_reducible first | exact HB.out | apply below_alloc | apply pw_below_drewN | apply below_drew1) | exact HB.out)⟩
              · replace c18 := Bool.eq_false_iff.mpr c18
                subst c18
                have H1 : (some (([] : List Int), 5)) = some (r1, r2) := by rw [if_neg (show ¬ (false = true) by decide)] at H; exact H
                clear H
                have H := H1
                clear H1
                simp only [Option.some.injEq, Prod.mk.injEq] at H
                obtain ⟨rfl, rfl⟩ := H
                obtain ⟨Ao21, co21, eo21⟩ := Kd.R_slice HO_8.out
                subst eo21
                go_wp2_with (first | ((with_reducible refine gate_callee (f := 40) rfl ?_); refine goesL_ (some 45) rfl rfl Try.func40 (by kernel_rfl) rfl #[.slice Ao21 x8_2.length co21] rfl (by (try simp only [List.map_toArray, List.map_cons, List.map_nil]); first | done | rfl | (simp only [List.length_drop, List.length_take]; rfl)) ?_; (with_reducible refine (impl_AreHoles.calls k2 _ _ x8_2 false _ ?side1 ?side2 A17.out).mono ?_); (case side1 => repeat (first | exact (Kd.R_reads' HO_8.out).2.2 | (with_reducible refine Kd.C_alloc ?_ _) | (with_reducible refine Kd.C_drewN ?_ _) | (with_reducible refine Kd.C_drew ?_))); (case side2 => exact (Kd.R_reads' HO_8.out).2.1); rintro e w22 ⟨rfl, hb⟩; refine ⟨_, rfl, ?_⟩; have n0_ := Aside0.mk (Kd.R_below (by (with_reducible repeat (first | apply Kd.R_alloc | apply Kd.R_drewN | apply Kd.R_drew)); exact HO_8.out) hb); have n1_ := Aside0.mk (below_step (by repeat (first | (with_reducible first | exact HB.out | apply below_alloc | apply pw_below_drewN | apply below_drew1) | exact HB.out)) hb); clear HO_8; clear HB; have HO_8 := n0_; have HB := n1_; clear n0_ n1_; (try clear hb); (try clear hb2); (try clear hk); (try clear hi)))
                go_ret2
                exact ⟨_, by first | rfl | (simp [errW_none, errW_some] <;> rfl) | (simp [*, errW_none, errW_some] <;> rfl), by first | exact Kd.R_nil _ _ _ _ _ | exact Kd.N_nil _ _ _ _ _ | exact Kd.V_nil _ _ _ _ _ | exact Kd.Q_nil _ _ _ _ _ | exact Kd.S_nil _ _ _ _ _, by repeat (first | (with_reducible first | exact HB.out | apply below_alloc | apply pw_below_drewN | apply below_drew1) | exact HB.out)⟩

/-! ### spec_MirrorHoles: function 29 -/
mutual
def spec_MirrorHoles.j0 : Nat → List Int → Int → Bool → Option (List Int × Int)
  | 0, _, _, _ => none
  | k + 1, x0, x1, x21 => if x21 = true then (some (([] : List Int), 2)) else (spec_MirrorHoles.l0 k x0 x1 (([] : List Int)) (wrap64 ((x0.length : Int) - 1)))
def spec_MirrorHoles.l0 : Nat → List Int → Int → List Int → Int → Option (List Int × Int)
  | 0, _, _, _, _ => none
  | k + 1, x0, x1, x6, x7 => if x7 ≥ 0 then (if 0 ≤ x7 then (if x7 < (x0.length : Int) then (if x6.length < 17592186044416 then (spec_MirrorHoles.l0 k x0 x1 (x6 ++ [wrap64 (x1 - (rd x0 x7))]) (wrap64 (x7 - 1))) else (none)) else (none)) else (none)) else (some (x6, 0))
end
def spec_MirrorHoles.f (k : Nat) (l0 : List Int) (a1 : Int) : Option (List Int × Int) := (spec_AreHoles.f k l0).bind fun t138 => (if t138 = true then (if 0 ≤ (wrap64 ((l0.length : Int) - 1)) then (if (wrap64 ((l0.length : Int) - 1)) < (l0.length : Int) then ((spec_l01In.f a1 (rd l0 (wrap64 ((l0.length : Int) - 1))) 20000).bind fun t140 => (spec_MirrorHoles.j0 k l0 a1 (!t140))) else (none)) else (none)) else (spec_MirrorHoles.j0 k l0 a1 true))
theorem spec_MirrorHoles.mono_l : ∀ k, (∀ y0 y1 y2, LeO (spec_MirrorHoles.j0 k y0 y1 y2) (spec_MirrorHoles.j0 (k + 1) y0 y1 y2)) ∧ (∀ y0 y1 y2 y3, LeO (spec_MirrorHoles.l0 k y0 y1 y2 y3) (spec_MirrorHoles.l0 (k + 1) y0 y1 y2 y3))
  | 0 => ⟨fun _ _ _ r h => by simp [spec_MirrorHoles.j0] at h, fun _ _ _ _ r h => by simp [spec_MirrorHoles.l0] at h⟩
  | k + 1 => by
    obtain ⟨ih0, ih1⟩ := spec_MirrorHoles.mono_l k
    refine ⟨?_, ?_⟩
    · intro y0 y1 y2
      unfold spec_MirrorHoles.j0
      repeat' first
      | (with_reducible exact ih0 _ _ _)
      | (with_reducible exact ih1 _ _ _ _)
      | (with_reducible exact spec_AreHoles.mono _ _)
      | (with_reducible exact LeO.refl _)
      | (with_reducible exact LeO.none _)
      | (with_reducible refine LeO.ite ?_ ?_)
      | (with_reducible refine LeO.bind ?_ (fun _ => ?_))
      | exact ih0 _ _ _
      | exact ih1 _ _ _ _
      | exact spec_AreHoles.mono _ _
      | exact LeO.none _
      | refine LeO.ite ?_ ?_
      | refine LeO.bind ?_ (fun _ => ?_)
    · intro y0 y1 y2 y3
      unfold spec_MirrorHoles.l0
      repeat' first
      | (with_reducible exact ih0 _ _ _)
      | (with_reducible exact ih1 _ _ _ _)
      | (with_reducible exact spec_AreHoles.mono _ _)
      | (with_reducible exact LeO.refl _)
      | (with_reducible exact LeO.none _)
      | (with_reducible refine LeO.ite ?_ ?_)
      | (with_reducible refine LeO.bind ?_ (fun _ => ?_))
      | exact ih0 _ _ _
      | exact ih1 _ _ _ _
      | exact spec_AreHoles.mono _ _
      | exact LeO.none _
      | refine LeO.ite ?_ ?_
      | refine LeO.bind ?_ (fun _ => ?_)
theorem spec_MirrorHoles.mono : ∀ a0 a1 k, LeO (spec_MirrorHoles.f k a0 a1) (spec_MirrorHoles.f (k + 1) a0 a1) := by
  intro a0 a1 k
  obtain ⟨ih0, ih1⟩ := spec_MirrorHoles.mono_l k
  unfold spec_MirrorHoles.f
  repeat' first
      | (with_reducible exact ih0 _ _ _)
      | (with_reducible exact ih1 _ _ _ _)
      | (with_reducible exact spec_AreHoles.mono _ _)
      | (with_reducible exact LeO.refl _)
      | (with_reducible exact LeO.none _)
      | (with_reducible refine LeO.ite ?_ ?_)
      | (with_reducible refine LeO.bind ?_ (fun _ => ?_))
      | exact ih0 _ _ _
      | exact ih1 _ _ _ _
      | exact spec_AreHoles.mono _ _
      | exact LeO.none _
      | refine LeO.ite ?_ ?_
      | refine LeO.bind ?_ (fun _ => ?_)
set_option maxHeartbeats 8000000 in
set_option maxRecDepth 100000 in
theorem spec_MirrorHoles.calls (k : Nat) (A0 : Option Addr) (c0 : Nat) (l0 : List Int) (a1 : Int) (r1 : List Int) (r2 : Int) (w : World) (hr0 : Kd.C (Kd.int .i64) w A0 l0.length l0) (hc0 : l0.length ≤ c0) (h : spec_MirrorHoles.f k l0 a1 = some (r1, r2)) :
    Calls Try.prog 29 #[.slice A0 l0.length c0, .int .i64 a1] w fun e w' => ∃ v0_ : Value, e = .returned (.tuple #[v0_, .int .i64 r2]) ∧ Kd.R (Kd.int .i64) 2 w' w.heap.size (fun _ => True) v0_ r1 ∧ Below w.heap.size w w' := by
  have HR0 := Aside0.mk hr0
  have HC0 := Aside0.mk hc0
  clear hr0 hc0
  have HB := Aside0.mk (Below.refl w.heap.size w)
  have H : ((spec_AreHoles.f k l0).bind fun t138 => (if t138 = true then (if 0 ≤ (wrap64 ((l0.length : Int) - 1)) then (if (wrap64 ((l0.length : Int) - 1)) < (l0.length : Int) then ((spec_l01In.f a1 (rd l0 (wrap64 ((l0.length : Int) - 1))) 20000).bind fun t140 => (spec_MirrorHoles.j0 k l0 a1 (!t140))) else (none)) else (none)) else (spec_MirrorHoles.j0 k l0 a1 true))) = some (r1, r2) := h
  clear h
  have HC3 := Aside0.mk H
  clear H
  go_enter Try.func29, Try.ntmps29
  go_upto_region 1 with (fail)
  go_cut [21] (fun v21 wc => ∃ (kq : Nat) (x21_2 : Bool), v21 = .bool x21_2 ∧ Aside0 (spec_MirrorHoles.j0 kq l0 a1 x21_2 = some (r1, r2)) ∧ Aside0 (kq ≤ k) ∧ Aside0 (Below w.heap.size w wc))
  case first =>
    have H := HC3.out
    clear HC3
    replace H := Option.bind_eq_some_iff.mp H
    obtain ⟨t138, A40, H⟩ := H
    replace H : (if t138 = true then (if 0 ≤ (wrap64 ((l0.length : Int) - 1)) then (if (wrap64 ((l0.length : Int) - 1)) < (l0.length : Int) then ((spec_l01In.f a1 (rd l0 (wrap64 ((l0.length : Int) - 1))) 20000).bind fun t140 => (spec_MirrorHoles.j0 k l0 a1 (!t140))) else (none)) else (none)) else (spec_MirrorHoles.j0 k l0 a1 true)) = some (r1, r2) := H
    have A4 := Aside0.mk A40
    clear A40
    by_cases c5 : t138 = true
    · subst c5
      have H1 : (if 0 ≤ (wrap64 ((l0.length : Int) - 1)) then (if (wrap64 ((l0.length : Int) - 1)) < (l0.length : Int) then ((spec_l01In.f a1 (rd l0 (wrap64 ((l0.length : Int) - 1))) 20000).bind fun t140 => (spec_MirrorHoles.j0 k l0 a1 (!t140))) else (none)) else (none)) = some (r1, r2) := by rw [if_pos rfl] at H; exact H
      clear H
      have H := H1
      clear H1
      obtain ⟨ji6, hji6⟩ : ∃ j_ : Int, (wrap64 ((l0.length : Int) - 1)) = j_ := ⟨_, rfl⟩
      replace H : (if 0 ≤ (ji6) then (if (ji6) < (l0.length : Int) then ((spec_l01In.f a1 (rd l0 (ji6)) 20000).bind fun t140 => (spec_MirrorHoles.j0 k l0 a1 (!t140))) else (none)) else (none)) = some (r1, r2) := by first | (rw [hji6] at H; exact H) | (simp only [hji6] at H ⊢; exact H)
      (try rw [hji6] at A4)
      have hji6w : (IntKind.i64.wrap ((l0.length : Int) - 1)) = ji6 := (i64_w _).trans hji6
      by_cases c7 : 0 ≤ (ji6)
      · rw [if_pos c7] at H
        have c7b0 : decide (0 ≤ (ji6)) = true := decide_eq_true c7
        clear c7
        (first | rw [c7b0] | (simp only [i64_w, i32_w]; rw [c7b0]) | skip)
        by_cases c8 : (ji6) < (l0.length : Int)
        · rw [if_pos c8] at H
          have c8b0 : decide ((ji6) < (l0.length : Int)) = true := decide_eq_true c8
          clear c8
          replace H := Option.bind_eq_some_iff.mp H
          obtain ⟨t140, A90, H⟩ := H
          replace H : (spec_MirrorHoles.j0 k l0 a1 (!t140)) = some (r1, r2) := H
          have A9 := Aside0.mk A90
          clear A90
          have H' := Aside0.mk H
          clear H
          go_wp2_with (first | ((with_reducible refine gate_callee (f := 41) rfl ?_); refine goesL_ (some 9) rfl rfl Try.func41 (by kernel_rfl) rfl #[.slice A0 l0.length c0] rfl (by (try simp only [List.map_toArray, List.map_cons, List.map_nil]); first | done | rfl | (simp only [List.length_drop, List.length_take]; rfl)) ?_; (with_reducible refine (spec_AreHoles.calls k _ _ l0 true _ ?side1 ?side2 A4.out).mono ?_); (case side1 => repeat (first | exact (Kd.C_below HR0.out HB.out) | (with_reducible refine Kd.C_alloc ?_ _) | (with_reducible refine Kd.C_drewN ?_ _) | (with_reducible refine Kd.C_drew ?_))); (case side2 => exact HC0.out); rintro e w' ⟨rfl, ⟨nd, rfl⟩⟩; refine ⟨_, rfl, ?_⟩; have p139 : 0 ≤ ((ji6) : Int) := of_decide_eq_true (by first | (with_reducible assumption) | assumption); have q139 : (ji6) < (l0.length : Int) := of_decide_eq_true (by first | (with_reducible assumption) | assumption); obtain ⟨ad139, e139, hx139_0⟩ := Kd.at_int HR0.out (ji6) p139 q139; cases e139; replace hx139_0 := (HB.out.cell (World.block_lt_of_cell? _ _ hx139_0)).trans hx139_0; replace p139 := eq_true p139; replace q139 := eq_true q139) | (go_at_call 52; (with_reducible refine (spec_l01In.calls a1 (rd l0 (ji6)) 20000 t140 _ A9.out).mono ?_); rintro e w' ⟨rfl, ⟨nd, rfl⟩⟩))
          go_meet
          case rel => exact ⟨_, (!t140), (by first | rfl | (simp; done) | (simp [*]; done)), H', ⟨by first | omega | exact Nat.le_refl _⟩, ⟨by repeat (first | (with_reducible first | exact HB.out | apply below_alloc | apply pw_below_drewN | apply below_drew1) | exact HB.out)⟩⟩
        · rw [if_neg c8] at H
          exact absurd H (by simp)
      · rw [if_neg c7] at H
        exact absurd H (by simp)
    · replace c5 := Bool.eq_false_iff.mpr c5
      subst c5
      have H1 : (spec_MirrorHoles.j0 k l0 a1 true) = some (r1, r2) := by rw [if_neg (show ¬ (false = true) by decide)] at H; exact H
      clear H
      have H := H1
      clear H1
      have H' := Aside0.mk H
      clear H
      go_wp2_with (first | ((with_reducible refine gate_callee (f := 41) rfl ?_); refine goesL_ (some 9) rfl rfl Try.func41 (by kernel_rfl) rfl #[.slice A0 l0.length c0] rfl (by (try simp only [List.map_toArray, List.map_cons, List.map_nil]); first | done | rfl | (simp only [List.length_drop, List.length_take]; rfl)) ?_; (with_reducible refine (spec_AreHoles.calls k _ _ l0 false _ ?side1 ?side2 A4.out).mono ?_); (case side1 => repeat (first | exact (Kd.C_below HR0.out HB.out) | (with_reducible refine Kd.C_alloc ?_ _) | (with_reducible refine Kd.C_drewN ?_ _) | (with_reducible refine Kd.C_drew ?_))); (case side2 => exact HC0.out); rintro e w' ⟨rfl, ⟨nd, rfl⟩⟩; refine ⟨_, rfl, ?_⟩))
      go_meet
      case rel => exact ⟨_, (true), (by first | rfl | (simp; done) | (simp [*]; done)), H', ⟨by first | omega | exact Nat.le_refl _⟩, ⟨by repeat (first | (with_reducible first | exact HB.out | apply below_alloc | apply pw_below_drewN | apply below_drew1) | exact HB.out)⟩⟩
  case rest =>
    clear HC3
    try clear p1
    try clear q1
    try clear hx1
    try clear c2
    try clear p2
    try clear c4
    try clear c5
    try clear p6
    try clear c7
    try clear c7b0
    try clear c8
    try clear c8b0
    try clear hx139_0
    try clear p139
    try clear q139
    obtain ⟨kq, x21_2, rfl, HA, HJ2, HB⟩ := hcut
    cases kq with
    | zero => exact absurd HA.out (by simp [spec_MirrorHoles.j0])
    | succ kj2 =>
      have H := HA.out
      clear HA
      simp only [spec_MirrorHoles.j0] at H
      by_cases c10 : x21_2 = true
      · subst c10
        have H1 : (some (([] : List Int), 2)) = some (r1, r2) := by rw [if_pos rfl] at H; exact H
        clear H
        have H := H1
        clear H1
        simp only [Option.some.injEq, Prod.mk.injEq] at H
        obtain ⟨rfl, rfl⟩ := H
        go_wp2
        go_ret2
        exact ⟨_, by first | rfl | (simp [errW_none, errW_some] <;> rfl) | (simp [*, errW_none, errW_some] <;> rfl), by first | exact Kd.R_nil _ _ _ _ _ | exact Kd.N_nil _ _ _ _ _ | exact Kd.V_nil _ _ _ _ _ | exact Kd.Q_nil _ _ _ _ _ | exact Kd.S_nil _ _ _ _ _, by repeat (first | (with_reducible first | exact HB.out | apply below_alloc | apply pw_below_drewN | apply below_drew1) | exact HB.out)⟩
      · replace c10 := Bool.eq_false_iff.mpr c10
        subst c10
        have H1 : (spec_MirrorHoles.l0 kj2 l0 a1 (([] : List Int)) (wrap64 ((l0.length : Int) - 1))) = some (r1, r2) := by rw [if_neg (show ¬ (false = true) by decide)] at H; exact H
        clear H
        have H := H1
        clear H1
        obtain ⟨y141, hy141⟩ : ∃ y_ : List Int, y_ = (([] : List Int)) := ⟨_, rfl⟩
        replace H : (spec_MirrorHoles.l0 kj2 l0 a1 y141 (wrap64 ((l0.length : Int) - 1))) = some (r1, r2) := by first | (rw [hy141]; with_reducible exact H) | (have H2_ := (Option.bind_some _ _).symm.trans H; rw [hy141]; with_reducible exact H2_) | (have H2_ := (Option.bind_some _ _).symm.trans H; with_reducible exact H2_) | with_reducible exact H | (rw [hy141]; exact H) | exact H
        have Ny141 := Aside0.mk hy141
        clear hy141
        have H' := Aside0.mk H
        clear H
        go_wp2_with (first | ((with_reducible refine gate_dst (N := 22) rfl ?_); (try (refine gate_guard (by rfl) ?_; dsimp only)); refine Kd.R_lit (Kd.int .i64) _ 2 ?hg (N := 22) ?hd (xs := ([] : List Int)) (inner := []) (ok := fun _ => True) (okp := fun _ => True) ?hr ?hp (fun _ hk => hk) trivial (Below.refl _ _) (Nat.le_refl _) (by simp) ?_; (case hd => rfl); (case hg => rfl); (case hr => first | (go_simp; done) | (go_simp; rfl)); (case hp => exact (Reps.none _ _)); intro v142 w11 ho12 hb hg_ hnew_; clear hg_ hnew_; (first | rw [← Ny141.out] at ho12 | (simp only [Int.reduceToNat] at ho12; rw [← Ny141.out] at ho12)); have n0_ := Aside0.mk (Kd.R_lower ho12 (below_size (by repeat (first | (with_reducible first | exact HB.out | apply below_alloc | apply pw_below_drewN | apply below_drew1) | exact HB.out)))); have n1_ := Aside0.mk (below_step (by repeat (first | (with_reducible first | exact HB.out | apply below_alloc | apply pw_below_drewN | apply below_drew1) | exact HB.out)) hb); clear HB; have HO143 := n0_; have HB := n1_; clear n0_ n1_; clear hb ho12))
        go_loopg [6, 7] kj2 (fun kq v6 v7 w' => ∃ (x6_2 : List Int) (x7_2 : Int), v7 = .int .i64 x7_2 ∧ Aside0 (spec_MirrorHoles.l0 kq l0 a1 x6_2 x7_2 = some (r1, r2)) ∧ Aside0 (kq ≤ kj2) ∧ Aside0 (Kd.R (Kd.int .i64) 2 w' w.heap.size (fun _ => True) v6 x6_2) ∧ Aside0 (Below w.heap.size w w'))
        case atStart => exact ⟨(y141), (wrap64 ((l0.length : Int) - 1)), (by first | rfl | (simp; done) | (simp [*]; done)), H', ⟨Nat.le_refl _⟩, ⟨by (with_reducible repeat (first | apply Kd.R_alloc | apply Kd.R_drewN | apply Kd.R_drew)); exact HO143.out⟩, ⟨by repeat (first | (with_reducible first | exact HB.out | apply below_alloc | apply pw_below_drewN | apply below_drew1) | exact HB.out)⟩⟩
        case round =>
          clear H'
          try clear c1
          try clear p1
          try clear q1
          try clear hx1
          try clear c2
          try clear p2
          try clear c4
          try clear c5
          try clear p6
          try clear c7
          try clear c7b0
          try clear c8
          try clear c8b0
          try clear c10
          try clear hx139_0
          try clear p1
          try clear p139
          try clear p2
          try clear p6
          try clear q1
          try clear q139
          obtain ⟨x6_2, x7_2, rfl, HA, HK2, HO_6, HB⟩ := hrel
          cases gk with
          | zero => exact absurd HA.out (by simp [spec_MirrorHoles.l0])
          | succ k2 =>
            have H := HA.out
            clear HA
            simp only [spec_MirrorHoles.l0] at H
            by_cases c13 : x7_2 ≥ 0
            · rw [if_pos c13] at H
              have c13b0 : decide (0 ≤ x7_2) = true := decide_eq_true c13
              clear c13
              by_cases c14 : 0 ≤ x7_2
              · rw [if_pos c14] at H
                have c14b0 : decide (0 ≤ x7_2) = true := decide_eq_true c14
                clear c14
                by_cases c15 : x7_2 < (l0.length : Int)
                · rw [if_pos c15] at H
                  have c15b0 : decide (x7_2 < (l0.length : Int)) = true := decide_eq_true c15
                  clear c15
                  by_cases c16 : x6_2.length < 17592186044416
                  · rw [if_pos c16] at H
                    have LMc16 := Aside0.mk c16
                    clear c16
                    obtain ⟨y145, hy145⟩ : ∃ y_ : List Int, y_ = (x6_2 ++ [wrap64 (a1 - (rd l0 x7_2))]) := ⟨_, rfl⟩
                    replace H : (spec_MirrorHoles.l0 k2 l0 a1 y145 (wrap64 (x7_2 - 1))) = some (r1, r2) := by first | (rw [hy145]; with_reducible exact H) | (have H2_ := (Option.bind_some _ _).symm.trans H; rw [hy145]; with_reducible exact H2_) | (have H2_ := (Option.bind_some _ _).symm.trans H; with_reducible exact H2_) | with_reducible exact H | (rw [hy145]; exact H) | exact H
                    have Ny145 := Aside0.mk hy145
                    clear hy145
                    have H' := Aside0.mk H
                    clear H
                    have p144 : 0 ≤ (x7_2 : Int) := of_decide_eq_true (by first | (with_reducible assumption) | assumption)
                    have q144 : x7_2 < (l0.length : Int) := of_decide_eq_true (by first | (with_reducible assumption) | assumption)
                    obtain ⟨ad144, e144, hx144_0⟩ := Kd.at_int HR0.out x7_2 p144 q144
                    cases e144
                    replace hx144_0 := (HB.out.cell (World.block_lt_of_cell? _ _ hx144_0)).trans hx144_0
                    replace p144 := eq_true p144
                    replace q144 := eq_true q144
                    go_wp2_with (first | ((with_reducible refine gate_builtin (b := .append) (xs := #[.tmp 30, .tmp 37]) rfl ?_); (try (refine gate_guard (by rfl) ?_; dsimp only)); at_builtin; refine Kd.R_append (Kd.int .i64) (w0 := w) w.heap.size rfl (.tmp 30) (.tmp 37) 28 2 (.int .i64 0) 8 rfl Try.underlying28 info2 rfl (by decide) (by omega) u6 x6_2 (wrap64 (a1 - (rd l0 x7_2))) [.int .i64 (wrap64 (a1 - (rd l0 x7_2)))] (fun _ => True) (fun _ => False) rfl rfl ?aP (fun _ hk => hk.elim) ?aF ?aO ?aB ?aS ?aL ?_; (case aP => exact rfl); (case aB => exact (by repeat (first | (with_reducible first | exact HB.out | apply below_alloc | apply pw_below_drewN | apply below_drew1) | exact HB.out))); (case aF => exact (fun _ _ => trivial)); (case aO => exact (by (with_reducible repeat (first | apply Kd.R_alloc | apply Kd.R_drewN | apply Kd.R_drew)); exact HO_6.out)); (case aS => exact (below_size (by repeat (first | (with_reducible first | exact HB.out | apply below_alloc | apply pw_below_drewN | apply below_drew1) | exact HB.out)))); (case aL => have := LMc16.out; omega); intro v146 w17 ho hb hg hat; rw [← Ny145.out] at ho; have n0_ := Aside0.mk (hb); have n1_ := Aside0.mk (ho); clear HB; clear HO_6; have HB := n0_; have HO147 := n1_; clear n0_ n1_; clear ho hb hg hat))
                    go_roundg k2
                    case measure => have := HJ2.out; have := HK2.out; omega
                    case rel => exact ⟨(y145), (wrap64 (x7_2 - 1)), (by first | rfl | (simp; done) | (simp [*]; done)), H', ⟨by have := HJ2.out; have := HK2.out; omega⟩, ⟨by (with_reducible repeat (first | apply Kd.R_alloc | apply Kd.R_drewN | apply Kd.R_drew)); exact HO147.out⟩, ⟨by repeat (first | (with_reducible first | exact HB.out | apply below_alloc | apply pw_below_drewN | apply below_drew1) | exact HB.out)⟩⟩
                  · rw [if_neg c16] at H
                    exact absurd H (by simp)
                · rw [if_neg c15] at H
                  exact absurd H (by simp)
              · rw [if_neg c14] at H
                exact absurd H (by simp)
            · rw [if_neg c13] at H
              have c13b0 : decide (0 ≤ x7_2) = false := decide_eq_false c13
              clear c13
              simp only [Option.some.injEq, Prod.mk.injEq] at H
              obtain ⟨rfl, rfl⟩ := H
              go_wp2
              go_ret2
              exact ⟨_, by first | rfl | (simp [errW_none, errW_some] <;> rfl) | (simp [*, errW_none, errW_some] <;> rfl), by (with_reducible repeat (first | apply Kd.R_alloc | apply Kd.R_drewN | apply Kd.R_drew)); exact HO_6.out, by repeat (first | (with_reducible first | exact HB.out | apply below_alloc | apply pw_below_drewN | apply below_drew1) | exact HB.out)⟩

-- NOT PRINTED: function 58 (slices_Backward_int64_int64)

/-! ### impl_MirrorHoles: function 30, by a template of this session -/
section
attribute [local go_sem] Oper.semAt_some
/-- What has come when k rounds are over: the last element, the one ahead of it, .. -/
def impl_MirrorHoles.down (zs : List Int) (k : Nat) : List (Nat × Int) := (List.range k).map fun t => (zs.length - 1 - t, rd zs ((zs.length - 1 - t : Nat) : Int))
theorem impl_MirrorHoles.down_succ (zs : List Int) (k : Nat) : impl_MirrorHoles.down zs (k + 1) = impl_MirrorHoles.down zs k ++ [(zs.length - 1 - k, rd zs ((zs.length - 1 - k : Nat) : Int))] := by simp [impl_MirrorHoles.down, List.range_succ]
theorem impl_MirrorHoles.down_len (zs : List Int) (k : Nat) : (impl_MirrorHoles.down zs k).length = k := by simp [impl_MirrorHoles.down]
/-- The holes seen from the other end. -/
def impl_MirrorHoles.mir (a : Int) (pre : List (Nat × Int)) : List Int := pre.map fun x => wrap64 (a - x.2)
theorem impl_MirrorHoles.mir_snoc (a : Int) (pre : List (Nat × Int)) (x : Nat × Int) : impl_MirrorHoles.mir a (pre ++ [x]) = impl_MirrorHoles.mir a pre ++ [wrap64 (a - x.2)] := by simp [impl_MirrorHoles.mir]
def impl_MirrorHoles.f (k : Nat) (l0 : List Int) (a1 : Int) : Option (List Int × Int) := (impl_AreHoles.f k l0).bind fun t => if t = true then (if 1 ≤ l0.length ∧ l0.length ≤ 1048576 then (if rd l0 ((l0.length - 1 : Nat) : Int) ≤ a1 ∧ a1 ≤ 20000 then some (impl_MirrorHoles.mir a1 (impl_MirrorHoles.down l0 l0.length), 0) else some ([], 2)) else none) else some ([], 2)
theorem impl_MirrorHoles.mono : ∀ l0 a1 k, LeO (impl_MirrorHoles.f k l0 a1) (impl_MirrorHoles.f (k + 1) l0 a1) := by
  intro l0 a1 k r h
  unfold impl_MirrorHoles.f at h ⊢
  obtain ⟨t, h1, h2⟩ := Option.bind_eq_some_iff.mp h
  rw [impl_AreHoles.mono l0 k t h1]
  exact h2
/-- What a body must keep: what lay below n₀, and the block Bs. -/
def impl_MirrorHoles.Kp (n₀ Bs : Nat) (A B : World) : Prop := Below n₀ A B ∧ B.heap[Bs]? = A.heap[Bs]?
theorem impl_MirrorHoles.Kp_t {n₀ Bs : Nat} {A B C : World} (h : impl_MirrorHoles.Kp n₀ Bs A B) (k : impl_MirrorHoles.Kp n₀ Bs B C) : impl_MirrorHoles.Kp n₀ Bs A C := ⟨h.1.trans k.1, k.2.trans h.2⟩
theorem impl_MirrorHoles.Kp_b {n₀ Bs : Nat} {w : World} (hn : n₀ ≤ w.heap.size) (hb : Bs < w.heap.size) (W : World) (l : Nat) (o o' : Obj) (hl : w.heap.size ≤ l) (h : W.heap[l]? = some o) (h1 : o.isCells = false) (h2 : o.isWalk = false) : impl_MirrorHoles.Kp n₀ Bs W (W.putObj l o') :=
  ⟨belowK_b hn W l o o' hl h h1 h2, World.putObj_heap_other (by omega)⟩
theorem impl_MirrorHoles.boxed_own {β : Type} (B : Nat) (t : TypeId) (v : Value) : Own (fun (_ : β) W => Boxed W B t v) := by
  rintro s X Y row hv hg hrow
  refine hv.kept hg (fun e' => ?_)
  obtain ⟨o, ho, hc⟩ := hrow B e'.symm
  rw [show X.heap[B]? = _ from hv] at ho; cases ho; cases hc
/-- A post of which a way that is none says nothing of the act. -/
def impl_MirrorHoles.calm (Q : Exit → Act → World → Prop) : Exit → Act → World → Prop
  | .normal => Q .normal
  | _ => fun _ _ => False
theorem impl_MirrorHoles.calmly {F : Fence} {n : Nat} {P : Program} {c : Code} {Q : Exit → Act → World → Prop} {a : Act} {w : World} (h : c.wpIn F n P (impl_MirrorHoles.calm Q) a w) : c.wpIn F n P Q a w :=
  wpIn_mono h (fun e a w hh => by cases e <;> first | exact hh | exact hh.elim)
set_option maxRecDepth 100000 in
set_option maxHeartbeats 4000000 in
/-- slices.Backward's literal, for every body that keeps what lay below n₀ and the literal's own variable. -/
theorem impl_MirrorHoles.back1 (F : Fence) (n : Nat) (hF : F.fn 72) (hro : F.round = none) (hn : 1 ≤ n) (l Bs n₀ cap : Nat) (ad : Addr) (zs : List Int) (hz : zs.length ≤ 1048576) (J Jx : List (Nat × Int) → World → Prop)
    (hY : ∀ pre x W, J pre W → pre.length < zs.length → YieldAt F (n - 1) Try.prog l #[.int .i64 (x.1 : Int), .int .i64 x.2] W fun e W' =>
      (e = .returned (.bool true) ∧ J (pre ++ [x]) W' ∧ impl_MirrorHoles.Kp n₀ Bs W W') ∨ (e = .returned (.bool false) ∧ Jx (pre ++ [x]) W'))
    (W : World) (hBs : W.cell? ⟨Bs, 0, none⟩ = some (.slice (some ad) zs.length cap)) (hc : ∀ q : Nat, q < zs.length → W.cell? (ad.add q) = some (.int .i64 (rd zs (q : Int))) ∧ (ad.add q).block < n₀) (h0 : J [] W) :
    CallsIn F n Try.prog 72 #[.func (.yield l) #[] #[], .pointer (some ⟨Bs, 0, none⟩)] W fun e W' => (∃ v, e = .returned v) ∧
      ((∃ ys, ys = impl_MirrorHoles.down zs zs.length ∧ J ys W') ∨ (∃ pre, (∃ k, k ≤ zs.length ∧ pre = impl_MirrorHoles.down zs k) ∧ Jx pre W')) := by
  have hc := Aside0.mk hc
  have hzz := Aside0.mk hz
  have hw0 : IntKind.i64.wrap ((zs.length : Int) - 1) = (zs.length : Int) - 1 := IntWalk.i64_in _ (by omega)
  refine callsIn_of_wp Try.func72 rfl hF ?_ hro
  simp only [Try.ntmps72, List.size_toArray, List.length_cons, List.length_nil, Nat.reduceAdd, Nat.reduceSub, Array.replicate_succ, Array.replicate_zero, List.push_toArray, List.append_toArray, List.nil_append, List.cons_append]
  gi_wp2
  gi_loopw [3] (fun i wr => ∃ j : Nat, j ≤ zs.length ∧ i = .int .i64 ((j : Int) - 1) ∧ J (impl_MirrorHoles.down zs (zs.length - j)) wr ∧ impl_MirrorHoles.Kp n₀ Bs W wr)
    (fun i _ => (intOf i + 1).toNat)
  case atStart => exact ⟨zs.length, Nat.le_refl _, by first | rfl | rw [hw0], by rw [Nat.sub_self]; exact h0, Below.refl _ _, rfl⟩
  case round =>
    obtain ⟨j, hj, rfl, hJs, hnx⟩ := hrel
    have hBs' : wr.cell? ⟨Bs, 0, none⟩ = some (.slice (some ad) zs.length cap) := (World.cell?_of_block (a := ⟨Bs, 0, none⟩) hnx.2).trans hBs
    by_cases hlt : 0 < j
    · obtain ⟨q, rfl⟩ : ∃ q, j = q + 1 := ⟨j - 1, by omega⟩
      have hq : q < zs.length := by omega
      have hcx : wr.cell? (ad.add q) = some (.int .i64 (rd zs (q : Int))) := (hnx.1.cell (p := ad.add q) (hc.out q hq).2).trans (hc.out q hq).1
      have e0 : ((q + 1 : Nat) : Int) - 1 = (q : Int) := by omega
      have hw1 : IntKind.i64.wrap ((q : Int) - 1) = (q : Int) - 1 := IntWalk.i64_in _ (by omega)
      rw [e0]
      obtain ⟨fn, tmps, assign, body, hy, hR⟩ := hY _ (q, rd zs (q : Int)) wr hJs (by rw [impl_MirrorHoles.down_len]; omega)
      have hx1 : zs.length - (q + 1) + 1 = zs.length - q := by omega
      have hJn : impl_MirrorHoles.down zs (zs.length - q) = impl_MirrorHoles.down zs (zs.length - (q + 1)) ++ [(q, rd zs (q : Int))] := by
        rw [← hx1, impl_MirrorHoles.down_succ, show zs.length - 1 - (zs.length - (q + 1)) = q by omega]
      have hJn := Aside0.mk hJn
      generalize rd zs (q : Int) = y at hcx hy hR hJn
      dsimp only at hy
      have g1 : (0 : Int) ≤ (q : Int) := by omega
      have g2 : (q : Int) < (zs.length : Int) := by omega
      clear e0 hx1
      gi_wp2
      refine hR.mono ?_
      rintro e W3 (⟨rfl, hJ3, hk3⟩ | ⟨rfl, hJx3⟩)
      · gi_wp2
        go_roundw
        case rel => exact ⟨q, by omega, by first | rfl | rw [hw1] | simp [hw1], by rw [hJn.out]; exact hJ3, impl_MirrorHoles.Kp_t hnx hk3⟩
        case measure => first | (simp [intOf]; done) | (simp [intOf]; omega)
      · gi_wp2
        refine bodyPost_ret (results_none rfl _ _ _) rfl ?_
        exact ⟨⟨_, rfl⟩, .inr ⟨_, ⟨zs.length - q, by omega, hJn.out.symm⟩, hJx3⟩⟩
    · obtain rfl : j = 0 := by omega
      gi_wp2
      go_end0
      exact ⟨⟨_, rfl⟩, .inl ⟨_, rfl, hJs⟩⟩
set_option maxHeartbeats 1000000 in
/-- slices.Backward(s): the slice lies in a variable of its own, which the literal captures. -/
theorem impl_MirrorHoles.back (F : Fence) (n : Nat) (hF : F.fn 58) (hro : F.round = none) (a : Option Addr) (len cap : Nat) (w : World) :
    CallsIn F n Try.prog 58 #[.slice a len cap] w fun e w' => e = .returned (.func (.func 72) #[] #[.pointer (some ⟨w.heap.size, 0, none⟩)]) ∧ w' = w.alloc (.cells #[.slice a len cap] 28) := by
  refine callsIn_of_wp Try.func58 rfl hF ?_ hro
  simp only [Try.ntmps58, List.size_toArray, List.length_cons, List.length_nil, Nat.reduceAdd, Nat.reduceSub, Array.replicate_succ, Array.replicate_zero, List.push_toArray, List.append_toArray, List.nil_append, List.cons_append]
  gi_wp2
  go_ret
  exact ⟨rfl, rfl⟩
theorem impl_MirrorHoles.stops (F : Fence) (n : Nat) (hF : F.fn 72) (hro : F.round = none) (hn : 1 ≤ n) (Bs n₀ cap : Nat) (ad : Addr) (zs : List Int) (hz : zs.length ≤ 1048576) (w : World) (hb : Bs < w.heap.size) (hn₀ : n₀ ≤ w.heap.size)
    (hBs : w.cell? ⟨Bs, 0, none⟩ = some (.slice (some ad) zs.length cap)) (hc : ∀ q : Nat, q < zs.length → w.cell? (ad.add q) = some (.int .i64 (rd zs (q : Int))) ∧ (ad.add q).block < n₀) :
    SeqStopsK F n Try.prog 72 #[.pointer (some ⟨Bs, 0, none⟩)] (fun x : Nat × Int => #[Value.int .i64 (x.1 : Int), Value.int .i64 x.2]) (impl_MirrorHoles.Kp n₀ Bs) (fun ys => ys = impl_MirrorHoles.down zs zs.length)
      (fun pre => ∃ k, k ≤ zs.length ∧ pre = impl_MirrorHoles.down zs k) zs.length w := fun l J Jx W hW _ _ hY h0 =>
  impl_MirrorHoles.back1 F n hF hro hn l Bs n₀ cap ad zs hz J Jx hY W ((hW.cell (p := ⟨Bs, 0, none⟩) hb).trans hBs) (fun q hq => ⟨(hW.cell (p := ad.add q) (Nat.lt_of_lt_of_le (hc q hq).2 hn₀)).trans (hc q hq).1, (hc q hq).2⟩) h0
theorem impl_MirrorHoles.info : (Try.prog.info? 2).map (fun i => (i.zero, i.size, i.bytes)) = some (some (.int .i64 0), 1, 8) := by kernel_rfl
set_option maxRecDepth 100000 in
set_option maxHeartbeats 4000000 in
theorem impl_MirrorHoles.good (k n : Nat) (hn : 8 ≤ n) (A0 : Option Addr) (c0 : Nat) (l0 : List Int) (a1 : Int) (w : World) (hr0 : Kd.C (Kd.int .i64) w A0 l0.length l0) (hc0 : l0.length ≤ c0) (h40 : impl_AreHoles.f k l0 = some true) (h1 : 1 ≤ l0.length) (h2 : l0.length ≤ 1048576)
    (h3 : rd l0 ((l0.length - 1 : Nat) : Int) ≤ a1) (h4 : a1 ≤ 20000) :
    CallsIn Fence.wide n Try.prog 30 #[.slice A0 l0.length c0, .int .i64 a1] w fun e w' => ∃ v0_ : Value, e = .returned (.tuple #[v0_, .int .i64 0]) ∧ Kd.R (Kd.int .i64) 2 w' w.heap.size (fun _ => True) v0_ (impl_MirrorHoles.mir a1 (impl_MirrorHoles.down l0 l0.length)) ∧ Below w.heap.size w w' := by
  obtain ⟨i0, hi, hz0, hz1, hz2⟩ := info_parts impl_MirrorHoles.info
  have hIn : impl_inRange.f a1 (rd l0 ((l0.length - 1 : Nat) : Int)) 20000 = some true := by unfold impl_inRange.f; rw [if_pos h3, decide_eq_true h4]
  obtain ⟨ad, ead, hlast⟩ := Kd.at_int hr0 ((l0.length - 1 : Nat) : Int) (by omega) (by omega)
  cases ead
  have hcs : ∀ q : Nat, q < l0.length → w.cell? (ad.add q) = some (.int .i64 (rd l0 (q : Int))) ∧ (ad.add q).block < w.heap.size := fun q hq => by
    obtain ⟨ad', e', hx⟩ := Kd.at_int hr0 (q : Int) (by omega) (by omega)
    cases e'
    have hx : w.cell? (ad.add q) = some (.int .i64 (rd l0 (q : Int))) := by simpa using hx
    exact ⟨hx, World.block_lt_of_cell? _ _ hx⟩
  have HCS := Aside0.mk hcs
  have HR := Aside0.mk hr0
  have HLen := Aside0.mk h2
  rw [show (((l0.length - 1 : Nat) : Int)).toNat = l0.length - 1 by omega] at hlast
  have hw1 : IntKind.i64.wrap ((l0.length : Int) - 1) = ((l0.length - 1 : Nat) : Int) := by rw [IntWalk.i64_in _ (by omega)]; omega
  have g1 : (0 : Int) ≤ ((l0.length - 1 : Nat) : Int) := by omega
  have g2 : ((l0.length - 1 : Nat) : Int) < (l0.length : Int) := by omega
  clear hr0 hcs
  generalize rd l0 ((l0.length - 1 : Nat) : Int) = y at hlast hIn
  have mixed : Try.prog.follows .mixedOrders = true := by kernel_rfl
  have hd1 : 1 ≤ n := by omega
  have bH0 := Boxed.new w 2 (.int .i64 a1)
  have H40 := Aside0.mk (show ∀ (m : Nat) (W : World), Below w.heap.size w W → CallsIn Fence.wide m Try.prog 40 #[.slice (some ad) l0.length c0] W (fun e w' => e = .returned (.bool true) ∧ Below W.heap.size W w') from fun m W hW => callsIn_wide.2 (impl_AreHoles.calls k (some ad) c0 l0 true W (Kd.C_below HR.out hW) hc0 h40))
  have H53 := Aside0.mk (show ∀ (m : Nat) (W : World), CallsIn Fence.wide m Try.prog 53 #[.int .i64 a1, .int .i64 y, .int .i64 20000] W (fun e w' => e = .returned (.bool true) ∧ Drawn0 W w') from fun m W => callsIn_wide.2 (impl_inRange.calls a1 y 20000 true W hIn))
  clear hIn h40
  have hHA := bH0.cell
  have hLA : (w.alloc (.cells #[.int .i64 a1] 2)).cell? (ad.add (l0.length - 1)) = some (.int .i64 y) := ((below_alloc (Below.refl w.heap.size w) (.cells #[.int .i64 a1] 2)).cell (p := ad.add (l0.length - 1)) (HCS.out (l0.length - 1) (by omega)).2).trans hlast
  have hbz : w.heap.size < (w.alloc (.cells #[.int .i64 a1] 2)).heap.size := by simp
  have hbl : (ad.add (l0.length - 1)).block < (w.alloc (.cells #[.int .i64 a1] 2)).heap.size := by have := (HCS.out (l0.length - 1) (by omega)).2; simp; omega
  have hfa : Fence.wide.fn 40 := trivial
  have hfi : Fence.wide.fn 53 := trivial
  have hfk : Fence.wide.fn 58 := trivial
  refine callsIn_of_wp_marks Try.func30 rfl trivial ?_ rfl
  simp only [Try.ntmps30, List.size_toArray, List.length_cons, List.length_nil, Nat.reduceAdd, Nat.reduceSub, Array.replicate_succ, Array.replicate_zero, List.push_toArray, List.append_toArray, List.nil_append, List.cons_append]
  gi_wp2
  refine impl_MirrorHoles.calmly ?_
  gi_region_with_o (first | (gi_at_call 40; refine (H40.out _ _ (by repeat (first | exact Below.refl _ _ | refine below_alloc ?_ _ | refine pw_below_drewN ?_ _))).mono ?_; rintro e w1 ⟨rfl, hB1⟩; have k1 : w1.cell? ⟨w.heap.size, 0, none⟩ = some (.int .i64 a1) := (hB1.cell (p := ⟨w.heap.size, 0, none⟩) hbz).trans hHA; have k2 : w1.cell? (ad.add (l0.length - 1)) = some (.int .i64 y) := (hB1.cell (p := ad.add (l0.length - 1)) hbl).trans hLA; have HB1 := Aside0.mk hB1; clear hB1) | (gi_at_call 53; refine (H53.out _ _).mono ?_; rintro e w2 ⟨rfl, ⟨m2, rfl⟩⟩))
  all_goals simp only [impl_MirrorHoles.calm]
  all_goals (clear mixed)
  all_goals (gi_wp2_with (gi_at_call 58; refine (impl_MirrorHoles.back Fence.wide _ hfk rfl _ _ _ _).mono ?_; rintro e w' ⟨rfl, rfl⟩))
  all_goals (
    have hnb : w.heap.size < w1.heap.size := by have := HB1.out.size; simp at this; omega
    have HBw : Below w.heap.size w (w1.drewN m2) := pw_below_drewN ((below_drew1 (below_alloc (Below.refl w.heap.size w) (.cells #[.int .i64 a1] 2))).trans (HB1.out.mono (B' := w.heap.size) (by simp))) m2
    have bH1 : Boxed (w1.drewN m2) w.heap.size 2 (.int .i64 a1) := (HB1.out.block w.heap.size (by simp)).trans bH0
    obtain ⟨W1, hW1⟩ : ∃ W1, W1 = w1.drewN m2 := ⟨_, rfl⟩
    have hs1 : w1.heap.size = W1.heap.size := by rw [hW1]; rfl
    rw [← hW1] at HBw bH1 ⊢
    rw [hs1] at hnb ⊢
    clear hW1 hs1 HB1 k1 k2 H40 H53 hHA hLA hbz hbl hlast bH0
    have hBu := Try.underlying28
    have bO : Boxed (((W1.alloc (.cells #[] 2)).alloc (.cells #[.slice (some ⟨W1.heap.size, 0, none⟩) 0 0] 28)).alloc (.cells #[.slice (some ad) l0.length c0] 28)) (W1.heap.size + 1) 28 (.slice (some ⟨W1.heap.size, 0, none⟩) 0 0) := by
      have := (Boxed.new (W1.alloc (.cells #[] 2)) 28 (.slice (some ⟨W1.heap.size, 0, none⟩) 0 0)).alloc (.cells #[.slice (some ad) l0.length c0] 28)
      rwa [World.size_alloc] at this
    have bS : Boxed (((W1.alloc (.cells #[] 2)).alloc (.cells #[.slice (some ⟨W1.heap.size, 0, none⟩) 0 0] 28)).alloc (.cells #[.slice (some ad) l0.length c0] 28)) (W1.heap.size + 1 + 1) 28 (.slice (some ad) l0.length c0) := by
      have := Boxed.new ((W1.alloc (.cells #[] 2)).alloc (.cells #[.slice (some ⟨W1.heap.size, 0, none⟩) 0 0] 28)) 28 (.slice (some ad) l0.length c0)
      rwa [World.size_alloc, World.size_alloc] at this
    have hB4 : Below W1.heap.size W1 (((W1.alloc (.cells #[] 2)).alloc (.cells #[.slice (some ⟨W1.heap.size, 0, none⟩) 0 0] 28)).alloc (.cells #[.slice (some ad) l0.length c0] 28)) := (((Below.refl _ W1).alloc (Nat.le_refl _) _).alloc (by simp) _).alloc (by simp; omega) _
    have own0 : (((W1.alloc (.cells #[] 2)).alloc (.cells #[.slice (some ⟨W1.heap.size, 0, none⟩) 0 0] 28)).alloc (.cells #[.slice (some ad) l0.length c0] 28)).ownsRow W1.heap.size 2 1 (.slice (some ⟨W1.heap.size, 0, none⟩) 0 0) 0 [] := by
      refine ⟨rfl, .inr ⟨W1.heap.size, 0, #[], rfl, Nat.le_refl _, ?_, Nat.le_refl _, Nat.zero_le _, rfl, rfl⟩⟩
      exact (Below.heap_alloc _ _ _ (by simp; omega)).trans ((Below.heap_alloc _ _ _ (by simp)).trans (World.alloc_heap_new W1 _))
    have hsz : (((W1.alloc (.cells #[] 2)).alloc (.cells #[.slice (some ⟨W1.heap.size, 0, none⟩) 0 0] 28)).alloc (.cells #[.slice (some ad) l0.length c0] 28)).heap.size = W1.heap.size + 3 := by simp
    have hcs4 : ∀ q : Nat, q < l0.length → (((W1.alloc (.cells #[] 2)).alloc (.cells #[.slice (some ⟨W1.heap.size, 0, none⟩) 0 0] 28)).alloc (.cells #[.slice (some ad) l0.length c0] 28)).cell? (ad.add q) = some (.int .i64 (rd l0 (q : Int))) ∧ (ad.add q).block < W1.heap.size := fun q hq => by
      obtain ⟨x1, x2⟩ := HCS.out q hq
      have x3 : (ad.add q).block < W1.heap.size := by omega
      exact ⟨(hB4.cell (p := ad.add q) x3).trans ((HBw.cell (p := ad.add q) x2).trans x1), x3⟩
    generalize (((W1.alloc (.cells #[] 2)).alloc (.cells #[.slice (some ⟨W1.heap.size, 0, none⟩) 0 0] 28)).alloc (.cells #[.slice (some ad) l0.length c0] 28)) = W4 at bO bS hB4 own0 hsz hcs4 ⊢
    refine wpIn_rangeFunc_ownG rfl hd1 (gf := 72) (lb := #[.pointer (some ⟨W1.heap.size + 1 + 1, 0, none⟩)]) rfl trivial (enters_of Try.func72 (by kernel_rfl) rfl)
      (impl_MirrorHoles.stops Fence.wide (n - 1) trivial rfl (by omega) (W1.heap.size + 1 + 1) W1.heap.size c0 ad l0 h2 W4 (by omega) (by omega) bS.cell hcs4) (fun h k => impl_MirrorHoles.Kp_t h k) (impl_MirrorHoles.Kp_b (by omega) (by omega)) (Below.refl _ _) (fun _ => rfl)
      (fun pre W => (∃ v, Boxed W (W1.heap.size + 1) 28 v ∧ W.ownsRow W1.heap.size 2 1 v pre.length ((impl_MirrorHoles.mir a1 pre).map (Value.int .i64)) ∧ True) ∧ Boxed W (W1.heap.size + 1 + 1) 28 (.slice (some ad) l0.length c0) ∧ Below W1.heap.size W1 W)
      (fun _ _ _ => False)
      (OwnFrom.and (Own.from (holdsRow_own W1.heap.size (W1.heap.size + 1) 28 2 1 (fun pre => pre.length) (fun pre => (impl_MirrorHoles.mir a1 pre).map (Value.int .i64)) (fun _ _ => True)) _) (OwnFrom.and (Own.from (impl_MirrorHoles.boxed_own _ _ _) _) (ownFrom_below (Nat.le_refl _) (by omega))))
      (fun _ _ _ _ _ hs _ _ => hs)
      ⟨⟨_, bO, own0, trivial⟩, bS, hB4⟩
      (fun x => { tmps := #[.slice (some ad) l0.length c0, .int .i64 a1, undef, .pointer (some ⟨w.heap.size, 0, none⟩), .slice none 0 0, .int .i64 0, .pointer (some ⟨W1.heap.size + 1, 0, none⟩), undef, .int .i64 x.2, .slice (some ad) l0.length c0, .bool true, .bool false, .bool false, .int .i64 a1, .slice (some ad) l0.length c0, .slice (some ad) l0.length c0, .int .i64 l0.length, .int .i64 ((l0.length - 1 : Nat) : Int), .pointer (some (ad.add (l0.length - 1))), .int .i64 y, .bool true, .bool false, .bool false, .slice (some ⟨W1.heap.size, 0, none⟩) 0 0, .slice (some ad) l0.length c0, .func (.func 72) #[] #[.pointer (some ⟨W1.heap.size + 1 + 1, 0, none⟩)], .int .i64 (x.1 : Int), .int .i64 x.2, undef, undef, undef, undef, undef, undef, undef], defers := [] }) ?assign ?body ?done ?stop
    case assign =>
      intro l x W K hK
      gi_wp2
      exact hK
    case body =>
      rintro l pre x W ⟨⟨v, hv, hrow, _⟩, hbS, hB⟩ hlt
      have hc := hv.cell
      have hbH : Boxed W w.heap.size 2 (.int .i64 a1) := (hB.block w.heap.size hnb).trans bH1
      have hcH := hbH.cell
      gi_wp2_with (gi_at_builtin; refine wpListIn_append_own _ rfl _ _ 28 rfl W1.heap.size 2 i0 (.int .i64 0) 1 8 hBu hi hz0 hz1 hz2 rfl (by decide) _ _ _ rfl (hrow.alloc _) ⟨W.heap.size, 0, none⟩ 1 1 [.int .i64 (wrap64 (a1 - x.2))] rfl rfl (cell_one_new _ _ _) (by simp [Value.oneCell']) (by unfold maxLen; omega) (by omega) (by have := hB.size; simp; omega) ?_; intro v' w9 hown' hgrow _; obtain ⟨g', cap', rfl⟩ := ownsRow_succ hown'; obtain ⟨hv1, hv2, hr2, hk2, hb2⟩ := hv.appended (by decide) hrow hB.size (by omega) hown' hgrow; have hc1 := hv1.cell; have hf1 := hv1.frozen)
      have hne : some (W1.heap.size + 1 + 1) ≠ v.ownBlock := hbS.not_row (by decide) hrow
      have hb3 : w9.heap[W1.heap.size + 1 + 1]? = W.heap[W1.heap.size + 1 + 1]? := (hgrow.block _ (by have := hbS.lt; simp; omega) hne).trans (Below.heap_alloc _ _ _ hbS.lt)
      have hb4 := (Below.heap_setCell w9 ⟨W1.heap.size + 1, 0, none⟩ (.slice (some ⟨g', 0, none⟩) (pre.length + 1) cap') (W1.heap.size + 1 + 1) (by simp)).trans hb3
      exact ⟨hk2.from _, ⟨hb2, hb4⟩, ⟨_, hv2, by rw [impl_MirrorHoles.mir_snoc]; simpa using hr2, trivial⟩, hb4.trans hbS, hB.trans hb2⟩
    case done =>
      rintro D ys W hD rfl ⟨⟨v, hv, hrow, _⟩, hbS, hB⟩ hK
      have hc := hv.cell
      gi_wp2
      refine ⟨by simp, .inl ⟨_, _, rfl, run_takeDeferred hK, ?_⟩⟩
      refine ⟨_, results_tmp2 rfl _ _ _, v, rfl, ?_, HBw.trans ((hB.trans (belowK_b (w := W4) (by omega) W D _ _ hD hK rfl rfl)).mono (by omega))⟩
      have ho := ownsRow_putObj hrow (.deferred none) hK rfl
      have ho2 := own_weaken ho (show w.heap.size ≤ W1.heap.size by omega)
      rw [show (impl_MirrorHoles.down l0 l0.length).length = (impl_MirrorHoles.mir a1 (impl_MirrorHoles.down l0 l0.length)).length by simp [impl_MirrorHoles.mir]] at ho2
      exact Kd.R_of_own ho2 (fun _ _ => trivial)
    case stop =>
      rintro D c pre W _ _ h _
      exact h.elim)
set_option maxRecDepth 100000 in
set_option maxHeartbeats 4000000 in
theorem impl_MirrorHoles.bad2 (k n : Nat) (hn : 8 ≤ n) (A0 : Option Addr) (c0 : Nat) (l0 : List Int) (a1 : Int) (w : World) (hr0 : Kd.C (Kd.int .i64) w A0 l0.length l0) (hc0 : l0.length ≤ c0) (h40 : impl_AreHoles.f k l0 = some true) (h1 : 1 ≤ l0.length) (h2 : l0.length ≤ 1048576)
    (h3 : ¬ (rd l0 ((l0.length - 1 : Nat) : Int) ≤ a1 ∧ a1 ≤ 20000)) :
    CallsIn Fence.wide n Try.prog 30 #[.slice A0 l0.length c0, .int .i64 a1] w fun e w' => e = .returned (.tuple #[.slice none 0 0, .int .i64 2]) ∧ Below w.heap.size w w' := by
  have hIn : impl_inRange.f a1 (rd l0 ((l0.length - 1 : Nat) : Int)) 20000 = some false := by
    unfold impl_inRange.f
    by_cases h5 : rd l0 ((l0.length - 1 : Nat) : Int) ≤ a1
    · rw [if_pos h5, decide_eq_false (fun h6 => h3 ⟨h5, h6⟩)]
    · rw [if_neg h5]
  obtain ⟨ad, ead, hlast⟩ := Kd.at_int hr0 ((l0.length - 1 : Nat) : Int) (by omega) (by omega)
  cases ead
  have hcs : ∀ q : Nat, q < l0.length → w.cell? (ad.add q) = some (.int .i64 (rd l0 (q : Int))) ∧ (ad.add q).block < w.heap.size := fun q hq => by
    obtain ⟨ad', e', hx⟩ := Kd.at_int hr0 (q : Int) (by omega) (by omega)
    cases e'
    have hx : w.cell? (ad.add q) = some (.int .i64 (rd l0 (q : Int))) := by simpa using hx
    exact ⟨hx, World.block_lt_of_cell? _ _ hx⟩
  have HCS := Aside0.mk hcs
  have HR := Aside0.mk hr0
  have HLen := Aside0.mk h2
  rw [show (((l0.length - 1 : Nat) : Int)).toNat = l0.length - 1 by omega] at hlast
  have hw1 : IntKind.i64.wrap ((l0.length : Int) - 1) = ((l0.length - 1 : Nat) : Int) := by rw [IntWalk.i64_in _ (by omega)]; omega
  have g1 : (0 : Int) ≤ ((l0.length - 1 : Nat) : Int) := by omega
  have g2 : ((l0.length - 1 : Nat) : Int) < (l0.length : Int) := by omega
  clear hr0 hcs
  generalize rd l0 ((l0.length - 1 : Nat) : Int) = y at hlast hIn
  have mixed : Try.prog.follows .mixedOrders = true := by kernel_rfl
  have hd1 : 1 ≤ n := by omega
  have bH0 := Boxed.new w 2 (.int .i64 a1)
  have H40 := Aside0.mk (show ∀ (m : Nat) (W : World), Below w.heap.size w W → CallsIn Fence.wide m Try.prog 40 #[.slice (some ad) l0.length c0] W (fun e w' => e = .returned (.bool true) ∧ Below W.heap.size W w') from fun m W hW => callsIn_wide.2 (impl_AreHoles.calls k (some ad) c0 l0 true W (Kd.C_below HR.out hW) hc0 h40))
  have H53 := Aside0.mk (show ∀ (m : Nat) (W : World), CallsIn Fence.wide m Try.prog 53 #[.int .i64 a1, .int .i64 y, .int .i64 20000] W (fun e w' => e = .returned (.bool false) ∧ Drawn0 W w') from fun m W => callsIn_wide.2 (impl_inRange.calls a1 y 20000 false W hIn))
  clear hIn h40
  have hHA := bH0.cell
  have hLA : (w.alloc (.cells #[.int .i64 a1] 2)).cell? (ad.add (l0.length - 1)) = some (.int .i64 y) := ((below_alloc (Below.refl w.heap.size w) (.cells #[.int .i64 a1] 2)).cell (p := ad.add (l0.length - 1)) (HCS.out (l0.length - 1) (by omega)).2).trans hlast
  have hbz : w.heap.size < (w.alloc (.cells #[.int .i64 a1] 2)).heap.size := by simp
  have hbl : (ad.add (l0.length - 1)).block < (w.alloc (.cells #[.int .i64 a1] 2)).heap.size := by have := (HCS.out (l0.length - 1) (by omega)).2; simp; omega
  have hfa : Fence.wide.fn 40 := trivial
  have hfi : Fence.wide.fn 53 := trivial
  have hfk : Fence.wide.fn 58 := trivial
  clear h3
  refine callsIn_of_wp Try.func30 rfl trivial ?_ rfl
  simp only [Try.ntmps30, List.size_toArray, List.length_cons, List.length_nil, Nat.reduceAdd, Nat.reduceSub, Array.replicate_succ, Array.replicate_zero, List.push_toArray, List.append_toArray, List.nil_append, List.cons_append]
  gi_wp2
  refine impl_MirrorHoles.calmly ?_
  gi_region_with_o (first | (gi_at_call 40; refine (H40.out _ _ (by repeat (first | exact Below.refl _ _ | refine below_alloc ?_ _ | refine pw_below_drewN ?_ _))).mono ?_; rintro e w1 ⟨rfl, hB1⟩; have k1 : w1.cell? ⟨w.heap.size, 0, none⟩ = some (.int .i64 a1) := (hB1.cell (p := ⟨w.heap.size, 0, none⟩) hbz).trans hHA; have k2 : w1.cell? (ad.add (l0.length - 1)) = some (.int .i64 y) := (hB1.cell (p := ad.add (l0.length - 1)) hbl).trans hLA; have HB1 := Aside0.mk hB1; clear hB1) | (gi_at_call 53; refine (H53.out _ _).mono ?_; rintro e w2 ⟨rfl, ⟨m2, rfl⟩⟩))
  all_goals simp only [impl_MirrorHoles.calm]
  all_goals (clear mixed)
  all_goals (gi_wp2; refine bodyPost_ret (results_tmp2 rfl _ _ _) rfl ?_)
  all_goals exact ⟨rfl, pw_below_drewN ((below_drew1 (below_alloc (Below.refl w.heap.size w) (.cells #[.int .i64 a1] 2))).trans (HB1.out.mono (B' := w.heap.size) (by simp))) m2⟩
set_option maxRecDepth 100000 in
set_option maxHeartbeats 4000000 in
theorem impl_MirrorHoles.bad1 (k n : Nat) (hn : 8 ≤ n) (A0 : Option Addr) (c0 : Nat) (l0 : List Int) (a1 : Int) (w : World) (hr0 : Kd.C (Kd.int .i64) w A0 l0.length l0) (hc0 : l0.length ≤ c0) (h40 : impl_AreHoles.f k l0 = some false) :
    CallsIn Fence.wide n Try.prog 30 #[.slice A0 l0.length c0, .int .i64 a1] w fun e w' => e = .returned (.tuple #[.slice none 0 0, .int .i64 2]) ∧ Below w.heap.size w w' := by
  have HR := Aside0.mk hr0
  clear hr0
  have mixed : Try.prog.follows .mixedOrders = true := by kernel_rfl
  have hd1 : 1 ≤ n := by omega
  have H40 := Aside0.mk (show ∀ (m : Nat) (W : World), Below w.heap.size w W → CallsIn Fence.wide m Try.prog 40 #[.slice A0 l0.length c0] W (fun e w' => e = .returned (.bool false) ∧ Below W.heap.size W w') from fun m W hW => callsIn_wide.2 (impl_AreHoles.calls k A0 c0 l0 false W (Kd.C_below HR.out hW) hc0 h40))
  clear h40
  have hfa : Fence.wide.fn 40 := trivial
  have hfi : Fence.wide.fn 53 := trivial
  refine callsIn_of_wp Try.func30 rfl trivial ?_ rfl
  simp only [Try.ntmps30, List.size_toArray, List.length_cons, List.length_nil, Nat.reduceAdd, Nat.reduceSub, Array.replicate_succ, Array.replicate_zero, List.push_toArray, List.append_toArray, List.nil_append, List.cons_append]
  gi_wp2
  refine impl_MirrorHoles.calmly ?_
  (first | (gi_region_with_o (gi_at_call 40; refine (H40.out _ _ (by repeat (first | exact Below.refl _ _ | refine below_alloc ?_ _ | refine pw_below_drewN ?_ _))).mono ?_; rintro e w1 ⟨rfl, hB1⟩; have HB1 := Aside0.mk hB1; clear hB1)) | fail)
  all_goals simp only [impl_MirrorHoles.calm]
  all_goals (clear mixed)
  all_goals (gi_wp2; refine bodyPost_ret (results_tmp2 rfl _ _ _) rfl ?_)
  all_goals exact ⟨rfl, (below_drew1 (below_alloc (Below.refl w.heap.size w) (.cells #[.int .i64 a1] 2))).trans (HB1.out.mono (B' := w.heap.size) (by simp))⟩
theorem impl_MirrorHoles.calls (k : Nat) (A0 : Option Addr) (c0 : Nat) (l0 : List Int) (a1 : Int) (r1 : List Int) (r2 : Int) (w : World) (hr0 : Kd.C (Kd.int .i64) w A0 l0.length l0) (hc0 : l0.length ≤ c0) (h : impl_MirrorHoles.f k l0 a1 = some (r1, r2)) :
    Calls Try.prog 30 #[.slice A0 l0.length c0, .int .i64 a1] w fun e w' => ∃ v0_ : Value, e = .returned (.tuple #[v0_, .int .i64 r2]) ∧ Kd.R (Kd.int .i64) 2 w' w.heap.size (fun _ => True) v0_ r1 ∧ Below w.heap.size w w' := by
  unfold impl_MirrorHoles.f at h
  obtain ⟨t, h40, h⟩ := Option.bind_eq_some_iff.mp h
  cases t with
  | false =>
    rw [if_neg (by decide)] at h
    obtain ⟨rfl, rfl⟩ := Prod.mk.inj (Option.some.inj h)
    refine callsIn_wide.1 ((impl_MirrorHoles.bad1 k 8 (Nat.le_refl _) A0 c0 l0 a1 w hr0 hc0 h40).mono ?_)
    rintro e w' ⟨rfl, hB⟩
    exact ⟨_, rfl, Kd.R_nil _ _ _ _ _, hB⟩
  | true =>
    rw [if_pos rfl] at h
    by_cases h1 : 1 ≤ l0.length ∧ l0.length ≤ 1048576
    · rw [if_pos h1] at h
      by_cases h3 : rd l0 ((l0.length - 1 : Nat) : Int) ≤ a1 ∧ a1 ≤ 20000
      · rw [if_pos h3] at h
        obtain ⟨rfl, rfl⟩ := Prod.mk.inj (Option.some.inj h)
        exact callsIn_wide.1 (impl_MirrorHoles.good k 8 (Nat.le_refl _) A0 c0 l0 a1 w hr0 hc0 h40 h1.1 h1.2 h3.1 h3.2)
      · rw [if_neg h3] at h
        obtain ⟨rfl, rfl⟩ := Prod.mk.inj (Option.some.inj h)
        refine callsIn_wide.1 ((impl_MirrorHoles.bad2 k 8 (Nat.le_refl _) A0 c0 l0 a1 w hr0 hc0 h40 h1.1 h1.2 h3).mono ?_)
        rintro e w' ⟨rfl, hB⟩
        exact ⟨_, rfl, Kd.R_nil _ _ _ _ _, hB⟩
    · rw [if_neg h1] at h
      cases h
end

/-! ### laws_big: function 35 -/
def laws_big.f (l0 : List Int) : Option (Bool) := some (decide ((l0.length : Int) > 4096))
set_option maxHeartbeats 8000000 in
set_option maxRecDepth 100000 in
theorem laws_big.calls (A0 : Option Addr) (c0 : Nat) (l0 : List Int) (r : Bool) (w : World) (hr0 : Kd.C (Kd.int .u8) w A0 l0.length l0) (hc0 : l0.length ≤ c0) (h : laws_big.f l0 = some r) :
    Calls Try.prog 35 #[.slice A0 l0.length c0] w fun e w' => e = .returned (.bool r) ∧ Drawn0 w w' := by
  have HR0 := Aside0.mk hr0
  have HC0 := Aside0.mk hc0
  clear hr0 hc0
  have H : (some (decide ((l0.length : Int) > 4096))) = some r := h
  clear h
  obtain rfl := Option.some.inj H
  go_enter Try.func35, Try.ntmps35
  go_wp2
  go_ret
  exact ⟨by first | rfl | (simp; done) | (simp [*]; done), by repeat (first | exact Drawn0.refl _ | apply Drawn0.step)⟩

end Go.Proofs.Ytdelnmbfokipoaa.PFnHoles
