-- Written by a program of this session.
import Derived.Test.YthmeohanbggnlaaPFnExplainedx0
import Derived.Test.YthmeohanbggnlaaPFnExplainedx2
import Derived.Test.YthmeohanbggnlaaPFnExplainedx7
namespace Go.Proofs.Ythmeohanbggnlaa.PFnExplained
open Go.RowKit Go.Proofs.YthmeohanbggnlaaW.PrintWords Go.Proofs.YthmeohanbggnlaaW.PrintLast Go.Proofs.YthmeohanbggnlaaW.PrintMore
attribute [local go_sem] max2_int min2_int max_two min_two max_three min_three max_four min_four   -- for this text's walks alone
set_option linter.unusedVariables false
set_option linter.unusedSimpArgs false

/-! ### impl_AreFaults: function 21 -/
mutual
def impl_AreFaults.j0 : Nat → Int → Int → List (S55) → Bool → Option (Bool)
  | 0, _, _, _, _ => none
  | k + 1, x0, x1, x2, x17 => if x17 = true then (some false) else (impl_AreFaults.l0 k x0 x1 x2 x2 (x2.length : Int) 0)
def impl_AreFaults.l0 : Nat → Int → Int → List (S55) → List (S55) → Int → Int → Option (Bool)
  | 0, _, _, _, _, _, _ => none
  | k + 1, x0, x1, x2, x18, x19, x20 => if x20 < x19 then (if 0 ≤ x20 then (if x20 < (x18.length : Int) then ((impl_inRange.f ((rd_T55 x18 x20).f0) 0 (wrap64 (x1 - 1))).bind fun t232 => (if t232 = true then ((impl_inRange.f ((rd_T55 x18 x20).f1) 0 (wrap64 (x0 - 1))).bind fun t233 => (if t233 = true then ((impl_inRange.f ((rd_T55 x18 x20).f2) 1 4).bind fun t234 => (impl_AreFaults.j2 k x0 x1 x2 x20 x18 x19 x20 (!t234) ((rd_T55 x18 x20).f0) ((rd_T55 x18 x20).f1) ((rd_T55 x18 x20).f2) ((rd_T55 x18 x20).f3))) else (impl_AreFaults.j2 k x0 x1 x2 x20 x18 x19 x20 true ((rd_T55 x18 x20).f0) ((rd_T55 x18 x20).f1) ((rd_T55 x18 x20).f2) ((rd_T55 x18 x20).f3)))) else (impl_AreFaults.j2 k x0 x1 x2 x20 x18 x19 x20 true ((rd_T55 x18 x20).f0) ((rd_T55 x18 x20).f1) ((rd_T55 x18 x20).f2) ((rd_T55 x18 x20).f3)))) else (none)) else (none)) else (some true)
def impl_AreFaults.j2 : Nat → Int → Int → List (S55) → Int → List (S55) → Int → Int → Bool → Int → Int → Int → Int → Option (Bool)
  | 0, _, _, _, _, _, _, _, _, _, _, _, _ => none
  | k + 1, x0, x1, x2, x7, x18, x19, x20, x44, x232000, x232001, x232002, x232003 => if x44 = true then (some false) else (if x232002 = 4 then ((impl_inRange.f x232003 0 (wrap64 (x0 - 1))).bind fun t235 => (if t235 = true then (if x232003 = x232001 then (impl_AreFaults.j3 k x0 x1 x2 x7 x18 x19 x20 true x232000 x232001 x232002 x232003) else (impl_AreFaults.j3 k x0 x1 x2 x7 x18 x19 x20 false x232000 x232001 x232002 x232003)) else (impl_AreFaults.j3 k x0 x1 x2 x7 x18 x19 x20 true x232000 x232001 x232002 x232003))) else (impl_AreFaults.j3 k x0 x1 x2 x7 x18 x19 x20 (x232003 != 0) x232000 x232001 x232002 x232003))
def impl_AreFaults.j3 : Nat → Int → Int → List (S55) → Int → List (S55) → Int → Int → Bool → Int → Int → Int → Int → Option (Bool)
  | 0, _, _, _, _, _, _, _, _, _, _, _, _ => none
  | k + 1, x0, x1, x2, x7, x18, x19, x20, x72, x232000, x232001, x232002, x232003 => if x72 = true then (some false) else (if 0 ≤ x7 then (if x7 ≤ (x2.length : Int) then ((impl_AreFaults_1.f (x2.take (x7 : Int).toNat) x232000 x232001 x232002 x232003).bind fun t240 => (if t240 = true then (some false) else (impl_AreFaults.l0 k x0 x1 x2 x18 x19 (wrap64 (x20 + 1))))) else (none)) else (none))
end
def impl_AreFaults.f (k : Nat) (a0 : Int) (a1 : Int) (l2 : List (S55)) : Option (Bool) := (impl_isLine.f a0 a1).bind fun t229 => (if t229 = true then (impl_AreFaults.j0 k a0 a1 l2 (decide ((l2.length : Int) > 20))) else (impl_AreFaults.j0 k a0 a1 l2 true))
theorem impl_AreFaults.mono_l : ∀ k, (∀ y0 y1 y2 y3, LeO (impl_AreFaults.j0 k y0 y1 y2 y3) (impl_AreFaults.j0 (k + 1) y0 y1 y2 y3)) ∧ (∀ y0 y1 y2 y3 y4 y5, LeO (impl_AreFaults.l0 k y0 y1 y2 y3 y4 y5) (impl_AreFaults.l0 (k + 1) y0 y1 y2 y3 y4 y5)) ∧ (∀ y0 y1 y2 y3 y4 y5 y6 y7 y8 y9 y10 y11, LeO (impl_AreFaults.j2 k y0 y1 y2 y3 y4 y5 y6 y7 y8 y9 y10 y11) (impl_AreFaults.j2 (k + 1) y0 y1 y2 y3 y4 y5 y6 y7 y8 y9 y10 y11)) ∧ (∀ y0 y1 y2 y3 y4 y5 y6 y7 y8 y9 y10 y11, LeO (impl_AreFaults.j3 k y0 y1 y2 y3 y4 y5 y6 y7 y8 y9 y10 y11) (impl_AreFaults.j3 (k + 1) y0 y1 y2 y3 y4 y5 y6 y7 y8 y9 y10 y11))
  | 0 => ⟨fun _ _ _ _ r h => by simp [impl_AreFaults.j0] at h, fun _ _ _ _ _ _ r h => by simp [impl_AreFaults.l0] at h, fun _ _ _ _ _ _ _ _ _ _ _ _ r h => by simp [impl_AreFaults.j2] at h, fun _ _ _ _ _ _ _ _ _ _ _ _ r h => by simp [impl_AreFaults.j3] at h⟩
  | k + 1 => by
    obtain ⟨ih0, ih1, ih2, ih3⟩ := impl_AreFaults.mono_l k
    refine ⟨?_, ?_, ?_, ?_⟩
    · intro y0 y1 y2 y3
      unfold impl_AreFaults.j0
      repeat' first
      | (with_reducible exact ih0 _ _ _ _)
      | (with_reducible exact ih1 _ _ _ _ _ _)
      | (with_reducible exact ih2 _ _ _ _ _ _ _ _ _ _ _ _)
      | (with_reducible exact ih3 _ _ _ _ _ _ _ _ _ _ _ _)
      | (with_reducible exact LeO.refl _)
      | (with_reducible exact LeO.none _)
      | (with_reducible refine LeO.ite ?_ ?_)
      | (with_reducible refine LeO.bind ?_ (fun _ => ?_))
      | exact ih0 _ _ _ _
      | exact ih1 _ _ _ _ _ _
      | exact ih2 _ _ _ _ _ _ _ _ _ _ _ _
      | exact ih3 _ _ _ _ _ _ _ _ _ _ _ _
      | exact LeO.none _
      | refine LeO.ite ?_ ?_
      | refine LeO.bind ?_ (fun _ => ?_)
    · intro y0 y1 y2 y3 y4 y5
      unfold impl_AreFaults.l0
      repeat' first
      | (with_reducible exact ih0 _ _ _ _)
      | (with_reducible exact ih1 _ _ _ _ _ _)
      | (with_reducible exact ih2 _ _ _ _ _ _ _ _ _ _ _ _)
      | (with_reducible exact ih3 _ _ _ _ _ _ _ _ _ _ _ _)
      | (with_reducible exact LeO.refl _)
      | (with_reducible exact LeO.none _)
      | (with_reducible refine LeO.ite ?_ ?_)
      | (with_reducible refine LeO.bind ?_ (fun _ => ?_))
      | exact ih0 _ _ _ _
      | exact ih1 _ _ _ _ _ _
      | exact ih2 _ _ _ _ _ _ _ _ _ _ _ _
      | exact ih3 _ _ _ _ _ _ _ _ _ _ _ _
      | exact LeO.none _
      | refine LeO.ite ?_ ?_
      | refine LeO.bind ?_ (fun _ => ?_)
    · intro y0 y1 y2 y3 y4 y5 y6 y7 y8 y9 y10 y11
      unfold impl_AreFaults.j2
      repeat' first
      | (with_reducible exact ih0 _ _ _ _)
      | (with_reducible exact ih1 _ _ _ _ _ _)
      | (with_reducible exact ih2 _ _ _ _ _ _ _ _ _ _ _ _)
      | (with_reducible exact ih3 _ _ _ _ _ _ _ _ _ _ _ _)
      | (with_reducible exact LeO.refl _)
      | (with_reducible exact LeO.none _)
      | (with_reducible refine LeO.ite ?_ ?_)
      | (with_reducible refine LeO.bind ?_ (fun _ => ?_))
      | exact ih0 _ _ _ _
      | exact ih1 _ _ _ _ _ _
      | exact ih2 _ _ _ _ _ _ _ _ _ _ _ _
      | exact ih3 _ _ _ _ _ _ _ _ _ _ _ _
      | exact LeO.none _
      | refine LeO.ite ?_ ?_
      | refine LeO.bind ?_ (fun _ => ?_)
    · intro y0 y1 y2 y3 y4 y5 y6 y7 y8 y9 y10 y11
      unfold impl_AreFaults.j3
      repeat' first
      | (with_reducible exact ih0 _ _ _ _)
      | (with_reducible exact ih1 _ _ _ _ _ _)
      | (with_reducible exact ih2 _ _ _ _ _ _ _ _ _ _ _ _)
      | (with_reducible exact ih3 _ _ _ _ _ _ _ _ _ _ _ _)
      | (with_reducible exact LeO.refl _)
      | (with_reducible exact LeO.none _)
      | (with_reducible refine LeO.ite ?_ ?_)
      | (with_reducible refine LeO.bind ?_ (fun _ => ?_))
      | exact ih0 _ _ _ _
      | exact ih1 _ _ _ _ _ _
      | exact ih2 _ _ _ _ _ _ _ _ _ _ _ _
      | exact ih3 _ _ _ _ _ _ _ _ _ _ _ _
      | exact LeO.none _
      | refine LeO.ite ?_ ?_
      | refine LeO.bind ?_ (fun _ => ?_)
theorem impl_AreFaults.mono : ∀ a0 a1 a2 k, LeO (impl_AreFaults.f k a0 a1 a2) (impl_AreFaults.f (k + 1) a0 a1 a2) := by
  intro a0 a1 a2 k
  obtain ⟨ih0, ih1, ih2, ih3⟩ := impl_AreFaults.mono_l k
  unfold impl_AreFaults.f
  repeat' first
      | (with_reducible exact ih0 _ _ _ _)
      | (with_reducible exact ih1 _ _ _ _ _ _)
      | (with_reducible exact ih2 _ _ _ _ _ _ _ _ _ _ _ _)
      | (with_reducible exact ih3 _ _ _ _ _ _ _ _ _ _ _ _)
      | (with_reducible exact LeO.refl _)
      | (with_reducible exact LeO.none _)
      | (with_reducible refine LeO.ite ?_ ?_)
      | (with_reducible refine LeO.bind ?_ (fun _ => ?_))
      | exact ih0 _ _ _ _
      | exact ih1 _ _ _ _ _ _
      | exact ih2 _ _ _ _ _ _ _ _ _ _ _ _
      | exact ih3 _ _ _ _ _ _ _ _ _ _ _ _
      | exact LeO.none _
      | refine LeO.ite ?_ ?_
      | refine LeO.bind ?_ (fun _ => ?_)
set_option maxHeartbeats 8000000 in
set_option maxRecDepth 100000 in
theorem impl_AreFaults.calls (k : Nat) (a0 : Int) (a1 : Int) (A2 : Option Addr) (c2 : Nat) (l2 : List (S55)) (r : Bool) (w : World) (hr2 : Kd.C k55 w A2 l2.length l2) (hc2 : l2.length ≤ c2) (h : impl_AreFaults.f k a0 a1 l2 = some r) :
    Calls Try.prog 21 #[.int .i64 a0, .int .i64 a1, .slice A2 l2.length c2] w fun e w' => e = .returned (.bool r) ∧ Below w.heap.size w w' := by
  have hu55 := Try.underlying55
  have HR2 := Aside0.mk hr2
  have HC2 := Aside0.mk hc2
  clear hr2 hc2
  have HB := Aside0.mk (Below.refl w.heap.size w)
  have H : ((impl_isLine.f a0 a1).bind fun t229 => (if t229 = true then (impl_AreFaults.j0 k a0 a1 l2 (decide ((l2.length : Int) > 20))) else (impl_AreFaults.j0 k a0 a1 l2 true))) = some r := h
  clear h
  have HC4 := Aside0.mk H
  clear H
  go_enter Try.func21, Try.ntmps21
  go_upto_region 1 with (fail)
  go_cut [17] (fun v17 wc => ∃ (kq : Nat) (x17_3 : Bool), v17 = .bool x17_3 ∧ Aside0 (impl_AreFaults.j0 kq a0 a1 l2 x17_3 = some r) ∧ Aside0 (kq ≤ k) ∧ Aside0 (Below w.heap.size w wc))
  case first =>
    have H := HC4.out
    clear HC4
    replace H := Option.bind_eq_some_iff.mp H
    obtain ⟨t229, A50, H⟩ := H
    replace H : (if t229 = true then (impl_AreFaults.j0 k a0 a1 l2 (decide ((l2.length : Int) > 20))) else (impl_AreFaults.j0 k a0 a1 l2 true)) = some r := H
    have A5 := Aside0.mk A50
    clear A50
    by_cases c6 : t229 = true
    · subst c6
      have H1 : (impl_AreFaults.j0 k a0 a1 l2 (decide ((l2.length : Int) > 20))) = some r := by rw [if_pos rfl] at H; exact H
      clear H
      have H := H1
      clear H1
      have H' := Aside0.mk H
      clear H
      go_wp2_with (first | ((with_reducible refine gate_callee (f := 48) rfl ?_); refine goesL_ (some 11) rfl rfl Try.func48 (by kernel_rfl) rfl #[.int .i64 a0, .int .i64 a1] rfl (by (try simp only [List.map_toArray, List.map_cons, List.map_nil]); first | done | rfl | (simp only [List.length_drop, List.length_take]; rfl)) ?_; (with_reducible refine (impl_isLine.calls a0 a1 true _ A5.out).mono ?_); rintro e w' ⟨rfl, ⟨nd, rfl⟩⟩; refine ⟨_, rfl, ?_⟩))
      go_meet
      case rel => exact ⟨_, (decide ((l2.length : Int) > 20)), (by first | rfl | (simp; done) | (simp [*]; done)), H', ⟨by first | omega | exact Nat.le_refl _⟩, ⟨by repeat (first | (with_reducible first | exact HB.out | apply below_alloc | apply pw_below_drewN | apply below_drew1) | exact HB.out)⟩⟩
    · replace c6 := Bool.eq_false_iff.mpr c6
      subst c6
      have H1 : (impl_AreFaults.j0 k a0 a1 l2 true) = some r := by rw [if_neg (show ¬ (false = true) by decide)] at H; exact H
      clear H
      have H := H1
      clear H1
      have H' := Aside0.mk H
      clear H
      go_wp2_with (first | ((with_reducible refine gate_callee (f := 48) rfl ?_); refine goesL_ (some 11) rfl rfl Try.func48 (by kernel_rfl) rfl #[.int .i64 a0, .int .i64 a1] rfl (by (try simp only [List.map_toArray, List.map_cons, List.map_nil]); first | done | rfl | (simp only [List.length_drop, List.length_take]; rfl)) ?_; (with_reducible refine (impl_isLine.calls a0 a1 false _ A5.out).mono ?_); rintro e w' ⟨rfl, ⟨nd, rfl⟩⟩; refine ⟨_, rfl, ?_⟩))
      go_meet
      case rel => exact ⟨_, (true), (by first | rfl | (simp; done) | (simp [*]; done)), H', ⟨by first | omega | exact Nat.le_refl _⟩, ⟨by repeat (first | (with_reducible first | exact HB.out | apply below_alloc | apply pw_below_drewN | apply below_drew1) | exact HB.out)⟩⟩
  case rest =>
    clear HC4
    try clear c2
    try clear p2
    try clear c4
    try clear c6
    obtain ⟨kq, x17_3, rfl, HA, HJ3, HB⟩ := hcut
    cases kq with
    | zero => exact absurd HA.out (by simp [impl_AreFaults.j0])
    | succ kj3 =>
      have H := HA.out
      clear HA
      simp only [impl_AreFaults.j0] at H
      by_cases c7 : x17_3 = true
      · subst c7
        have H1 : (some false) = some r := by rw [if_pos rfl] at H; exact H
        clear H
        have H := H1
        clear H1
        obtain rfl := Option.some.inj H
        go_wp2
        go_ret
        exact ⟨by first | rfl | (simp [errW_none, errW_some] <;> rfl) | (simp [*, errW_none, errW_some] <;> rfl), by repeat (first | (with_reducible first | exact HB.out | apply below_alloc | apply pw_below_drewN | apply below_drew1) | exact HB.out)⟩
      · replace c7 := Bool.eq_false_iff.mpr c7
        subst c7
        have H1 : (impl_AreFaults.l0 kj3 a0 a1 l2 l2 (l2.length : Int) 0) = some r := by rw [if_neg (show ¬ (false = true) by decide)] at H; exact H
        clear H
        have H := H1
        clear H1
        have H' := Aside0.mk H
        clear H
        go_wp2
        go_loopg [20] kj3 (fun kq v20 w' => ∃ (x20_2 : Int), v20 = .int .i64 x20_2 ∧ Aside0 (impl_AreFaults.l0 kq a0 a1 l2 l2 (l2.length : Int) x20_2 = some r) ∧ Aside0 (kq ≤ kj3) ∧ Aside0 (Below w.heap.size w w'))
        case atStart => exact ⟨(0), (by first | rfl | (simp; done) | (simp [*]; done)), H', ⟨Nat.le_refl _⟩, ⟨by repeat (first | (with_reducible first | exact HB.out | apply below_alloc | apply pw_below_drewN | apply below_drew1) | exact HB.out)⟩⟩
        case round =>
          clear H'
          try clear c2
          try clear p2
          try clear c4
          try clear c6
          try clear c7
          try clear p2
          obtain ⟨x20_2, rfl, HA, HK2, HB⟩ := hrel
          cases gk with
          | zero => exact absurd HA.out (by simp [impl_AreFaults.l0])
          | succ k2 =>
            have H := HA.out
            clear HA
            simp only [impl_AreFaults.l0] at H
            by_cases c8 : x20_2 < (l2.length : Int)
            · rw [if_pos c8] at H
              have c8b0 : decide (x20_2 < (l2.length : Int)) = true := decide_eq_true c8
              clear c8
              by_cases c9 : 0 ≤ x20_2
              · rw [if_pos c9] at H
                have c9b0 : decide (0 ≤ x20_2) = true := decide_eq_true c9
                clear c9
                by_cases c10 : x20_2 < (l2.length : Int)
                · rw [if_pos c10] at H
                  have c10b0 : decide (x20_2 < (l2.length : Int)) = true := decide_eq_true c10
                  clear c10
                  have HC11 := Aside0.mk H
                  clear H
                  have p230 : 0 ≤ (x20_2 : Int) := of_decide_eq_true (by first | (with_reducible assumption) | assumption)
                  have q230 : x20_2 < (l2.length : Int) := of_decide_eq_true (by first | (with_reducible assumption) | assumption)
                  obtain ⟨ad230, e230, hx230_0, hx230_1, hx230_2, hx230_3⟩ := at_T55 HR2.out x20_2 p230 q230
                  cases e230
                  replace hx230_0 := (HB.out.cell (World.block_lt_of_cell? _ _ hx230_0)).trans hx230_0
                  replace hx230_1 := (HB.out.cell (World.block_lt_of_cell? _ _ hx230_1)).trans hx230_1
                  replace hx230_2 := (HB.out.cell (World.block_lt_of_cell? _ _ hx230_2)).trans hx230_2
                  replace hx230_3 := (HB.out.cell (World.block_lt_of_cell? _ _ hx230_3)).trans hx230_3
                  replace p230 := eq_true p230
                  replace q230 := eq_true q230
                  go_upto_region 6 with (first | ((with_reducible refine gate_dst (N := 8) rfl ?_); (try (refine gate_guard (by rfl) ?_; dsimp only)); refine box_event ?hg (N := 8) ?hd (cs := #[.int .i64 0, .int .i64 0, .int .i64 0, .int .i64 0]) (t := 55) ?hr ?_; (case hd => rfl); (case hg => rfl); (case hr => first | (go_simp; done) | (go_simp; rfl)); intro gb231 hg w12 hbox hb; have n0_ := Aside0.mk (below_step (by repeat (first | (with_reducible first | exact HB.out | apply below_alloc | apply pw_below_drewN | apply below_drew1) | exact HB.out)) hb); have n1_ := Aside0.mk (hbox); have n2_ := Aside0.mk ((by rw [hg]; exact (below_size (by repeat (first | (with_reducible first | exact HB.out | apply below_alloc | apply pw_below_drewN | apply below_drew1) | exact HB.out))) : w.heap.size ≤ gb231)); have n3_ := Aside0.mk ((by rw [hg]; exact (below_size (by repeat (first | (with_reducible first | exact HB.out | apply below_alloc | apply pw_below_drewN | apply below_drew1) | exact HB.out))) : w.heap.size ≤ gb231)); clear HB; have HB := n0_; have BK231 := n1_; have GW231 := n2_; have GE231 := n3_; clear n0_ n1_ n2_ n3_; clear hb hbox hg; have hcz13_0 : w12.cell? ⟨gb231, 0, none⟩ = some (.int .i64 0) := (blk_cell BK231.out 0).trans rfl; have hcz13_1 : w12.cell? ⟨gb231, 1, none⟩ = some (.int .i64 0) := (blk_cell BK231.out 1).trans rfl; have hcz13_2 : w12.cell? ⟨gb231, 2, none⟩ = some (.int .i64 0) := (blk_cell BK231.out 2).trans rfl; have hcz13_3 : w12.cell? ⟨gb231, 3, none⟩ = some (.int .i64 0) := (blk_cell BK231.out 3).trans rfl; have hfz13_0 := blk_frozen BK231.out 0; have hfz13_1 := blk_frozen BK231.out 1; have hfz13_2 := blk_frozen BK231.out 2; have hfz13_3 := blk_frozen BK231.out 3))
                  (try simp only [Act.put, List.setIfInBounds_toArray, List.set_cons_zero, List.set_cons_succ])
                  go_cut [44] (fun v44 wc => ∃ (kq : Nat) (x44_10 : Bool), v44 = .bool x44_10 ∧ Aside0 (impl_AreFaults.j2 kq a0 a1 l2 x20_2 l2 (l2.length : Int) x20_2 x44_10 ((rd_T55 l2 x20_2).f0) ((rd_T55 l2 x20_2).f1) ((rd_T55 l2 x20_2).f2) ((rd_T55 l2 x20_2).f3) = some r) ∧ Aside0 (kq ≤ k2) ∧ Aside0 (wc.heap[gb231]? = some (.cells #[.int .i64 ((rd_T55 l2 x20_2).f0), .int .i64 ((rd_T55 l2 x20_2).f1), .int .i64 ((rd_T55 l2 x20_2).f2), .int .i64 ((rd_T55 l2 x20_2).f3)] 55 (0, 0))) ∧ Aside0 (Below w.heap.size w wc))
                  case first =>
                    have H := HC11.out
                    clear HC11
                    replace H := Option.bind_eq_some_iff.mp H
                    obtain ⟨t232, A140, H⟩ := H
                    replace H : (if t232 = true then ((impl_inRange.f ((rd_T55 l2 x20_2).f1) 0 (wrap64 (a0 - 1))).bind fun t233 => (if t233 = true then ((impl_inRange.f ((rd_T55 l2 x20_2).f2) 1 4).bind fun t234 => (impl_AreFaults.j2 k2 a0 a1 l2 x20_2 l2 (l2.length : Int) x20_2 (!t234) ((rd_T55 l2 x20_2).f0) ((rd_T55 l2 x20_2).f1) ((rd_T55 l2 x20_2).f2) ((rd_T55 l2 x20_2).f3))) else (impl_AreFaults.j2 k2 a0 a1 l2 x20_2 l2 (l2.length : Int) x20_2 true ((rd_T55 l2 x20_2).f0) ((rd_T55 l2 x20_2).f1) ((rd_T55 l2 x20_2).f2) ((rd_T55 l2 x20_2).f3)))) else (impl_AreFaults.j2 k2 a0 a1 l2 x20_2 l2 (l2.length : Int) x20_2 true ((rd_T55 l2 x20_2).f0) ((rd_T55 l2 x20_2).f1) ((rd_T55 l2 x20_2).f2) ((rd_T55 l2 x20_2).f3))) = some r := H
                    have A14 := Aside0.mk A140
                    clear A140
                    by_cases c15 : t232 = true
                    · subst c15
                      have H1 : ((impl_inRange.f ((rd_T55 l2 x20_2).f1) 0 (wrap64 (a0 - 1))).bind fun t233 => (if t233 = true then ((impl_inRange.f ((rd_T55 l2 x20_2).f2) 1 4).bind fun t234 => (impl_AreFaults.j2 k2 a0 a1 l2 x20_2 l2 (l2.length : Int) x20_2 (!t234) ((rd_T55 l2 x20_2).f0) ((rd_T55 l2 x20_2).f1) ((rd_T55 l2 x20_2).f2) ((rd_T55 l2 x20_2).f3))) else (impl_AreFaults.j2 k2 a0 a1 l2 x20_2 l2 (l2.length : Int) x20_2 true ((rd_T55 l2 x20_2).f0) ((rd_T55 l2 x20_2).f1) ((rd_T55 l2 x20_2).f2) ((rd_T55 l2 x20_2).f3)))) = some r := by rw [if_pos rfl] at H; exact H
                      clear H
                      have H := H1
                      clear H1
                      replace H := Option.bind_eq_some_iff.mp H
                      obtain ⟨t233, A160, H⟩ := H
                      replace H : (if t233 = true then ((impl_inRange.f ((rd_T55 l2 x20_2).f2) 1 4).bind fun t234 => (impl_AreFaults.j2 k2 a0 a1 l2 x20_2 l2 (l2.length : Int) x20_2 (!t234) ((rd_T55 l2 x20_2).f0) ((rd_T55 l2 x20_2).f1) ((rd_T55 l2 x20_2).f2) ((rd_T55 l2 x20_2).f3))) else (impl_AreFaults.j2 k2 a0 a1 l2 x20_2 l2 (l2.length : Int) x20_2 true ((rd_T55 l2 x20_2).f0) ((rd_T55 l2 x20_2).f1) ((rd_T55 l2 x20_2).f2) ((rd_T55 l2 x20_2).f3))) = some r := H
                      have A16 := Aside0.mk A160
                      clear A160
                      by_cases c17 : t233 = true
                      · subst c17
                        have H1 : ((impl_inRange.f ((rd_T55 l2 x20_2).f2) 1 4).bind fun t234 => (impl_AreFaults.j2 k2 a0 a1 l2 x20_2 l2 (l2.length : Int) x20_2 (!t234) ((rd_T55 l2 x20_2).f0) ((rd_T55 l2 x20_2).f1) ((rd_T55 l2 x20_2).f2) ((rd_T55 l2 x20_2).f3))) = some r := by rw [if_pos rfl] at H; exact H
                        clear H
                        have H := H1
                        clear H1
                        replace H := Option.bind_eq_some_iff.mp H
                        obtain ⟨t234, A180, H⟩ := H
                        replace H : (impl_AreFaults.j2 k2 a0 a1 l2 x20_2 l2 (l2.length : Int) x20_2 (!t234) ((rd_T55 l2 x20_2).f0) ((rd_T55 l2 x20_2).f1) ((rd_T55 l2 x20_2).f2) ((rd_T55 l2 x20_2).f3)) = some r := H
                        have A18 := Aside0.mk A180
                        clear A180
                        have H' := Aside0.mk H
                        clear H
                        have hcz19_0 : w12.cell? ⟨gb231, 0, none⟩ = some (.int .i64 0) := (blk_cell BK231.out 0).trans rfl
                        have hcz19_1 : w12.cell? ⟨gb231, 1, none⟩ = some (.int .i64 0) := (blk_cell BK231.out 1).trans rfl
                        have hcz19_2 : w12.cell? ⟨gb231, 2, none⟩ = some (.int .i64 0) := (blk_cell BK231.out 2).trans rfl
                        have hcz19_3 : w12.cell? ⟨gb231, 3, none⟩ = some (.int .i64 0) := (blk_cell BK231.out 3).trans rfl
                        have hfz19_0 := blk_frozen BK231.out 0
                        have hfz19_1 := blk_frozen BK231.out 1
                        have hfz19_2 := blk_frozen BK231.out 2
                        have hfz19_3 := blk_frozen BK231.out 3
                        go_wp2_with (first | ((with_reducible refine gate_callee (f := 52) rfl ?_); refine goesL_ (some 29) rfl rfl Try.func52 (by kernel_rfl) rfl #[.int .i64 ((rd_T55 l2 x20_2).f0), .int .i64 0, .int .i64 (wrap64 (a1 - 1))] rfl (by (try simp only [List.map_toArray, List.map_cons, List.map_nil]); first | done | rfl | (simp only [List.length_drop, List.length_take]; rfl)) ?_; (with_reducible refine (impl_inRange.calls ((rd_T55 l2 x20_2).f0) 0 (wrap64 (a1 - 1)) true _ A14.out).mono ?_); rintro e w' ⟨rfl, ⟨nd, rfl⟩⟩; refine ⟨_, rfl, ?_⟩) | (go_at_call 52; (with_reducible refine (impl_inRange.calls ((rd_T55 l2 x20_2).f1) 0 (wrap64 (a0 - 1)) true _ A16.out).mono ?_); rintro e w' ⟨rfl, ⟨nd, rfl⟩⟩) | (go_at_call 52; (with_reducible refine (impl_inRange.calls ((rd_T55 l2 x20_2).f2) 1 4 t234 _ A18.out).mono ?_); rintro e w' ⟨rfl, ⟨nd, rfl⟩⟩))
                        go_meet
                        case rel => exact ⟨_, (!t234), (by first | rfl | (simp; done) | (simp [*]; done)), H', ⟨by have := HJ3.out; have := HK2.out; first | omega | exact Nat.le_refl _⟩, ⟨by (with_reducible repeat (first | refine blk_drewN ?_ _ | refine blk_drew ?_ | refine blk_alloc ?_ _)); refine blk_put (cs := #[.int .i64 ((rd_T55 l2 x20_2).f0), .int .i64 ((rd_T55 l2 x20_2).f1), .int .i64 ((rd_T55 l2 x20_2).f2), .int .i64 0]) ?_ 3 _ rfl; (with_reducible repeat (first | refine blk_drewN ?_ _ | refine blk_drew ?_ | refine blk_alloc ?_ _)); refine blk_put (cs := #[.int .i64 ((rd_T55 l2 x20_2).f0), .int .i64 ((rd_T55 l2 x20_2).f1), .int .i64 0, .int .i64 0]) ?_ 2 _ rfl; (with_reducible repeat (first | refine blk_drewN ?_ _ | refine blk_drew ?_ | refine blk_alloc ?_ _)); refine blk_put (cs := #[.int .i64 ((rd_T55 l2 x20_2).f0), .int .i64 0, .int .i64 0, .int .i64 0]) ?_ 1 _ rfl; (with_reducible repeat (first | refine blk_drewN ?_ _ | refine blk_drew ?_ | refine blk_alloc ?_ _)); refine blk_put (cs := #[.int .i64 0, .int .i64 0, .int .i64 0, .int .i64 0]) ?_ 0 _ rfl; (with_reducible repeat (first | refine blk_drewN ?_ _ | refine blk_drew ?_ | refine blk_alloc ?_ _)); exact BK231.out⟩, ⟨by repeat (first | (with_reducible first | exact HB.out | apply below_alloc | apply pw_below_drewN | apply below_drew1 | refine below_set ?_ GE231.out) | exact HB.out)⟩⟩
                      · replace c17 := Bool.eq_false_iff.mpr c17
                        subst c17
                        have H1 : (impl_AreFaults.j2 k2 a0 a1 l2 x20_2 l2 (l2.length : Int) x20_2 true ((rd_T55 l2 x20_2).f0) ((rd_T55 l2 x20_2).f1) ((rd_T55 l2 x20_2).f2) ((rd_T55 l2 x20_2).f3)) = some r := by rw [if_neg (show ¬ (false = true) by decide)] at H; exact H
                        clear H
                        have H := H1
                        clear H1
                        have H' := Aside0.mk H
                        clear H
                        have hcz20_0 : w12.cell? ⟨gb231, 0, none⟩ = some (.int .i64 0) := (blk_cell BK231.out 0).trans rfl
                        have hcz20_1 : w12.cell? ⟨gb231, 1, none⟩ = some (.int .i64 0) := (blk_cell BK231.out 1).trans rfl
                        have hcz20_2 : w12.cell? ⟨gb231, 2, none⟩ = some (.int .i64 0) := (blk_cell BK231.out 2).trans rfl
                        have hcz20_3 : w12.cell? ⟨gb231, 3, none⟩ = some (.int .i64 0) := (blk_cell BK231.out 3).trans rfl
                        have hfz20_0 := blk_frozen BK231.out 0
                        have hfz20_1 := blk_frozen BK231.out 1
                        have hfz20_2 := blk_frozen BK231.out 2
                        have hfz20_3 := blk_frozen BK231.out 3
                        go_wp2_with (first | ((with_reducible refine gate_callee (f := 52) rfl ?_); refine goesL_ (some 29) rfl rfl Try.func52 (by kernel_rfl) rfl #[.int .i64 ((rd_T55 l2 x20_2).f0), .int .i64 0, .int .i64 (wrap64 (a1 - 1))] rfl (by (try simp only [List.map_toArray, List.map_cons, List.map_nil]); first | done | rfl | (simp only [List.length_drop, List.length_take]; rfl)) ?_; (with_reducible refine (impl_inRange.calls ((rd_T55 l2 x20_2).f0) 0 (wrap64 (a1 - 1)) true _ A14.out).mono ?_); rintro e w' ⟨rfl, ⟨nd, rfl⟩⟩; refine ⟨_, rfl, ?_⟩) | (go_at_call 52; (with_reducible refine (impl_inRange.calls ((rd_T55 l2 x20_2).f1) 0 (wrap64 (a0 - 1)) false _ A16.out).mono ?_); rintro e w' ⟨rfl, ⟨nd, rfl⟩⟩))
                        go_meet
                        case rel => exact ⟨_, (true), (by first | rfl | (simp; done) | (simp [*]; done)), H', ⟨by have := HJ3.out; have := HK2.out; first | omega | exact Nat.le_refl _⟩, ⟨by (with_reducible repeat (first | refine blk_drewN ?_ _ | refine blk_drew ?_ | refine blk_alloc ?_ _)); refine blk_put (cs := #[.int .i64 ((rd_T55 l2 x20_2).f0), .int .i64 ((rd_T55 l2 x20_2).f1), .int .i64 ((rd_T55 l2 x20_2).f2), .int .i64 0]) ?_ 3 _ rfl; (with_reducible repeat (first | refine blk_drewN ?_ _ | refine blk_drew ?_ | refine blk_alloc ?_ _)); refine blk_put (cs := #[.int .i64 ((rd_T55 l2 x20_2).f0), .int .i64 ((rd_T55 l2 x20_2).f1), .int .i64 0, .int .i64 0]) ?_ 2 _ rfl; (with_reducible repeat (first | refine blk_drewN ?_ _ | refine blk_drew ?_ | refine blk_alloc ?_ _)); refine blk_put (cs := #[.int .i64 ((rd_T55 l2 x20_2).f0), .int .i64 0, .int .i64 0, .int .i64 0]) ?_ 1 _ rfl; (with_reducible repeat (first | refine blk_drewN ?_ _ | refine blk_drew ?_ | refine blk_alloc ?_ _)); refine blk_put (cs := #[.int .i64 0, .int .i64 0, .int .i64 0, .int .i64 0]) ?_ 0 _ rfl; (with_reducible repeat (first | refine blk_drewN ?_ _ | refine blk_drew ?_ | refine blk_alloc ?_ _)); exact BK231.out⟩, ⟨by repeat (first | (with_reducible first | exact HB.out | apply below_alloc | apply pw_below_drewN | apply below_drew1 | refine below_set ?_ GE231.out) | exact HB.out)⟩⟩
                    · replace c15 := Bool.eq_false_iff.mpr c15
                      subst c15
                      have H1 : (impl_AreFaults.j2 k2 a0 a1 l2 x20_2 l2 (l2.length : Int) x20_2 true ((rd_T55 l2 x20_2).f0) ((rd_T55 l2 x20_2).f1) ((rd_T55 l2 x20_2).f2) ((rd_T55 l2 x20_2).f3)) = some r := by rw [if_neg (show ¬ (false = true) by decide)] at H; exact H
                      clear H
                      have H := H1
                      clear H1
                      have H' := Aside0.mk H
                      clear H
                      have hcz21_0 : w12.cell? ⟨gb231, 0, none⟩ = some (.int .i64 0) := (blk_cell BK231.out 0).trans rfl
                      have hcz21_1 : w12.cell? ⟨gb231, 1, none⟩ = some (.int .i64 0) := (blk_cell BK231.out 1).trans rfl
                      have hcz21_2 : w12.cell? ⟨gb231, 2, none⟩ = some (.int .i64 0) := (blk_cell BK231.out 2).trans rfl
                      have hcz21_3 : w12.cell? ⟨gb231, 3, none⟩ = some (.int .i64 0) := (blk_cell BK231.out 3).trans rfl
                      have hfz21_0 := blk_frozen BK231.out 0
                      have hfz21_1 := blk_frozen BK231.out 1
                      have hfz21_2 := blk_frozen BK231.out 2
                      have hfz21_3 := blk_frozen BK231.out 3
                      go_wp2_with (first | ((with_reducible refine gate_callee (f := 52) rfl ?_); refine goesL_ (some 29) rfl rfl Try.func52 (by kernel_rfl) rfl #[.int .i64 ((rd_T55 l2 x20_2).f0), .int .i64 0, .int .i64 (wrap64 (a1 - 1))] rfl (by (try simp only [List.map_toArray, List.map_cons, List.map_nil]); first | done | rfl | (simp only [List.length_drop, List.length_take]; rfl)) ?_; (with_reducible refine (impl_inRange.calls ((rd_T55 l2 x20_2).f0) 0 (wrap64 (a1 - 1)) false _ A14.out).mono ?_); rintro e w' ⟨rfl, ⟨nd, rfl⟩⟩; refine ⟨_, rfl, ?_⟩))
                      go_meet
                      case rel => exact ⟨_, (true), (by first | rfl | (simp; done) | (simp [*]; done)), H', ⟨by have := HJ3.out; have := HK2.out; first | omega | exact Nat.le_refl _⟩, ⟨by (with_reducible repeat (first | refine blk_drewN ?_ _ | refine blk_drew ?_ | refine blk_alloc ?_ _)); refine blk_put (cs := #[.int .i64 ((rd_T55 l2 x20_2).f0), .int .i64 ((rd_T55 l2 x20_2).f1), .int .i64 ((rd_T55 l2 x20_2).f2), .int .i64 0]) ?_ 3 _ rfl; (with_reducible repeat (first | refine blk_drewN ?_ _ | refine blk_drew ?_ | refine blk_alloc ?_ _)); refine blk_put (cs := #[.int .i64 ((rd_T55 l2 x20_2).f0), .int .i64 ((rd_T55 l2 x20_2).f1), .int .i64 0, .int .i64 0]) ?_ 2 _ rfl; (with_reducible repeat (first | refine blk_drewN ?_ _ | refine blk_drew ?_ | refine blk_alloc ?_ _)); refine blk_put (cs := #[.int .i64 ((rd_T55 l2 x20_2).f0), .int .i64 0, .int .i64 0, .int .i64 0]) ?_ 1 _ rfl; (with_reducible repeat (first | refine blk_drewN ?_ _ | refine blk_drew ?_ | refine blk_alloc ?_ _)); refine blk_put (cs := #[.int .i64 0, .int .i64 0, .int .i64 0, .int .i64 0]) ?_ 0 _ rfl; (with_reducible repeat (first | refine blk_drewN ?_ _ | refine blk_drew ?_ | refine blk_alloc ?_ _)); exact BK231.out⟩, ⟨by repeat (first | (with_reducible first | exact HB.out | apply below_alloc | apply pw_below_drewN | apply below_drew1 | refine below_set ?_ GE231.out) | exact HB.out)⟩⟩
                  case rest =>
                    clear HC11
                    try clear c1
                    try clear c2
                    try clear p2
                    try clear q2
                    try clear hx2
                    try clear c4
                    try clear c5
                    try clear c6
                    try clear p6
                    try clear c7
                    try clear c8
                    try clear c8b0
                    try clear c9
                    try clear c9b0
                    try clear c10
                    try clear c10b0
                    try clear c15
                    try clear c17
                    try clear c21
                    try clear hcz13_0
                    try clear hcz13_1
                    try clear hcz13_2
                    try clear hcz13_3
                    try clear hcz19_0
                    try clear hcz19_1
                    try clear hcz19_2
                    try clear hcz19_3
                    try clear hcz20_0
                    try clear hcz20_1
                    try clear hcz20_2
                    try clear hcz20_3
                    try clear hcz21_0
                    try clear hcz21_1
                    try clear hcz21_2
                    try clear hcz21_3
                    try clear hfz13_0
                    try clear hfz13_1
                    try clear hfz13_2
                    try clear hfz13_3
                    try clear hfz19_0
                    try clear hfz19_1
                    try clear hfz19_2
                    try clear hfz19_3
                    try clear hfz20_0
                    try clear hfz20_1
                    try clear hfz20_2
                    try clear hfz20_3
                    try clear hfz21_0
                    try clear hfz21_1
                    try clear hfz21_2
                    try clear hfz21_3
                    try clear hx230_0
                    try clear hx230_1
                    try clear hx230_2
                    try clear hx230_3
                    try clear p2
                    try clear p230
                    try clear q230
                    obtain ⟨kq, x44_10, rfl, HA, HJ10, BK231, HB⟩ := hcut
                    cases kq with
                    | zero => exact absurd HA.out (by simp [impl_AreFaults.j2])
                    | succ kj10 =>
                      have H := HA.out
                      clear HA
                      simp only [impl_AreFaults.j2] at H
                      by_cases c22 : x44_10 = true
                      · subst c22
                        have H1 : (some false) = some r := by rw [if_pos rfl] at H; exact H
                        clear H
                        have H := H1
                        clear H1
                        obtain rfl := Option.some.inj H
                        go_wp2
                        go_ret
                        exact ⟨by first | rfl | (simp [errW_none, errW_some] <;> rfl) | (simp [*, errW_none, errW_some] <;> rfl), by repeat (first | (with_reducible first | exact HB.out | apply below_alloc | apply pw_below_drewN | apply below_drew1 | refine below_set ?_ GE231.out) | exact HB.out)⟩
                      · replace c22 := Bool.eq_false_iff.mpr c22
                        subst c22
                        have H1 : (if ((rd_T55 l2 x20_2).f2) = 4 then ((impl_inRange.f ((rd_T55 l2 x20_2).f3) 0 (wrap64 (a0 - 1))).bind fun t235 => (if t235 = true then (if ((rd_T55 l2 x20_2).f3) = ((rd_T55 l2 x20_2).f1) then (impl_AreFaults.j3 kj10 a0 a1 l2 x20_2 l2 (l2.length : Int) x20_2 true ((rd_T55 l2 x20_2).f0) ((rd_T55 l2 x20_2).f1) ((rd_T55 l2 x20_2).f2) ((rd_T55 l2 x20_2).f3)) else (impl_AreFaults.j3 kj10 a0 a1 l2 x20_2 l2 (l2.length : Int) x20_2 false ((rd_T55 l2 x20_2).f0) ((rd_T55 l2 x20_2).f1) ((rd_T55 l2 x20_2).f2) ((rd_T55 l2 x20_2).f3))) else (impl_AreFaults.j3 kj10 a0 a1 l2 x20_2 l2 (l2.length : Int) x20_2 true ((rd_T55 l2 x20_2).f0) ((rd_T55 l2 x20_2).f1) ((rd_T55 l2 x20_2).f2) ((rd_T55 l2 x20_2).f3)))) else (impl_AreFaults.j3 kj10 a0 a1 l2 x20_2 l2 (l2.length : Int) x20_2 (((rd_T55 l2 x20_2).f3) != 0) ((rd_T55 l2 x20_2).f0) ((rd_T55 l2 x20_2).f1) ((rd_T55 l2 x20_2).f2) ((rd_T55 l2 x20_2).f3))) = some r := by rw [if_neg (show ¬ (false = true) by decide)] at H; exact H
                        clear H
                        have H := H1
                        clear H1
                        have HC23 := Aside0.mk H
                        clear H
                        go_upto_region 8 with (fail)
                        go_cut [72] (fun v72 wc => ∃ (kq : Nat) (x72_22 : Bool), v72 = .bool x72_22 ∧ Aside0 (impl_AreFaults.j3 kq a0 a1 l2 x20_2 l2 (l2.length : Int) x20_2 x72_22 ((rd_T55 l2 x20_2).f0) ((rd_T55 l2 x20_2).f1) ((rd_T55 l2 x20_2).f2) ((rd_T55 l2 x20_2).f3) = some r) ∧ Aside0 (kq ≤ kj10) ∧ Aside0 (wc.heap[gb231]? = some (.cells #[.int .i64 ((rd_T55 l2 x20_2).f0), .int .i64 ((rd_T55 l2 x20_2).f1), .int .i64 ((rd_T55 l2 x20_2).f2), .int .i64 ((rd_T55 l2 x20_2).f3)] 55 (0, 0))) ∧ Aside0 (Below w.heap.size w wc))
                        case first =>
                          have H := HC23.out
                          clear HC23
                          by_cases c24 : ((rd_T55 l2 x20_2).f2) = 4
                          · rw [if_pos c24] at H
                            have c24b0 : (((rd_T55 l2 x20_2).f2) == 4) = true := beq_iff_eq.mpr c24
                            have c24b1 : (((rd_T55 l2 x20_2).f2) != 4) = false := bne_eq_false_iff_eq.mpr c24
                            clear c24
                            (first | rw [c24b0] | (simp only [i64_w, i32_w]; rw [c24b0]) | skip)
                            replace H := Option.bind_eq_some_iff.mp H
                            obtain ⟨t235, A250, H⟩ := H
                            replace H : (if t235 = true then (if ((rd_T55 l2 x20_2).f3) = ((rd_T55 l2 x20_2).f1) then (impl_AreFaults.j3 kj10 a0 a1 l2 x20_2 l2 (l2.length : Int) x20_2 true ((rd_T55 l2 x20_2).f0) ((rd_T55 l2 x20_2).f1) ((rd_T55 l2 x20_2).f2) ((rd_T55 l2 x20_2).f3)) else (impl_AreFaults.j3 kj10 a0 a1 l2 x20_2 l2 (l2.length : Int) x20_2 false ((rd_T55 l2 x20_2).f0) ((rd_T55 l2 x20_2).f1) ((rd_T55 l2 x20_2).f2) ((rd_T55 l2 x20_2).f3))) else (impl_AreFaults.j3 kj10 a0 a1 l2 x20_2 l2 (l2.length : Int) x20_2 true ((rd_T55 l2 x20_2).f0) ((rd_T55 l2 x20_2).f1) ((rd_T55 l2 x20_2).f2) ((rd_T55 l2 x20_2).f3))) = some r := H
                            have A25 := Aside0.mk A250
                            clear A250
                            by_cases c26 : t235 = true
                            · subst c26
                              have H1 : (if ((rd_T55 l2 x20_2).f3) = ((rd_T55 l2 x20_2).f1) then (impl_AreFaults.j3 kj10 a0 a1 l2 x20_2 l2 (l2.length : Int) x20_2 true ((rd_T55 l2 x20_2).f0) ((rd_T55 l2 x20_2).f1) ((rd_T55 l2 x20_2).f2) ((rd_T55 l2 x20_2).f3)) else (impl_AreFaults.j3 kj10 a0 a1 l2 x20_2 l2 (l2.length : Int) x20_2 false ((rd_T55 l2 x20_2).f0) ((rd_T55 l2 x20_2).f1) ((rd_T55 l2 x20_2).f2) ((rd_T55 l2 x20_2).f3))) = some r := by rw [if_pos rfl] at H; exact H
                              clear H
                              have H := H1
                              clear H1
                              by_cases c27 : ((rd_T55 l2 x20_2).f3) = ((rd_T55 l2 x20_2).f1)
                              · rw [if_pos c27] at H
                                have c27b0 : (((rd_T55 l2 x20_2).f3) == ((rd_T55 l2 x20_2).f1)) = true := beq_iff_eq.mpr c27
                                have c27b1 : (((rd_T55 l2 x20_2).f3) != ((rd_T55 l2 x20_2).f1)) = false := bne_eq_false_iff_eq.mpr c27
                                clear c27
                                have H' := Aside0.mk H
                                clear H
                                have hcz28_0 : wc.cell? ⟨gb231, 0, none⟩ = some (.int .i64 ((rd_T55 l2 x20_2).f0)) := (blk_cell BK231.out 0).trans rfl
                                have hcz28_1 : wc.cell? ⟨gb231, 1, none⟩ = some (.int .i64 ((rd_T55 l2 x20_2).f1)) := (blk_cell BK231.out 1).trans rfl
                                have hcz28_2 : wc.cell? ⟨gb231, 2, none⟩ = some (.int .i64 ((rd_T55 l2 x20_2).f2)) := (blk_cell BK231.out 2).trans rfl
                                have hcz28_3 : wc.cell? ⟨gb231, 3, none⟩ = some (.int .i64 ((rd_T55 l2 x20_2).f3)) := (blk_cell BK231.out 3).trans rfl
                                have hfz28_0 := blk_frozen BK231.out 0
                                have hfz28_1 := blk_frozen BK231.out 1
                                have hfz28_2 := blk_frozen BK231.out 2
                                have hfz28_3 := blk_frozen BK231.out 3
                                go_wp2_with (first | (go_at_call 52; (with_reducible refine (impl_inRange.calls ((rd_T55 l2 x20_2).f3) 0 (wrap64 (a0 - 1)) true _ A25.out).mono ?_); rintro e w' ⟨rfl, ⟨nd, rfl⟩⟩))
                                go_meet
                                case rel => exact ⟨_, (true), (by first | rfl | (simp; done) | (simp [*]; done)), H', ⟨by have := HJ3.out; have := HK2.out; have := HJ10.out; first | omega | exact Nat.le_refl _⟩, ⟨by (with_reducible repeat (first | refine blk_drewN ?_ _ | refine blk_drew ?_ | refine blk_alloc ?_ _)); exact BK231.out⟩, ⟨by repeat (first | (with_reducible first | exact HB.out | apply below_alloc | apply pw_below_drewN | apply below_drew1 | refine below_set ?_ GE231.out) | exact HB.out)⟩⟩
                              · rw [if_neg c27] at H
                                have c27b0 : (((rd_T55 l2 x20_2).f3) == ((rd_T55 l2 x20_2).f1)) = false := beq_eq_false_iff_ne.mpr c27
                                have c27b1 : (((rd_T55 l2 x20_2).f3) != ((rd_T55 l2 x20_2).f1)) = true := bne_iff_ne.mpr c27
                                have H' := Aside0.mk H
                                clear H
                                have hcz29_0 : wc.cell? ⟨gb231, 0, none⟩ = some (.int .i64 ((rd_T55 l2 x20_2).f0)) := (blk_cell BK231.out 0).trans rfl
                                have hcz29_1 : wc.cell? ⟨gb231, 1, none⟩ = some (.int .i64 ((rd_T55 l2 x20_2).f1)) := (blk_cell BK231.out 1).trans rfl
                                have hcz29_2 : wc.cell? ⟨gb231, 2, none⟩ = some (.int .i64 ((rd_T55 l2 x20_2).f2)) := (blk_cell BK231.out 2).trans rfl
                                have hcz29_3 : wc.cell? ⟨gb231, 3, none⟩ = some (.int .i64 ((rd_T55 l2 x20_2).f3)) := (blk_cell BK231.out 3).trans rfl
                                have hfz29_0 := blk_frozen BK231.out 0
                                have hfz29_1 := blk_frozen BK231.out 1
                                have hfz29_2 := blk_frozen BK231.out 2
                                have hfz29_3 := blk_frozen BK231.out 3
                                go_wp2_with (first | (go_at_call 52; (with_reducible refine (impl_inRange.calls ((rd_T55 l2 x20_2).f3) 0 (wrap64 (a0 - 1)) true _ A25.out).mono ?_); rintro e w' ⟨rfl, ⟨nd, rfl⟩⟩))
                                go_meet
                                case rel => exact ⟨_, (false), (by first | rfl | (simp; done) | (simp [*]; done)), H', ⟨by have := HJ3.out; have := HK2.out; have := HJ10.out; first | omega | exact Nat.le_refl _⟩, ⟨by (with_reducible repeat (first | refine blk_drewN ?_ _ | refine blk_drew ?_ | refine blk_alloc ?_ _)); exact BK231.out⟩, ⟨by repeat (first | (with_reducible first | exact HB.out | apply below_alloc | apply pw_below_drewN | apply below_drew1 | refine below_set ?_ GE231.out) | exact HB.out)⟩⟩
                            · replace c26 := Bool.eq_false_iff.mpr c26
                              subst c26
                              have H1 : (impl_AreFaults.j3 kj10 a0 a1 l2 x20_2 l2 (l2.length : Int) x20_2 true ((rd_T55 l2 x20_2).f0) ((rd_T55 l2 x20_2).f1) ((rd_T55 l2 x20_2).f2) ((rd_T55 l2 x20_2).f3)) = some r := by rw [if_neg (show ¬ (false = true) by decide)] at H; exact H
                              clear H
                              have H := H1
                              clear H1
                              have H' := Aside0.mk H
                              clear H
                              have hcz30_0 : wc.cell? ⟨gb231, 0, none⟩ = some (.int .i64 ((rd_T55 l2 x20_2).f0)) := (blk_cell BK231.out 0).trans rfl
                              have hcz30_1 : wc.cell? ⟨gb231, 1, none⟩ = some (.int .i64 ((rd_T55 l2 x20_2).f1)) := (blk_cell BK231.out 1).trans rfl
                              have hcz30_2 : wc.cell? ⟨gb231, 2, none⟩ = some (.int .i64 ((rd_T55 l2 x20_2).f2)) := (blk_cell BK231.out 2).trans rfl
                              have hcz30_3 : wc.cell? ⟨gb231, 3, none⟩ = some (.int .i64 ((rd_T55 l2 x20_2).f3)) := (blk_cell BK231.out 3).trans rfl
                              have hfz30_0 := blk_frozen BK231.out 0
                              have hfz30_1 := blk_frozen BK231.out 1
                              have hfz30_2 := blk_frozen BK231.out 2
                              have hfz30_3 := blk_frozen BK231.out 3
                              go_wp2_with (first | (go_at_call 52; (with_reducible refine (impl_inRange.calls ((rd_T55 l2 x20_2).f3) 0 (wrap64 (a0 - 1)) false _ A25.out).mono ?_); rintro e w' ⟨rfl, ⟨nd, rfl⟩⟩))
                              go_meet
                              case rel => exact ⟨_, (true), (by first | rfl | (simp; done) | (simp [*]; done)), H', ⟨by have := HJ3.out; have := HK2.out; have := HJ10.out; first | omega | exact Nat.le_refl _⟩, ⟨by (with_reducible repeat (first | refine blk_drewN ?_ _ | refine blk_drew ?_ | refine blk_alloc ?_ _)); exact BK231.out⟩, ⟨by repeat (first | (with_reducible first | exact HB.out | apply below_alloc | apply pw_below_drewN | apply below_drew1 | refine below_set ?_ GE231.out) | exact HB.out)⟩⟩
                          · rw [if_neg c24] at H
                            have c24b0 : (((rd_T55 l2 x20_2).f2) == 4) = false := beq_eq_false_iff_ne.mpr c24
                            have c24b1 : (((rd_T55 l2 x20_2).f2) != 4) = true := bne_iff_ne.mpr c24
                            (first | rw [c24b0] | (simp only [i64_w, i32_w]; rw [c24b0]) | skip)
                            have H' := Aside0.mk H
                            clear H
                            have hcz31_0 : wc.cell? ⟨gb231, 0, none⟩ = some (.int .i64 ((rd_T55 l2 x20_2).f0)) := (blk_cell BK231.out 0).trans rfl
                            have hcz31_1 : wc.cell? ⟨gb231, 1, none⟩ = some (.int .i64 ((rd_T55 l2 x20_2).f1)) := (blk_cell BK231.out 1).trans rfl
                            have hcz31_2 : wc.cell? ⟨gb231, 2, none⟩ = some (.int .i64 ((rd_T55 l2 x20_2).f2)) := (blk_cell BK231.out 2).trans rfl
                            have hcz31_3 : wc.cell? ⟨gb231, 3, none⟩ = some (.int .i64 ((rd_T55 l2 x20_2).f3)) := (blk_cell BK231.out 3).trans rfl
                            have hfz31_0 := blk_frozen BK231.out 0
                            have hfz31_1 := blk_frozen BK231.out 1
                            have hfz31_2 := blk_frozen BK231.out 2
                            have hfz31_3 := blk_frozen BK231.out 3
                            go_wp2
                            go_meet
                            case rel => exact ⟨_, ((((rd_T55 l2 x20_2).f3) != 0)), (by first | rfl | (simp; done) | (simp [*]; done)), H', ⟨by have := HJ3.out; have := HK2.out; have := HJ10.out; first | omega | exact Nat.le_refl _⟩, ⟨by (with_reducible repeat (first | refine blk_drewN ?_ _ | refine blk_drew ?_ | refine blk_alloc ?_ _)); exact BK231.out⟩, ⟨by repeat (first | (with_reducible first | exact HB.out | apply below_alloc | apply pw_below_drewN | apply below_drew1 | refine below_set ?_ GE231.out) | exact HB.out)⟩⟩
                        case rest =>
                          clear HC23
                          try clear c1
                          try clear c2
                          try clear p2
                          try clear q2
                          try clear hx2
                          try clear c4
                          try clear c5
                          try clear c6
                          try clear p6
                          try clear c7
                          try clear c8
                          try clear c8b0
                          try clear c9
                          try clear c9b0
                          try clear c10
                          try clear c10b0
                          try clear c15
                          try clear c17
                          try clear c21
                          try clear c22
                          try clear p23
                          try clear q23
                          try clear hx23
                          try clear c24
                          try clear c24b0
                          try clear c24b1
                          try clear c26
                          try clear c27
                          try clear c27b0
                          try clear c27b1
                          try clear hcz13_0
                          try clear hcz13_1
                          try clear hcz13_2
                          try clear hcz13_3
                          try clear hcz19_0
                          try clear hcz19_1
                          try clear hcz19_2
                          try clear hcz19_3
                          try clear hcz20_0
                          try clear hcz20_1
                          try clear hcz20_2
                          try clear hcz20_3
                          try clear hcz21_0
                          try clear hcz21_1
                          try clear hcz21_2
                          try clear hcz21_3
                          try clear hcz28_0
                          try clear hcz28_1
                          try clear hcz28_2
                          try clear hcz28_3
                          try clear hcz29_0
                          try clear hcz29_1
                          try clear hcz29_2
                          try clear hcz29_3
                          try clear hcz30_0
                          try clear hcz30_1
                          try clear hcz30_2
                          try clear hcz30_3
                          try clear hcz31_0
                          try clear hcz31_1
                          try clear hcz31_2
                          try clear hcz31_3
                          try clear hfz13_0
                          try clear hfz13_1
                          try clear hfz13_2
                          try clear hfz13_3
                          try clear hfz19_0
                          try clear hfz19_1
                          try clear hfz19_2
                          try clear hfz19_3
                          try clear hfz20_0
                          try clear hfz20_1
                          try clear hfz20_2
                          try clear hfz20_3
                          try clear hfz21_0
                          try clear hfz21_1
                          try clear hfz21_2
                          try clear hfz21_3
                          try clear hfz28_0
                          try clear hfz28_1
                          try clear hfz28_2
                          try clear hfz28_3
                          try clear hfz29_0
                          try clear hfz29_1
                          try clear hfz29_2
                          try clear hfz29_3
                          try clear hfz30_0
                          try clear hfz30_1
                          try clear hfz30_2
                          try clear hfz30_3
                          try clear hfz31_0
                          try clear hfz31_1
                          try clear hfz31_2
                          try clear hfz31_3
                          try clear hx230_0
                          try clear hx230_1
                          try clear hx230_2
                          try clear hx230_3
                          try clear p2
                          try clear p230
                          try clear p6
                          try clear q2
                          try clear q230
                          obtain ⟨kq, x72_22, rfl, HA, HJ22, BK231, HB⟩ := hcut
                          cases kq with
                          | zero => exact absurd HA.out (by simp [impl_AreFaults.j3])
                          | succ kj22 =>
                            have H := HA.out
                            clear HA
                            simp only [impl_AreFaults.j3] at H
                            by_cases c32 : x72_22 = true
                            · subst c32
                              have H1 : (some false) = some r := by rw [if_pos rfl] at H; exact H
                              clear H
                              have H := H1
                              clear H1
                              obtain rfl := Option.some.inj H
                              go_wp2
                              go_ret
                              exact ⟨by first | rfl | (simp [errW_none, errW_some] <;> rfl) | (simp [*, errW_none, errW_some] <;> rfl), by repeat (first | (with_reducible first | exact HB.out | apply below_alloc | apply pw_below_drewN | apply below_drew1 | refine below_set ?_ GE231.out) | exact HB.out)⟩
                            · replace c32 := Bool.eq_false_iff.mpr c32
                              subst c32
                              have H1 : (if 0 ≤ x20_2 then (if x20_2 ≤ (l2.length : Int) then ((impl_AreFaults_1.f (l2.take (x20_2 : Int).toNat) ((rd_T55 l2 x20_2).f0) ((rd_T55 l2 x20_2).f1) ((rd_T55 l2 x20_2).f2) ((rd_T55 l2 x20_2).f3)).bind fun t240 => (if t240 = true then (some false) else (impl_AreFaults.l0 kj22 a0 a1 l2 l2 (l2.length : Int) (wrap64 (x20_2 + 1))))) else (none)) else (none)) = some r := by rw [if_neg (show ¬ (false = true) by decide)] at H; exact H
                              clear H
                              have H := H1
                              clear H1
                              by_cases c33 : 0 ≤ x20_2
                              · rw [if_pos c33] at H
                                have c33b0 := eq_true c33
                                have c33b1 : decide (0 ≤ x20_2) = true := decide_eq_true c33
                                clear c33
                                by_cases c34 : x20_2 ≤ (l2.length : Int)
                                · rw [if_pos c34] at H
                                  have c34b0 := eq_true c34
                                  have c34b1 : decide (x20_2 ≤ (l2.length : Int)) = true := decide_eq_true c34
                                  clear c34
                                  obtain ⟨y236, hy236⟩ : ∃ y_ : List (S55), y_ = (l2.take (x20_2 : Int).toNat) := ⟨_, rfl⟩
                                  replace H : ((impl_AreFaults_1.f y236 ((rd_T55 l2 x20_2).f0) ((rd_T55 l2 x20_2).f1) ((rd_T55 l2 x20_2).f2) ((rd_T55 l2 x20_2).f3)).bind fun t240 => (if t240 = true then (some false) else (impl_AreFaults.l0 kj22 a0 a1 l2 l2 (l2.length : Int) (wrap64 (x20_2 + 1))))) = some r := by first | (rw [hy236]; with_reducible exact H) | (have H2_ := (Option.bind_some _ _).symm.trans H; rw [hy236]; with_reducible exact H2_) | (have H2_ := (Option.bind_some _ _).symm.trans H; with_reducible exact H2_) | with_reducible exact H | (rw [hy236]; exact H) | exact H
                                  have Ny236 := Aside0.mk hy236
                                  clear hy236
                                  replace H := Option.bind_eq_some_iff.mp H
                                  obtain ⟨t240, A350, H⟩ := H
                                  replace H : (if t240 = true then (some false) else (impl_AreFaults.l0 kj22 a0 a1 l2 l2 (l2.length : Int) (wrap64 (x20_2 + 1)))) = some r := H
                                  have A35 := Aside0.mk A350
                                  clear A350
                                  by_cases c36 : t240 = true
                                  · subst c36
                                    have H1 : (some false) = some r := by rw [if_pos rfl] at H; exact H
                                    clear H
                                    have H := H1
                                    clear H1
                                    obtain rfl := Option.some.inj H
                                    have q37 : (x20_2 : Int) ≤ ((l2.length : Int) : Int) := of_decide_eq_true (by first | (with_reducible assumption) | assumption)
                                    obtain ⟨i037, hi037, _, hsz37, _⟩ := info_parts info55
                                    have hroom37 : l2.length ≤ c2 := HC2.out
                                    have hC37 : Kd.C k55 _ (some ad230) l2.length l2 := HR2.out
                                    have hcut37 := cut_to (P := Try.prog) 31 55 .i64 Try.underlying31 hi037 (some ad230) l2.length c2 x20_2 (of_decide_eq_true (by first | (with_reducible assumption) | assumption)) q37 hroom37
                                    have hr37 := Kd.C_take (m := (x20_2 : Int).toNat) hC37 (by omega)
                                    have hy37 : y236.length = (x20_2 : Int).toNat := (by rw [Ny236.out, List.length_take]; omega)
                                    rw [← Ny236.out] at hr37
                                    rw [← hy37] at hcut37
                                    have HR239 := Aside0.mk hr37
                                    have HC239 := Aside0.mk (show y236.length ≤ c2 from by omega)
                                    clear hr37 hC37 hroom37 hi037 hsz37
                                    have KY37 := Aside0.mk hy37
                                    clear hy37
                                    replace q37 := eq_true q37
                                    go_wp2_with (first | ((with_reducible refine gate_callee (f := 53) rfl ?_); refine goesL_ (some 77) rfl rfl Try.func53 (by kernel_rfl) rfl #[.slice (some ad230) y236.length c2, .func (.func 54) #[] #[.pointer (some ⟨gb231, 0, none⟩)]] rfl (by (try simp only [List.map_toArray, List.map_cons, List.map_nil]); first | done | rfl | (simp only [List.length_drop, List.length_take]; rfl)) ?_; (with_reducible refine (impl_AreFaults_1.calls _ _ y236 ((rd_T55 l2 x20_2).f0) ((rd_T55 l2 x20_2).f1) ((rd_T55 l2 x20_2).f2) ((rd_T55 l2 x20_2).f3) true _ ?side1 ?side2 ?side3 A35.out).mono ?_); (case side1 => repeat (first | exact (Kd.C_below HR239.out HB.out) | (with_reducible refine Kd.C_alloc ?_ _) | (with_reducible refine Kd.C_drewN ?_ _) | (with_reducible refine Kd.C_drew ?_))); (case side2 => exact HC239.out); (case side3 => exact by (with_reducible repeat (first | refine blk_drewN ?_ _ | refine blk_drew ?_ | refine blk_alloc ?_ _)); exact BK231.out); rintro e w38 ⟨rfl, hb⟩; refine ⟨_, rfl, ?_⟩; have n0_ := Aside0.mk (blk_below (g := gb231) (o := .cells #[.int .i64 ((rd_T55 l2 x20_2).f0), .int .i64 ((rd_T55 l2 x20_2).f1), .int .i64 ((rd_T55 l2 x20_2).f2), .int .i64 ((rd_T55 l2 x20_2).f3)] 55 (0, 0)) (by (with_reducible repeat (first | refine blk_drewN ?_ _ | refine blk_drew ?_ | refine blk_alloc ?_ _)); exact BK231.out) hb); have n1_ := Aside0.mk (below_step (by repeat (first | (with_reducible first | exact HB.out | apply below_alloc | apply pw_below_drewN | apply below_drew1 | refine below_set ?_ GE231.out) | exact HB.out)) hb); clear BK231; clear HB; have BK231 := n0_; have HB := n1_; clear n0_ n1_; (try clear hb); (try clear hb2); (try clear hk); (try clear hi)))
                                    go_ret
                                    exact ⟨by first | rfl | (simp [errW_none, errW_some] <;> rfl) | (simp [*, errW_none, errW_some] <;> rfl), by repeat (first | (with_reducible first | exact HB.out | apply below_alloc | apply pw_below_drewN | apply below_drew1 | refine below_set ?_ GE231.out) | exact HB.out)⟩
                                  · replace c36 := Bool.eq_false_iff.mpr c36
                                    subst c36
                                    have H1 : (impl_AreFaults.l0 kj22 a0 a1 l2 l2 (l2.length : Int) (wrap64 (x20_2 + 1))) = some r := by rw [if_neg (show ¬ (false = true) by decide)] at H; exact H
                                    clear H
                                    have H := H1
                                    clear H1
                                    have H' := Aside0.mk H
                                    clear H
                                    have q39 : (x20_2 : Int) ≤ ((l2.length : Int) : Int) := of_decide_eq_true (by first | (with_reducible assumption) | assumption)
                                    obtain ⟨i039, hi039, _, hsz39, _⟩ := info_parts info55
                                    have hroom39 : l2.length ≤ c2 := HC2.out
                                    have hC39 : Kd.C k55 _ (some ad230) l2.length l2 := HR2.out
                                    have hcut39 := cut_to (P := Try.prog) 31 55 .i64 Try.underlying31 hi039 (some ad230) l2.length c2 x20_2 (of_decide_eq_true (by first | (with_reducible assumption) | assumption)) q39 hroom39
                                    have hr39 := Kd.C_take (m := (x20_2 : Int).toNat) hC39 (by omega)
                                    have hy39 : y236.length = (x20_2 : Int).toNat := (by rw [Ny236.out, List.length_take]; omega)
                                    rw [← Ny236.out] at hr39
                                    rw [← hy39] at hcut39
                                    have HR239 := Aside0.mk hr39
                                    have HC239 := Aside0.mk (show y236.length ≤ c2 from by omega)
                                    clear hr39 hC39 hroom39 hi039 hsz39
                                    have KY39 := Aside0.mk hy39
                                    clear hy39
                                    replace q39 := eq_true q39
                                    go_wp2_with (first | ((with_reducible refine gate_callee (f := 53) rfl ?_); refine goesL_ (some 77) rfl rfl Try.func53 (by kernel_rfl) rfl #[.slice (some ad230) y236.length c2, .func (.func 54) #[] #[.pointer (some ⟨gb231, 0, none⟩)]] rfl (by (try simp only [List.map_toArray, List.map_cons, List.map_nil]); first | done | rfl | (simp only [List.length_drop, List.length_take]; rfl)) ?_; (with_reducible refine (impl_AreFaults_1.calls _ _ y236 ((rd_T55 l2 x20_2).f0) ((rd_T55 l2 x20_2).f1) ((rd_T55 l2 x20_2).f2) ((rd_T55 l2 x20_2).f3) false _ ?side1 ?side2 ?side3 A35.out).mono ?_); (case side1 => repeat (first | exact (Kd.C_below HR239.out HB.out) | (with_reducible refine Kd.C_alloc ?_ _) | (with_reducible refine Kd.C_drewN ?_ _) | (with_reducible refine Kd.C_drew ?_))); (case side2 => exact HC239.out); (case side3 => exact by (with_reducible repeat (first | refine blk_drewN ?_ _ | refine blk_drew ?_ | refine blk_alloc ?_ _)); exact BK231.out); rintro e w40 ⟨rfl, hb⟩; refine ⟨_, rfl, ?_⟩; have n0_ := Aside0.mk (blk_below (g := gb231) (o := .cells #[.int .i64 ((rd_T55 l2 x20_2).f0), .int .i64 ((rd_T55 l2 x20_2).f1), .int .i64 ((rd_T55 l2 x20_2).f2), .int .i64 ((rd_T55 l2 x20_2).f3)] 55 (0, 0)) (by (with_reducible repeat (first | refine blk_drewN ?_ _ | refine blk_drew ?_ | refine blk_alloc ?_ _)); exact BK231.out) hb); have n1_ := Aside0.mk (below_step (by repeat (first | (with_reducible first | exact HB.out | apply below_alloc | apply pw_below_drewN | apply below_drew1 | refine below_set ?_ GE231.out) | exact HB.out)) hb); clear BK231; clear HB; have BK231 := n0_; have HB := n1_; clear n0_ n1_; (try clear hb); (try clear hb2); (try clear hk); (try clear hi)))
                                    go_roundg kj22
                                    case measure => have := HJ3.out; have := HK2.out; have := HJ10.out; have := HJ22.out; omega
                                    case rel => exact ⟨(wrap64 (x20_2 + 1)), (by first | rfl | (simp; done) | (simp [*]; done)), H', ⟨by have := HJ3.out; have := HK2.out; have := HJ10.out; have := HJ22.out; omega⟩, ⟨by repeat (first | (with_reducible first | exact HB.out | apply below_alloc | apply pw_below_drewN | apply below_drew1 | refine below_set ?_ GE231.out) | exact HB.out)⟩⟩
                                · rw [if_neg c34] at H
                                  exact absurd H (by simp)
                              · rw [if_neg c33] at H
                                exact absurd H (by simp)
                · rw [if_neg c10] at H
                  exact absurd H (by simp)
              · rw [if_neg c9] at H
                exact absurd H (by simp)
            · rw [if_neg c8] at H
              have c8b0 : decide (x20_2 < (l2.length : Int)) = false := decide_eq_false c8
              clear c8
              obtain rfl := Option.some.inj H
              go_wp2
              go_ret
              exact ⟨by first | rfl | (simp [errW_none, errW_some] <;> rfl) | (simp [*, errW_none, errW_some] <;> rfl), by repeat (first | (with_reducible first | exact HB.out | apply below_alloc | apply pw_below_drewN | apply below_drew1) | exact HB.out)⟩

/-! ### impl_checkFaults: function 59 -/
def impl_checkFaults.f (k : Nat) (a0 : Int) (a1 : Int) (l2 : List (S55)) : Option (Int) := (impl_isLine.f a0 a1).bind fun t241 => (if t241 = true then ((impl_AreFaults.f k a0 a1 l2).bind fun t242 => (if t242 = true then (some 0) else (some 1))) else (some 2))
theorem impl_checkFaults.mono : ∀ a0 a1 a2 k, LeO (impl_checkFaults.f k a0 a1 a2) (impl_checkFaults.f (k + 1) a0 a1 a2) := by
  intro a0 a1 a2 k
  unfold impl_checkFaults.f
  repeat' first
      | (with_reducible exact impl_AreFaults.mono _ _ _ _)
      | (with_reducible exact LeO.refl _)
      | (with_reducible exact LeO.none _)
      | (with_reducible refine LeO.ite ?_ ?_)
      | (with_reducible refine LeO.bind ?_ (fun _ => ?_))
      | exact impl_AreFaults.mono _ _ _ _
      | exact LeO.none _
      | refine LeO.ite ?_ ?_
      | refine LeO.bind ?_ (fun _ => ?_)
set_option maxHeartbeats 8000000 in
set_option maxRecDepth 100000 in
theorem impl_checkFaults.calls (k : Nat) (a0 : Int) (a1 : Int) (A2 : Option Addr) (c2 : Nat) (l2 : List (S55)) (r : Int) (w : World) (hr2 : Kd.C k55 w A2 l2.length l2) (hc2 : l2.length ≤ c2) (h : impl_checkFaults.f k a0 a1 l2 = some r) :
    Calls Try.prog 59 #[.int .i64 a0, .int .i64 a1, .slice A2 l2.length c2] w fun e w' => e = .returned (.int .i64 r) ∧ Below w.heap.size w w' := by
  have HR2 := Aside0.mk hr2
  have HC2 := Aside0.mk hc2
  clear hr2 hc2
  have HB := Aside0.mk (Below.refl w.heap.size w)
  have H : ((impl_isLine.f a0 a1).bind fun t241 => (if t241 = true then ((impl_AreFaults.f k a0 a1 l2).bind fun t242 => (if t242 = true then (some 0) else (some 1))) else (some 2))) = some r := h
  clear h
  replace H := Option.bind_eq_some_iff.mp H
  obtain ⟨t241, A40, H⟩ := H
  replace H : (if t241 = true then ((impl_AreFaults.f k a0 a1 l2).bind fun t242 => (if t242 = true then (some 0) else (some 1))) else (some 2)) = some r := H
  have A4 := Aside0.mk A40
  clear A40
  by_cases c5 : t241 = true
  · subst c5
    have H1 : ((impl_AreFaults.f k a0 a1 l2).bind fun t242 => (if t242 = true then (some 0) else (some 1))) = some r := by rw [if_pos rfl] at H; exact H
    clear H
    have H := H1
    clear H1
    replace H := Option.bind_eq_some_iff.mp H
    obtain ⟨t242, A60, H⟩ := H
    replace H : (if t242 = true then (some 0) else (some 1)) = some r := H
    have A6 := Aside0.mk A60
    clear A60
    by_cases c7 : t242 = true
    · subst c7
      have H1 : (some 0) = some r := by rw [if_pos rfl] at H; exact H
      clear H
      have H := H1
      clear H1
      obtain rfl := Option.some.inj H
      go_enter Try.func59, Try.ntmps59
      go_wp2_with (first | ((with_reducible refine gate_callee (f := 48) rfl ?_); refine goesL_ (some 10) rfl rfl Try.func48 (by kernel_rfl) rfl #[.int .i64 a0, .int .i64 a1] rfl (by (try simp only [List.map_toArray, List.map_cons, List.map_nil]); first | done | rfl | (simp only [List.length_drop, List.length_take]; rfl)) ?_; (with_reducible refine (impl_isLine.calls a0 a1 true _ A4.out).mono ?_); rintro e w' ⟨rfl, ⟨nd, rfl⟩⟩; refine ⟨_, rfl, ?_⟩) | ((with_reducible refine gate_callee (f := 21) rfl ?_); refine goesL_ (some 16) rfl rfl Try.func21 (by kernel_rfl) rfl #[.int .i64 a0, .int .i64 a1, .slice A2 l2.length c2] rfl (by (try simp only [List.map_toArray, List.map_cons, List.map_nil]); first | done | rfl | (simp only [List.length_drop, List.length_take]; rfl)) ?_; (with_reducible refine (impl_AreFaults.calls k a0 a1 _ _ l2 true _ ?side1 ?side2 A6.out).mono ?_); (case side1 => repeat (first | exact HR2.out | (with_reducible refine Kd.C_alloc ?_ _) | (with_reducible refine Kd.C_drewN ?_ _) | (with_reducible refine Kd.C_drew ?_))); (case side2 => exact HC2.out); rintro e w8 ⟨rfl, hb⟩; refine ⟨_, rfl, ?_⟩; have n0_ := Aside0.mk (below_step (by repeat (first | (with_reducible first | exact HB.out | apply below_alloc | apply pw_below_drewN | apply below_drew1) | exact HB.out)) hb); clear HB; have HB := n0_; clear n0_; (try clear hb); (try clear hb2); (try clear hk); (try clear hi)))
      go_ret
      exact ⟨by first | rfl | (simp [errW_none, errW_some] <;> rfl) | (simp [*, errW_none, errW_some] <;> rfl), by repeat (first | (with_reducible first | exact HB.out | apply below_alloc | apply pw_below_drewN | apply below_drew1) | exact HB.out)⟩
    · replace c7 := Bool.eq_false_iff.mpr c7
      subst c7
      have H1 : (some 1) = some r := by rw [if_neg (show ¬ (false = true) by decide)] at H; exact H
      clear H
      have H := H1
      clear H1
      obtain rfl := Option.some.inj H
      go_enter Try.func59, Try.ntmps59
      go_wp2_with (first | ((with_reducible refine gate_callee (f := 48) rfl ?_); refine goesL_ (some 10) rfl rfl Try.func48 (by kernel_rfl) rfl #[.int .i64 a0, .int .i64 a1] rfl (by (try simp only [List.map_toArray, List.map_cons, List.map_nil]); first | done | rfl | (simp only [List.length_drop, List.length_take]; rfl)) ?_; (with_reducible refine (impl_isLine.calls a0 a1 true _ A4.out).mono ?_); rintro e w' ⟨rfl, ⟨nd, rfl⟩⟩; refine ⟨_, rfl, ?_⟩) | ((with_reducible refine gate_callee (f := 21) rfl ?_); refine goesL_ (some 16) rfl rfl Try.func21 (by kernel_rfl) rfl #[.int .i64 a0, .int .i64 a1, .slice A2 l2.length c2] rfl (by (try simp only [List.map_toArray, List.map_cons, List.map_nil]); first | done | rfl | (simp only [List.length_drop, List.length_take]; rfl)) ?_; (with_reducible refine (impl_AreFaults.calls k a0 a1 _ _ l2 false _ ?side1 ?side2 A6.out).mono ?_); (case side1 => repeat (first | exact HR2.out | (with_reducible refine Kd.C_alloc ?_ _) | (with_reducible refine Kd.C_drewN ?_ _) | (with_reducible refine Kd.C_drew ?_))); (case side2 => exact HC2.out); rintro e w9 ⟨rfl, hb⟩; refine ⟨_, rfl, ?_⟩; have n0_ := Aside0.mk (below_step (by repeat (first | (with_reducible first | exact HB.out | apply below_alloc | apply pw_below_drewN | apply below_drew1) | exact HB.out)) hb); clear HB; have HB := n0_; clear n0_; (try clear hb); (try clear hb2); (try clear hk); (try clear hi)))
      go_ret
      exact ⟨by first | rfl | (simp [errW_none, errW_some] <;> rfl) | (simp [*, errW_none, errW_some] <;> rfl), by repeat (first | (with_reducible first | exact HB.out | apply below_alloc | apply pw_below_drewN | apply below_drew1) | exact HB.out)⟩
  · replace c5 := Bool.eq_false_iff.mpr c5
    subst c5
    have H1 : (some 2) = some r := by rw [if_neg (show ¬ (false = true) by decide)] at H; exact H
    clear H
    have H := H1
    clear H1
    obtain rfl := Option.some.inj H
    go_enter Try.func59, Try.ntmps59
    go_wp2_with (first | ((with_reducible refine gate_callee (f := 48) rfl ?_); refine goesL_ (some 10) rfl rfl Try.func48 (by kernel_rfl) rfl #[.int .i64 a0, .int .i64 a1] rfl (by (try simp only [List.map_toArray, List.map_cons, List.map_nil]); first | done | rfl | (simp only [List.length_drop, List.length_take]; rfl)) ?_; (with_reducible refine (impl_isLine.calls a0 a1 false _ A4.out).mono ?_); rintro e w' ⟨rfl, ⟨nd, rfl⟩⟩; refine ⟨_, rfl, ?_⟩))
    go_ret
    exact ⟨by first | rfl | (simp [errW_none, errW_some] <;> rfl) | (simp [*, errW_none, errW_some] <;> rfl), by repeat (first | (with_reducible first | exact HB.out | apply below_alloc | apply pw_below_drewN | apply below_drew1) | exact HB.out)⟩

/-! ### impl_gather_1: function 82, by a template of this session -/
theorem impl_gather_1.rd_get (l : List S55) (x : Int) (h0 : 0 ≤ x) (h : x.toNat < l.length) : rd_T55 l x = l[x.toNat] := by
  simp [rd_T55, List.getD_eq_getElem?_getD, List.getElem?_eq_getElem h]
set_option maxHeartbeats 2000000 in
theorem impl_gather_1.index (lb : Array Value) (p : S55 → Bool) (A0 : Option Addr) (c0 : Nat) (l0 : List S55) (w : World)
    (hp : ∀ (W : World) (x : S55), Below w.heap.size w W → Calls Try.prog 82 (#[.agg #[.int .i64 x.f0, .int .i64 x.f1, .int .i64 x.f2, .int .i64 x.f3]] ++ lb) W fun e w' => e = .returned (.bool (p x)) ∧ Below w.heap.size w w')
    (hr0 : Kd.C k55 w A0 l0.length l0) :
    Calls Try.prog 75 #[.slice A0 l0.length c0, .func (.func 82) #[] lb] w fun e w' => e = .returned (.int .i64 (at_from p l0 0)) ∧ Below w.heap.size w w' := by
  have HR0 := Aside0.mk hr0
  have HL := Aside0.mk (show (l0.length : Int) ≤ 9223372036854775807 by have := hr0.2.1; omega)
  have HP := Aside0.mk hp
  clear hr0 hp
  have hu55 := Try.underlying55
  go_enter Try.func75, Try.ntmps75
  go_wp2
  go_loopg [5, 8] l0.length (fun gg _ s8 wr => ∃ x : Int, s8 = .int .i64 x ∧ Aside0 (0 ≤ x ∧ x ≤ l0.length ∧ (l0.length : Int) - x ≤ gg) ∧ Aside0 (Below w.heap.size w wr) ∧ Aside0 (∀ (j : Nat) (hj : (j : Int) < x) (hl : j < l0.length), p l0[j] = false))
  case atStart => exact ⟨0, rfl, ⟨by omega⟩, ⟨Below.refl _ w⟩, ⟨fun j hj => by omega⟩⟩
  case round =>
    obtain ⟨x, rfl, XX, BW, AA⟩ := hrel
    by_cases hlt : x < (l0.length : Int)
    · have hx0 : 0 ≤ x := XX.out.1
      have hltz : decide (x < (l0.length : Int)) = true := decide_eq_true hlt
      have hx1 : x ≤ 9223372036854775806 := by have := HL.out; omega
      have hcall := HP.out wr (rd_T55 l0 x) BW.out
      obtain ⟨ad, ead, hxa, hxb, hxc, hxd⟩ := at_T55 (Kd.C_below HR0.out BW.out) x hx0 hlt
      cases ead
      have B : Aside0 (∀ h : x.toNat < l0.length, rd_T55 l0 x = l0[x.toNat]) := ⟨fun h => impl_gather_1.rd_get l0 x hx0 h⟩
      generalize rd_T55 l0 x = y at hcall hxa hxb hxc hxd B
      cases hq : p y with
      | true =>
        have Q : Aside0 (p y = true) := ⟨hq⟩
        rw [hq] at hcall
        clear hq
        have LT : Aside0 (x < (l0.length : Int)) := ⟨hlt⟩
        replace hlt := eq_true hlt
        replace hx0 := eq_true hx0
        go_wp2_with (go_at_call 82; refine hcall.mono ?_; rintro e w' ⟨rfl, hb'⟩)
        go_ret
        refine ⟨?_, hb'⟩
        have h1 := XX.out
        have h2 := LT.out
        rw [at_from_hit p l0 x.toNat 0 (by omega) (by rw [← B.out (by omega)]; exact Q.out) (fun j hj => AA.out j (by omega) (by omega))]
        rw [Int.toNat_of_nonneg (by omega), Int.zero_add]
        rfl
      | false =>
        have Q : Aside0 (p y = false) := ⟨hq⟩
        rw [hq] at hcall
        clear hq
        have LT : Aside0 (x < (l0.length : Int)) := ⟨hlt⟩
        have hx2 : 0 ≤ x + 1 := by omega
        go_wp2_with (go_at_call 82; refine hcall.mono ?_; rintro e w' ⟨rfl, hb'⟩)
        go_roundg ((l0.length : Int) - (x + 1)).toNat
        case measure => have h1 := XX.out; have h2 := LT.out; omega
        case rel =>
          have h1 := XX.out
          have h2 := LT.out
          refine ⟨x + 1, rfl, ⟨by omega⟩, ⟨hb'⟩, ⟨fun j hj hl => ?_⟩⟩
          by_cases e : (j : Int) = x
          · have hj : j = x.toNat := by omega
            subst hj
            rw [← B.out hl]; exact Q.out
          · exact AA.out j (by omega) hl
    · have hltz : decide (x < (l0.length : Int)) = false := decide_eq_false hlt
      have LT : Aside0 (¬ x < (l0.length : Int)) := ⟨hlt⟩
      clear hlt
      go_wp2
      go_ret
      refine ⟨?_, BW.out⟩
      have h2 := LT.out
      rw [at_from_miss p l0 0 (fun j hj => AA.out j (by omega) hj)]
      rfl
set_option maxHeartbeats 2000000 in
theorem impl_gather_1.contains (lb : Array Value) (p : S55 → Bool) (A0 : Option Addr) (c0 : Nat) (l0 : List S55) (w : World)
    (hp : ∀ (W : World) (x : S55), Below w.heap.size w W → Calls Try.prog 82 (#[.agg #[.int .i64 x.f0, .int .i64 x.f1, .int .i64 x.f2, .int .i64 x.f3]] ++ lb) W fun e w' => e = .returned (.bool (p x)) ∧ Below w.heap.size w w')
    (hr0 : Kd.C k55 w A0 l0.length l0) :
    Calls Try.prog 53 #[.slice A0 l0.length c0, .func (.func 82) #[] lb] w fun e w' => e = .returned (.bool (l0.any p)) ∧ Below w.heap.size w w' := by
  have E := Aside0.mk (at_from_any p l0 0 (Int.le_refl 0))
  have HC := Aside0.mk (impl_gather_1.index lb p A0 c0 l0 w hp hr0)
  clear hp hr0
  go_enter Try.func53, Try.ntmps53
  go_wp2_with (go_at_call 75; (with_reducible refine HC.out.mono ?_); rintro e w' ⟨rfl, hb'⟩)
  go_ret
  refine ⟨?_, hb'⟩
  rw [← E.out]
  rfl
def impl_gather_1.p (b s : Int) (u : S55) : Bool := if u.f0 = b then (u.f1 == s) else false
def impl_gather_1.f (l0 : List S55) (b s : Int) : Option (Int) := some (at_from (impl_gather_1.p b s) l0 0)
set_option maxRecDepth 100000 in
set_option maxHeartbeats 2000000 in
theorem impl_gather_1.closure (u : S55) (b s : Int) (g g' : Nat) (W : World) (hb : W.heap[g]? = some (.cells #[.int .i64 b] 2 (0, 0))) (hs : W.heap[g']? = some (.cells #[.int .i64 s] 2 (0, 0))) :
    Calls Try.prog 82 #[.agg #[.int .i64 u.f0, .int .i64 u.f1, .int .i64 u.f2, .int .i64 u.f3], .pointer (some ⟨g, 0, none⟩), .pointer (some ⟨g', 0, none⟩)] W fun e w' => e = .returned (.bool (impl_gather_1.p b s u)) ∧ Below W.heap.size W w' := by
  have B := blk_alloc hb (.cells #[.int .i64 u.f0, .int .i64 u.f1, .int .i64 u.f2, .int .i64 u.f3] 55)
  have S := blk_alloc hs (.cells #[.int .i64 u.f0, .int .i64 u.f1, .int .i64 u.f2, .int .i64 u.f3] 55)
  have N := blk_new W (.cells #[.int .i64 u.f0, .int .i64 u.f1, .int .i64 u.f2, .int .i64 u.f3] 55)
  have k0 : (W.alloc (.cells #[.int .i64 u.f0, .int .i64 u.f1, .int .i64 u.f2, .int .i64 u.f3] 55)).cell? ⟨g, 0, none⟩ = some (.int .i64 b) := (blk_cell B 0).trans rfl
  have k1 : (W.alloc (.cells #[.int .i64 u.f0, .int .i64 u.f1, .int .i64 u.f2, .int .i64 u.f3] 55)).cell? ⟨g', 0, none⟩ = some (.int .i64 s) := (blk_cell S 0).trans rfl
  have n0 : (W.alloc (.cells #[.int .i64 u.f0, .int .i64 u.f1, .int .i64 u.f2, .int .i64 u.f3] 55)).cell? ⟨W.heap.size, 0, none⟩ = some (.int .i64 u.f0) := (blk_cell N 0).trans rfl
  have n1 : (W.alloc (.cells #[.int .i64 u.f0, .int .i64 u.f1, .int .i64 u.f2, .int .i64 u.f3] 55)).cell? ⟨W.heap.size, 1, none⟩ = some (.int .i64 u.f1) := (blk_cell N 1).trans rfl
  clear B S N hb hs
  have hu55 := Try.underlying55
  by_cases c0 : u.f0 = b
  · subst c0
    have P := Aside0.mk (show (u.f1 == s) = impl_gather_1.p u.f0 s u by unfold impl_gather_1.p; rw [if_pos rfl])
    go_enter Try.func82, Try.ntmps82
    go_wp2
    go_ret
    exact ⟨by rw [← P.out]; rfl, below_alloc (Below.refl _ _) _⟩
  · have P := Aside0.mk (show false = impl_gather_1.p b s u by unfold impl_gather_1.p; rw [if_neg c0])
    have d0 : (u.f0 == b) = false := beq_false_of_ne c0
    clear c0
    go_enter Try.func82, Try.ntmps82
    go_wp2
    go_ret
    exact ⟨by rw [← P.out]; rfl, below_alloc (Below.refl _ _) _⟩
theorem impl_gather_1.calls (A0 : Option Addr) (c0 : Nat) (l0 : List S55) (b s : Int) (r : Int) (w : World) {g g' : Nat} (hr0 : Kd.C k55 w A0 l0.length l0) (_hc0 : l0.length ≤ c0) (hb : w.heap[g]? = some (.cells #[.int .i64 b] 2 (0, 0))) (hs : w.heap[g']? = some (.cells #[.int .i64 s] 2 (0, 0))) (h : impl_gather_1.f l0 b s = some r) :
    Calls Try.prog 75 #[.slice A0 l0.length c0, .func (.func 82) #[] #[.pointer (some ⟨g, 0, none⟩), .pointer (some ⟨g', 0, none⟩)]] w fun e w' => e = .returned (.int .i64 r) ∧ Below w.heap.size w w' := by
  unfold impl_gather_1.f at h
  obtain rfl := Option.some.inj h
  exact impl_gather_1.index #[.pointer (some ⟨g, 0, none⟩), .pointer (some ⟨g', 0, none⟩)] (impl_gather_1.p b s) A0 c0 l0 w (fun W x hbW => (impl_gather_1.closure x b s g g' W (blk_below hb hbW) (blk_below hs hbW)).mono fun e w' ⟨he, hb'⟩ => ⟨he, hbW.trans (hb'.mono hbW.size)⟩) hr0

end Go.Proofs.Ythmeohanbggnlaa.PFnExplained
