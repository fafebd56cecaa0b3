-- Written by a program of this session.
import Derived.Test.YtpndkekgoadjkaaDoorPFnSetupsx0
namespace Go.Proofs.YtpndkekgoadjkaaDoor.PFnSetups
open Go.RowKit Go.Proofs.YtpndkekgoadjkaaDoorW.PrintWords Go.Proofs.YtpndkekgoadjkaaDoorW.PrintLast Go.Proofs.YtpndkekgoadjkaaDoorW.PrintMore
attribute [local go_sem] max2_int min2_int max_two min_two max_three min_three max_four min_four   -- for this text's walks alone
set_option linter.unusedVariables false
set_option linter.unusedSimpArgs false

/-! ### impl_setupOf: function 30 -/
def impl_setupOf.l0 : Nat → ByteArray → List (S56) → List (S24) → Int → Int → Int → Int → Option ((List (S56)) × (List (S24)))
  | 0, _, _, _, _, _, _, _ => none
  | k + 1, x3, x11, x12, x29, x30, x147000, x147001 => if x30 < x29 then (if 0 ≤ x30 then (if x30 < (x3.size : Int) then (if (bt x3 x30) = 76 then ((some (([(⟨true, wrap64 (Int.tdiv x147000 2), true⟩ : S56)] : List (S56)) : List (S56))).bind fun y154 => (if x11.length + y154.length < 5864062014805 then ((some (([(⟨wrap64 (Int.tdiv x147000 2), x147001⟩ : S24)] : List (S24)) : List (S24))).bind fun y160 => (if x12.length + y160.length < 8796093022208 then (impl_setupOf.l0 k x3 (x11 ++ y154) (x12 ++ y160) x29 (wrap64 (x30 + 1)) (wrap64 (Int.tdiv x147000 2)) x147001) else (none))) else (none))) else (if (bt x3 x30) = 82 then ((some (([(⟨true, wrap64 (Int.tdiv x147000 2), ((bt x3 x30) == 84)⟩ : S56)] : List (S56)) : List (S56))).bind fun y167 => (if x11.length + y167.length < 5864062014805 then ((some (([(⟨wrap64 (Int.tdiv x147000 2), x147001⟩ : S24)] : List (S24)) : List (S24))).bind fun y173 => (if x12.length + y173.length < 8796093022208 then (impl_setupOf.l0 k x3 (x11 ++ y167) (x12 ++ y173) x29 (wrap64 (x30 + 1)) (wrap64 (Int.tdiv x147000 2)) x147001) else (none))) else (none))) else ((some (([(⟨false, wrap64 (Int.tdiv x147001 2), ((bt x3 x30) == 84)⟩ : S56)] : List (S56)) : List (S56))).bind fun y179 => (if x11.length + y179.length < 5864062014805 then ((some (([(⟨x147000, wrap64 (Int.tdiv x147001 2)⟩ : S24)] : List (S24)) : List (S24))).bind fun y185 => (if x12.length + y185.length < 8796093022208 then (impl_setupOf.l0 k x3 (x11 ++ y179) (x12 ++ y185) x29 (wrap64 (x30 + 1)) x147000 (wrap64 (Int.tdiv x147001 2))) else (none))) else (none))))) else (none)) else (none)) else (some (x11, x12))
def impl_setupOf.f (k : Nat) (a0 : Int) (a1 : Int) (a2_0 : Int) (a2_1 : Int) (a3 : ByteArray) : Option ((List (S56)) × (List (S24))) := impl_setupOf.l0 k a3 (([] : List (S56))) (([(⟨wrap64 (a0 * a2_0), wrap64 (a1 * a2_1)⟩ : S24)] : List (S24))) (a3.size : Int) 0 (wrap64 (a0 * a2_0)) (wrap64 (a1 * a2_1))
theorem impl_setupOf.mono_l : ∀ k, (∀ y0 y1 y2 y3 y4 y5 y6, LeO (impl_setupOf.l0 k y0 y1 y2 y3 y4 y5 y6) (impl_setupOf.l0 (k + 1) y0 y1 y2 y3 y4 y5 y6))
  | 0 => fun _ _ _ _ _ _ _ r h => by simp [impl_setupOf.l0] at h
  | k + 1 => by
    have ih0 := impl_setupOf.mono_l k
    · intro y0 y1 y2 y3 y4 y5 y6
      unfold impl_setupOf.l0
      repeat' first
      | (with_reducible exact ih0 _ _ _ _ _ _ _)
      | (with_reducible exact LeO.refl _)
      | (with_reducible exact LeO.none _)
      | (with_reducible refine LeO.ite ?_ ?_)
      | (with_reducible refine LeO.bind ?_ (fun _ => ?_))
      | exact ih0 _ _ _ _ _ _ _
      | exact LeO.none _
      | refine LeO.ite ?_ ?_
      | refine LeO.bind ?_ (fun _ => ?_)
theorem impl_setupOf.mono : ∀ a0 a1 a2 a3 a4 k, LeO (impl_setupOf.f k a0 a1 a2 a3 a4) (impl_setupOf.f (k + 1) a0 a1 a2 a3 a4) := by
  intro a0 a1 a2 a3 a4 k
  have ih0 := impl_setupOf.mono_l k
  unfold impl_setupOf.f
  repeat' first
      | (with_reducible exact ih0 _ _ _ _ _ _ _)
      | (with_reducible exact LeO.refl _)
      | (with_reducible exact LeO.none _)
      | (with_reducible refine LeO.ite ?_ ?_)
      | (with_reducible refine LeO.bind ?_ (fun _ => ?_))
      | exact ih0 _ _ _ _ _ _ _
      | exact LeO.none _
      | refine LeO.ite ?_ ?_
      | refine LeO.bind ?_ (fun _ => ?_)
def impl_setupOf.T2 : Bool × List (List Nat × List Nat) := (true, [([], []), ([], []), ([1], [1]), ([0, 0], [0]), ([2, 3, 0, 1, 2, 3], [2])])
def impl_setupOf.B2 : List Nat := [0, 0, 2, 1, 15]
theorem impl_setupOf.tab2 : rtab .any (opsOf Tryd.f30 2) = impl_setupOf.T2 := by kernel_rfl
theorem impl_setupOf.bits2 : waitsOk impl_setupOf.T2.2 impl_setupOf.B2 = true := by kernel_rfl
def impl_setupOf.T13 : Bool × List (List Nat × List Nat) := (true, [([], []), ([], []), ([1], [1]), ([0, 2], [0, 2]), ([], []), ([], []), ([5], [5]), ([4, 6, 3], [4, 6]), ([3, 7, 0, 1, 2, 3], [0, 3]), ([7, 8, 0, 1, 2, 3, 4, 5, 6, 7, 8], [4, 7])])
def impl_setupOf.B13 : List Nat := [0, 0, 2, 7, 0, 0, 32, 127, 255, 511]
theorem impl_setupOf.tab13 : rtab .any (opsOf Tryd.f30 13) = impl_setupOf.T13 := by kernel_rfl
theorem impl_setupOf.bits13 : waitsOk impl_setupOf.T13.2 impl_setupOf.B13 = true := by kernel_rfl
set_option maxHeartbeats 8000000 in
set_option maxRecDepth 100000 in
theorem impl_setupOf.calls (k : Nat) (a0 : Int) (a1 : Int) (a2_0 : Int) (a2_1 : Int) (a3 : ByteArray) (r1 : List (S56)) (r2 : List (S24)) (w : World) (h : impl_setupOf.f k a0 a1 a2_0 a2_1 a3 = some (r1, r2)) :
    Calls Tryd.prog 30 #[.int .i64 a0, .int .i64 a1, .agg #[.int .i64 a2_0, .int .i64 a2_1], .string a3] w fun e w' => ∃ v0_ v1_ : Value, e = .returned (.tuple #[v0_, v1_]) ∧ Kd.R k56 56 w' w.heap.size (fun _ => True) v0_ r1 ∧ Kd.R k24 24 w' w.heap.size (fun _ => True) v1_ r2 ∧ Below w.heap.size w w' := by
  have hu24 := Tryd.underlying24
  have hu56 := Tryd.underlying56
  have HB := Aside0.mk (Below.refl w.heap.size w)
  have H : (impl_setupOf.l0 k a3 (([] : List (S56))) (([(⟨wrap64 (a0 * a2_0), wrap64 (a1 * a2_1)⟩ : S24)] : List (S24))) (a3.size : Int) 0 (wrap64 (a0 * a2_0)) (wrap64 (a1 * a2_1))) = some (r1, r2) := h
  clear h
  obtain ⟨y147, hy147⟩ : ∃ y_ : List (S56), y_ = (([] : List (S56))) := ⟨_, rfl⟩
  replace H : (impl_setupOf.l0 k a3 y147 (([(⟨wrap64 (a0 * a2_0), wrap64 (a1 * a2_1)⟩ : S24)] : List (S24))) (a3.size : Int) 0 (wrap64 (a0 * a2_0)) (wrap64 (a1 * a2_1))) = some (r1, r2) := by first | (rw [hy147]; with_reducible exact H) | (have H2_ := (Option.bind_some _ _).symm.trans H; rw [hy147]; with_reducible exact H2_) | (have H2_ := (Option.bind_some _ _).symm.trans H; with_reducible exact H2_) | with_reducible exact H | (rw [hy147]; exact H) | exact H
  have Ny147 := Aside0.mk hy147
  clear hy147
  obtain ⟨y150, hy150⟩ : ∃ y_ : List (S24), y_ = (([(⟨wrap64 (a0 * a2_0), wrap64 (a1 * a2_1)⟩ : S24)] : List (S24))) := ⟨_, rfl⟩
  replace H : (impl_setupOf.l0 k a3 y147 y150 (a3.size : Int) 0 (wrap64 (a0 * a2_0)) (wrap64 (a1 * a2_1))) = some (r1, r2) := by first | (rw [hy150]; with_reducible exact H) | (have H2_ := (Option.bind_some _ _).symm.trans H; rw [hy150]; with_reducible exact H2_) | (have H2_ := (Option.bind_some _ _).symm.trans H; with_reducible exact H2_) | with_reducible exact H | (rw [hy150]; exact H) | exact H
  have Ny150 := Aside0.mk hy150
  clear hy150
  have H' := Aside0.mk H
  clear H
  go_enter Tryd.func30, Tryd.ntmps30
  try go_wp2_with (first | ((with_reducible refine gate_dst (N := 6) rfl ?_); refine box_event ?hg (N := 6) ?hd (cs := #[.int .i64 a2_0, .int .i64 a2_1]) (t := 24) ?hr ?_; (case hd => rfl); (case hg => rfl); (case hr => first | (go_simp; done) | (go_simp; rfl)); intro gb145 hg w5 hbox hb; have n0_ := Aside0.mk (below_step (by repeat (first | (with_reducible first | exact HB.out | apply below_alloc | apply pw_below_drewN | apply below_drew1) | exact HB.out)) hb); have n1_ := Aside0.mk (hbox); have n2_ := Aside0.mk ((by rw [hg]; exact (below_size (by repeat (first | (with_reducible first | exact HB.out | apply below_alloc | apply pw_below_drewN | apply below_drew1) | exact HB.out))) : w.heap.size ≤ gb145)); have n3_ := Aside0.mk ((by rw [hg]; exact (below_size (by repeat (first | (with_reducible first | exact HB.out | apply below_alloc | apply pw_below_drewN | apply below_drew1) | exact HB.out))) : w.heap.size ≤ gb145)); clear HB; have HB := n0_; have BK145 := n1_; have GW145 := n2_; have GE145 := n3_; clear n0_ n1_ n2_ n3_; clear hb hbox hg; have hcz6_0 : w5.cell? ⟨gb145, 0, none⟩ = some (.int .i64 a2_0) := (blk_cell BK145.out 0).trans rfl; have hcz6_1 : w5.cell? ⟨gb145, 1, none⟩ = some (.int .i64 a2_1) := (blk_cell BK145.out 1).trans rfl; have hfz6_0 := blk_frozen BK145.out 0; have hfz6_1 := blk_frozen BK145.out 1) | ((with_reducible refine gate_dst (N := 10) rfl ?_); refine box_event ?hg (N := 10) ?hd (cs := #[.int .i64 0, .int .i64 0]) (t := 24) ?hr ?_; (case hd => rfl); (case hg => rfl); (case hr => first | (go_simp; done) | (go_simp; rfl)); intro gb146 hg w7 hbox hb; have n0_ := Aside0.mk (blk_below (g := gb145) (o := .cells #[.int .i64 a2_0, .int .i64 a2_1] 24 (0, 0)) (by (with_reducible repeat (first | refine blk_drewN ?_ _ | refine blk_drew ?_ | refine blk_alloc ?_ _)); exact BK145.out) hb); have n1_ := Aside0.mk (below_step (by repeat (first | (with_reducible first | exact HB.out | apply below_alloc | apply pw_below_drewN | apply below_drew1 | refine below_set ?_ GE145.out) | exact HB.out)) hb); have n2_ := Aside0.mk (hbox); have n3_ := Aside0.mk ((by rw [hg]; exact (below_size (by repeat (first | (with_reducible first | exact HB.out | apply below_alloc | apply pw_below_drewN | apply below_drew1 | refine below_set ?_ GE145.out) | exact HB.out))) : w.heap.size ≤ gb146)); have n4_ := Aside0.mk ((by rw [hg]; exact (below_size (by repeat (first | (with_reducible first | exact HB.out | apply below_alloc | apply pw_below_drewN | apply below_drew1 | refine below_set ?_ GE145.out) | exact HB.out))) : w.heap.size ≤ gb146)); have n5_ := Aside0.mk ((by rw [hg]; exact Nat.ne_of_lt (blk_lt (g := gb145) (o := .cells #[.int .i64 a2_0, .int .i64 a2_1] 24 (0, 0)) (by (with_reducible repeat (first | refine blk_drewN ?_ _ | refine blk_drew ?_ | refine blk_alloc ?_ _)); exact BK145.out)) : gb145 ≠ gb146)); have n6_ := Aside0.mk ((by rw [hg]; exact Nat.ne_of_gt (blk_lt (g := gb145) (o := .cells #[.int .i64 a2_0, .int .i64 a2_1] 24 (0, 0)) (by (with_reducible repeat (first | refine blk_drewN ?_ _ | refine blk_drew ?_ | refine blk_alloc ?_ _)); exact BK145.out)) : gb146 ≠ gb145)); clear BK145; clear HB; have BK145 := n0_; have HB := n1_; have BK146 := n2_; have GW146 := n3_; have GE146 := n4_; have NB145_146 := n5_; have NB146_145 := n6_; clear n0_ n1_ n2_ n3_ n4_ n5_ n6_; clear hb hbox hg; have hnb8 := NB146_145.out; have hnc8 := NB145_146.out; have hcz9_0 : w7.cell? ⟨gb146, 0, none⟩ = some (.int .i64 0) := (blk_cell BK146.out 0).trans rfl; have hcz9_1 : w7.cell? ⟨gb146, 1, none⟩ = some (.int .i64 0) := (blk_cell BK146.out 1).trans rfl; have hfz9_0 := blk_frozen BK146.out 0; have hfz9_1 := blk_frozen BK146.out 1))
  have n0_ : Aside0 (((w7.setCell ⟨gb146, 0, none⟩ (.int .i64 (wrap64 (a0 * a2_0)))).setCell ⟨gb146, 1, none⟩ (.int .i64 (wrap64 (a1 * a2_1)))).heap[gb145]? = some (.cells #[.int .i64 a2_0, .int .i64 a2_1] 24 (0, 0))) := ⟨by (with_reducible repeat (first | refine blk_drewN ?_ _ | refine blk_drew ?_ | refine blk_alloc ?_ _)); refine blk_far ?_ NB145_146.out _; (with_reducible repeat (first | refine blk_drewN ?_ _ | refine blk_drew ?_ | refine blk_alloc ?_ _)); refine blk_far ?_ NB145_146.out _; (with_reducible repeat (first | refine blk_drewN ?_ _ | refine blk_drew ?_ | refine blk_alloc ?_ _)); exact BK145.out⟩
  have n1_ : Aside0 (((w7.setCell ⟨gb146, 0, none⟩ (.int .i64 (wrap64 (a0 * a2_0)))).setCell ⟨gb146, 1, none⟩ (.int .i64 (wrap64 (a1 * a2_1)))).heap[gb146]? = some (.cells #[.int .i64 (wrap64 (a0 * a2_0)), .int .i64 (wrap64 (a1 * a2_1))] 24 (0, 0))) := ⟨by (with_reducible repeat (first | refine blk_drewN ?_ _ | refine blk_drew ?_ | refine blk_alloc ?_ _)); refine blk_put (cs := #[.int .i64 (wrap64 (a0 * a2_0)), .int .i64 0]) ?_ 1 _ rfl; (with_reducible repeat (first | refine blk_drewN ?_ _ | refine blk_drew ?_ | refine blk_alloc ?_ _)); refine blk_put (cs := #[.int .i64 0, .int .i64 0]) ?_ 0 _ rfl; (with_reducible repeat (first | refine blk_drewN ?_ _ | refine blk_drew ?_ | refine blk_alloc ?_ _)); exact BK146.out⟩
  have n2_ : Aside0 (Below w.heap.size w ((w7.setCell ⟨gb146, 0, none⟩ (.int .i64 (wrap64 (a0 * a2_0)))).setCell ⟨gb146, 1, none⟩ (.int .i64 (wrap64 (a1 * a2_1))))) := ⟨by repeat (first | (with_reducible first | exact HB.out | apply below_alloc | apply pw_below_drewN | apply below_drew1 | refine below_set ?_ GE145.out | refine below_set ?_ GE146.out) | exact HB.out)⟩
  (try clear BK145)
  (try clear BK146)
  (try clear HB)
  generalize ((w7.setCell ⟨gb146, 0, none⟩ (.int .i64 (wrap64 (a0 * a2_0)))).setCell ⟨gb146, 1, none⟩ (.int .i64 (wrap64 (a1 * a2_1)))) = w10 at n0_ n1_ n2_ ⊢
  have BK145 := n0_
  have BK146 := n1_
  have HB := n2_
  clear n0_ n1_ n2_
  have n0_ := Aside0.mk (blk_drew BK145.out)
  have n1_ := Aside0.mk (blk_drew BK146.out)
  have n2_ := Aside0.mk (below_drew1 HB.out)
  clear BK145
  clear BK146
  clear HB
  have BK145 := n0_
  have BK146 := n1_
  have HB := n2_
  clear n0_ n1_ n2_
  refine start_ (n := 5) (S := fun w' => True) (ds := []) #[false, false, false, false, false] (by kernel_rfl) rfl rfl trivial (fun hHeld => ?_); refine with_tabW impl_setupOf.tab2 impl_setupOf.bits2 (fun HT_ HW_ => ?_)
  generalize w10.drew = w11 at BK145 BK146 HB hHeld ⊢
  refine inv_at [0, 1, 2, 3, 4] (fun a0_ b a w' => ∃ (v148 : Value) (v151 : Value) (m3_ : Value) (m4_ : Value), a = putSel a0_ b [(0, 25, v148), (1, 26, .agg #[.int .i64 (wrap64 (a0 * a2_0)), .int .i64 (wrap64 (a1 * a2_1))]), (2, 27, v151), (3, 11, m3_), (4, 12, m4_)] ∧ (w'.heap[gb145]? = some (.cells #[.int .i64 a2_0, .int .i64 a2_1] 24 (0, 0))) ∧ (w'.heap[gb146]? = some (.cells #[.int .i64 (wrap64 (a0 * a2_0)), .int .i64 (wrap64 (a1 * a2_1))] 24 (0, 0))) ∧ (Below w.heap.size w w') ∧ (b 0 = true → Kd.R k56 56 w' w.heap.size (fun _ => True) v148 y147) ∧ (b 2 = true → Kd.R k24 24 w' w.heap.size (fun k_ => k_ ≠ gb145 ∧ k_ ≠ gb146) v151 y150) ∧ (b 3 = true → (m3_ : Value) = v148) ∧ (b 4 = true → (m4_ : Value) = v151)) HT_.out HW_.out (by kernel_rfl) (by kernel_rfl) ?_ ?_ ?_
  · exact ⟨.bool false, .bool false, .bool false, .bool false, by simp only [putSel, Bool.false_eq_true, if_false], BK145.out, BK146.out, HB.out, fun h_ => absurd h_ (by decide), fun h_ => absurd h_ (by decide), fun h_ => absurd h_ (by decide), fun h_ => absurd h_ (by decide)⟩
  · skip
    clear BK145 BK146 HB
    refine steps_cons ?_ ?_
    · rintro b a w' ⟨v148, v151, m3_, m4_, ha, Q_BK145, Q_BK146, Q_HB, Q_HO149, Q_HO152, Q_X3_, Q_X4_⟩ hb_ hon hoff
      refine ⟨_, rfl, fun K hK => ?_⟩
      replace ha := Aside0.mk ha
      have BK145 := Aside0.mk Q_BK145
      have BK146 := Aside0.mk Q_BK146
      have HB := Aside0.mk Q_HB
      refine Kd.R_lit_step k56 _ 56 ?hg (N := 25) ?hd (xs := ([] : List (S56))) (inner := []) (ok := fun _ => True) (okp := fun _ => True) ?hr ?hp (fun _ hk => hk) trivial (Below.refl _ _) (Nat.le_refl _) (by simp) ?_; (case hd => rfl); (case hg => rfl); (case hr => first | (go_simp; done) | (go_simp; rfl)); (case hp => exact (Reps.none _ _))
      intro v148 w12 ho13 hb hg_ hnew_
      clear hg_ hnew_
      (first | rw [← Ny147.out] at ho13 | (simp only [Int.reduceToNat] at ho13; rw [← Ny147.out] at ho13))
      have n0_ := Aside0.mk (Kd.R_lower ho13 (below_size (by repeat (first | (with_reducible first | exact HB.out | apply below_alloc | apply pw_below_drewN | apply below_drew1 | refine below_set ?_ GE145.out | refine below_set ?_ GE146.out) | exact HB.out))))
      have n1_ := Aside0.mk (blk_below (g := gb145) (o := .cells #[.int .i64 a2_0, .int .i64 a2_1] 24 (0, 0)) (by (with_reducible repeat (first | refine blk_drewN ?_ _ | refine blk_drew ?_ | refine blk_alloc ?_ _)); exact BK145.out) hb)
      have n2_ := Aside0.mk (blk_below (g := gb146) (o := .cells #[.int .i64 (wrap64 (a0 * a2_0)), .int .i64 (wrap64 (a1 * a2_1))] 24 (0, 0)) (by (with_reducible repeat (first | refine blk_drewN ?_ _ | refine blk_drew ?_ | refine blk_alloc ?_ _)); exact BK146.out) hb)
      have n3_ := Aside0.mk (below_step (by repeat (first | (with_reducible first | exact HB.out | apply below_alloc | apply pw_below_drewN | apply below_drew1 | refine below_set ?_ GE145.out | refine below_set ?_ GE146.out) | exact HB.out)) hb)
      have z_HO152 := fun (h0_ : b 2 = true) => (show Kd.R k24 24 w12 w.heap.size (fun k_ => k_ ≠ gb145 ∧ k_ ≠ gb146) v151 y150 from by first | exact (Kd.R_below (by (with_reducible repeat (first | apply Kd.R_alloc | apply Kd.R_drewN | apply Kd.R_drew)); exact (Q_HO152 h0_)) hb) | exact Kd.R_mono (Kd.R_below (by (with_reducible repeat (first | apply Kd.R_alloc | apply Kd.R_drewN | apply Kd.R_drew)); exact (Q_HO152 h0_)) hb) (fun _ h_ => by first | trivial | exact h_ | exact h_.1))
      clear BK145
      clear BK146
      clear HB
      have HO149 := n0_
      have BK145 := n1_
      have BK146 := n2_
      have HB := n3_
      clear n0_ n1_ n2_ n3_
      clear hb ho13
      refine hK.out _ _ ⟨v148, v151, m3_, m4_, (by rw [ha.out]; exact putSel_upk 0 hb_ rfl rfl rfl), (by (with_reducible repeat (first | refine blk_drewN ?_ _ | refine blk_drew ?_ | refine blk_alloc ?_ _)); exact BK145.out), (by (with_reducible repeat (first | refine blk_drewN ?_ _ | refine blk_drew ?_ | refine blk_alloc ?_ _)); exact BK146.out), (by repeat (first | (with_reducible first | exact HB.out | apply below_alloc | apply pw_below_drewN | apply below_drew1 | refine below_set ?_ GE145.out | refine below_set ?_ GE146.out) | exact HB.out)), fun _ => (by (with_reducible repeat (first | apply Kd.R_alloc | apply Kd.R_drewN | apply Kd.R_drew)); exact HO149.out), z_HO152, fun h0_ => absurd ((hoff 3 (by kernel_rfl)).symm.trans h0_) (by decide), fun h0_ => absurd ((hoff 4 (by kernel_rfl)).symm.trans h0_) (by decide)⟩
    refine steps_cons ?_ ?_
    · rintro b a w' ⟨v148, v151, m3_, m4_, ha, Q_BK145, Q_BK146, Q_HB, Q_HO149, Q_HO152, Q_X3_, Q_X4_⟩ hb_ hon hoff
      refine ⟨_, rfl, fun K hK => ?_⟩
      have e10 : a.tmps[10]? = some (.pointer (some ⟨gb146, 0, none⟩)) := by rw [ha]; exact (putSel_off rfl).trans rfl
      replace ha := Aside0.mk ha
      have BK145 := Aside0.mk Q_BK145
      have BK146 := Aside0.mk Q_BK146
      have HB := Aside0.mk Q_HB
      have hc0_ : w'.cell? ⟨gb146, 0, none⟩ = some (.int .i64 (wrap64 (a0 * a2_0))) := (blk_cell BK146.out 0).trans rfl
      have hc1_ : w'.cell? ⟨gb146, 1, none⟩ = some (.int .i64 (wrap64 (a1 * a2_1))) := (blk_cell BK146.out 1).trans rfl
      refine value_ (w1 := w') (v := .agg #[.int .i64 (wrap64 (a0 * a2_0)), .int .i64 (wrap64 (a1 * a2_1))]) (by rfl) rfl ?_ ?_
      · go_simp
        (try simp only [i64_w])
        try rfl
      refine hK.out _ _ ⟨v148, v151, m3_, m4_, (by rw [ha.out]; exact putSel_upk 1 hb_ rfl rfl rfl), Q_BK145, Q_BK146, Q_HB, Q_HO149, fun h0_ => absurd ((hoff 2 (by kernel_rfl)).symm.trans h0_) (by decide), Q_X3_, fun h0_ => absurd ((hoff 4 (by kernel_rfl)).symm.trans h0_) (by decide)⟩
    refine steps_cons ?_ ?_
    · rintro b a w' ⟨v148, v151, m3_, m4_, ha, Q_BK145, Q_BK146, Q_HB, Q_HO149, Q_HO152, Q_X3_, Q_X4_⟩ hb_ hon hoff
      refine ⟨_, rfl, fun K hK => ?_⟩
      have e26 : a.tmps[26]? = some (.agg #[.int .i64 (wrap64 (a0 * a2_0)), .int .i64 (wrap64 (a1 * a2_1))]) := by rw [ha]; exact putSel_on (e := (1, 26, .agg #[.int .i64 (wrap64 (a0 * a2_0)), .int .i64 (wrap64 (a1 * a2_1))])) 1 rfl rfl (hon 1 (by kernel_rfl)) rfl
      replace ha := Aside0.mk ha
      have BK145 := Aside0.mk Q_BK145
      have BK146 := Aside0.mk Q_BK146
      have HB := Aside0.mk Q_HB
      refine Kd.R_lit_step k24 _ 24 ?hg (N := 27) ?hd (xs := ([(⟨wrap64 (a0 * a2_0), wrap64 (a1 * a2_1)⟩ : S24)] : List (S24))) (inner := [.int .i64 (wrap64 (a0 * a2_0)), .int .i64 (wrap64 (a1 * a2_1))]) (ok := fun _ => True) (okp := fun _ => True) ?hr ?hp (fun _ hk => hk) trivial (Below.refl _ _) (Nat.le_refl _) (by simp) ?_; (case hd => rfl); (case hg => rfl); (case hr => first | (go_simp; done) | (go_simp; rfl)); (case hp => exact (Reps.c2 (show Kd.M k24 _ _ _ (⟨wrap64 (a0 * a2_0), wrap64 (a1 * a2_1)⟩ : S24) [.int .i64 (wrap64 (a0 * a2_0)), .int .i64 (wrap64 (a1 * a2_1))] from (k24_mkM _ _ _ (⟨wrap64 (a0 * a2_0), wrap64 (a1 * a2_1)⟩ : S24) )) (Reps.none _ _)))
      intro v151 w12 ho13 hb hg_ hnew_
      clear hg_ hnew_
      (first | rw [← Ny150.out] at ho13 | (simp only [Int.reduceToNat] at ho13; rw [← Ny150.out] at ho13))
      have n0_ := Aside0.mk (Kd.R_lower (Kd.R_newB (Kd.R_newB ho13 (g := gb145) (o := .cells #[.int .i64 a2_0, .int .i64 a2_1] 24 (0, 0)) (by (with_reducible repeat (first | refine blk_drewN ?_ _ | refine blk_drew ?_ | refine blk_alloc ?_ _)); exact BK145.out)) (g := gb146) (o := .cells #[.int .i64 (wrap64 (a0 * a2_0)), .int .i64 (wrap64 (a1 * a2_1))] 24 (0, 0)) (by (with_reducible repeat (first | refine blk_drewN ?_ _ | refine blk_drew ?_ | refine blk_alloc ?_ _)); exact BK146.out)) (below_size (by repeat (first | (with_reducible first | exact HB.out | apply below_alloc | apply pw_below_drewN | apply below_drew1 | refine below_set ?_ GE145.out | refine below_set ?_ GE146.out) | exact HB.out))))
      have n1_ := Aside0.mk (blk_below (g := gb145) (o := .cells #[.int .i64 a2_0, .int .i64 a2_1] 24 (0, 0)) (by (with_reducible repeat (first | refine blk_drewN ?_ _ | refine blk_drew ?_ | refine blk_alloc ?_ _)); exact BK145.out) hb)
      have n2_ := Aside0.mk (blk_below (g := gb146) (o := .cells #[.int .i64 (wrap64 (a0 * a2_0)), .int .i64 (wrap64 (a1 * a2_1))] 24 (0, 0)) (by (with_reducible repeat (first | refine blk_drewN ?_ _ | refine blk_drew ?_ | refine blk_alloc ?_ _)); exact BK146.out) hb)
      have n3_ := Aside0.mk (below_step (by repeat (first | (with_reducible first | exact HB.out | apply below_alloc | apply pw_below_drewN | apply below_drew1 | refine below_set ?_ GE145.out | refine below_set ?_ GE146.out) | exact HB.out)) hb)
      have z_HO149 := fun (h0_ : b 0 = true) => (show Kd.R k56 56 w12 w.heap.size (fun _ => True) v148 y147 from by first | exact (Kd.R_below (by (with_reducible repeat (first | apply Kd.R_alloc | apply Kd.R_drewN | apply Kd.R_drew)); exact (Q_HO149 h0_)) hb) | exact Kd.R_mono (Kd.R_below (by (with_reducible repeat (first | apply Kd.R_alloc | apply Kd.R_drewN | apply Kd.R_drew)); exact (Q_HO149 h0_)) hb) (fun _ h_ => by first | trivial | exact h_ | exact h_.1))
      clear BK145
      clear BK146
      clear HB
      have HO152 := n0_
      have BK145 := n1_
      have BK146 := n2_
      have HB := n3_
      clear n0_ n1_ n2_ n3_
      clear hb ho13
      refine hK.out _ _ ⟨v148, v151, m3_, m4_, (by rw [ha.out]; exact putSel_upk 2 hb_ rfl rfl rfl), (by (with_reducible repeat (first | refine blk_drewN ?_ _ | refine blk_drew ?_ | refine blk_alloc ?_ _)); exact BK145.out), (by (with_reducible repeat (first | refine blk_drewN ?_ _ | refine blk_drew ?_ | refine blk_alloc ?_ _)); exact BK146.out), (by repeat (first | (with_reducible first | exact HB.out | apply below_alloc | apply pw_below_drewN | apply below_drew1 | refine below_set ?_ GE145.out | refine below_set ?_ GE146.out) | exact HB.out)), z_HO149, fun _ => (by (with_reducible repeat (first | apply Kd.R_alloc | apply Kd.R_drewN | apply Kd.R_drew)); exact Kd.R_mono HO152.out (fun _ hk => ⟨hk.1.2, hk.2⟩)), Q_X3_, fun h0_ => absurd ((hoff 4 (by kernel_rfl)).symm.trans h0_) (by decide)⟩
    refine steps_cons ?_ ?_
    · rintro b a w' ⟨v148, v151, m3_, m4_, ha, Q_BK145, Q_BK146, Q_HB, Q_HO149, Q_HO152, Q_X3_, Q_X4_⟩ hb_ hon hoff
      refine ⟨_, rfl, fun K hK => ?_⟩
      have e25 : a.tmps[25]? = some (v148) := by rw [ha]; exact putSel_on (e := (0, 25, v148)) 0 rfl rfl (hon 0 (by kernel_rfl)) rfl
      replace ha := Aside0.mk ha
      have BK145 := Aside0.mk Q_BK145
      have BK146 := Aside0.mk Q_BK146
      have HB := Aside0.mk Q_HB
      have HO149 := Aside0.mk (Q_HO149 (hon 0 (by kernel_rfl)))
      refine value_ (w1 := w') (v := v148) (by rfl) rfl ?_ ?_
      · go_simp
        (try simp only [i64_w])
        try rfl
      refine hK.out _ _ ⟨v148, v151, (v148), m4_, (by rw [ha.out]; exact putSel_upk 3 hb_ rfl rfl rfl), Q_BK145, Q_BK146, Q_HB, Q_HO149, Q_HO152, fun _ => rfl, fun h0_ => absurd ((hoff 4 (by kernel_rfl)).symm.trans h0_) (by decide)⟩
    refine steps_cons ?_ ?_
    · rintro b a w' ⟨v148, v151, m3_, m4_, ha, Q_BK145, Q_BK146, Q_HB, Q_HO149, Q_HO152, Q_X3_, Q_X4_⟩ hb_ hon hoff
      refine ⟨_, rfl, fun K hK => ?_⟩
      have e27 : a.tmps[27]? = some (v151) := by rw [ha]; exact putSel_on (e := (2, 27, v151)) 2 rfl rfl (hon 2 (by kernel_rfl)) rfl
      replace ha := Aside0.mk ha
      have BK145 := Aside0.mk Q_BK145
      have BK146 := Aside0.mk Q_BK146
      have HB := Aside0.mk Q_HB
      have HO149 := Aside0.mk (Q_HO149 (hon 0 (by kernel_rfl)))
      have HO152 := Aside0.mk (Q_HO152 (hon 2 (by kernel_rfl)))
      refine value_ (w1 := w') (v := v151) (by rfl) rfl ?_ ?_
      · go_simp
        (try simp only [i64_w])
        try rfl
      refine hK.out _ _ ⟨v148, v151, m3_, (v151), (by rw [ha.out]; exact putSel_upk 4 hb_ rfl rfl rfl), Q_BK145, Q_BK146, Q_HB, Q_HO149, Q_HO152, Q_X3_, fun _ => rfl⟩
    exact steps_nil
  rintro b a w16 hall ⟨v148, v151, m3_, m4_, ha, Q_BK145, Q_BK146, Q_HB, Q_HO149, Q_HO152, Q_X3_, Q_X4_⟩
  clear BK145 BK146 HB
  have hb0_ := hall 0 (by kernel_rfl)
  have hb1_ := hall 1 (by kernel_rfl)
  have hb2_ := hall 2 (by kernel_rfl)
  have hb3_ := hall 3 (by kernel_rfl)
  have hb4_ := hall 4 (by kernel_rfl)
  subst ha
  obtain rfl := Q_X3_ hb3_
  obtain rfl := Q_X4_ hb4_
  simp only [putSel, hb0_, hb1_, hb2_, hb3_, hb4_, if_true, Act.put, List.setIfInBounds_toArray, List.set_cons_zero, List.set_cons_succ]
  have BK145 := Aside0.mk Q_BK145
  clear Q_BK145
  have BK146 := Aside0.mk Q_BK146
  clear Q_BK146
  have HB := Aside0.mk Q_HB
  clear Q_HB
  have HO149 := Aside0.mk (Q_HO149 hb0_)
  clear Q_HO149
  have HO152 := Aside0.mk (Q_HO152 hb2_)
  clear Q_HO152
  clear hall hb0_ hb1_ hb2_ hb3_ hb4_
  try go_wp2
  go_loopg [11, 12, 30] k (fun kq v11 v12 v30 w' => ∃ (x11_1 : List (S56)) (x12_1 : List (S24)) (x30_1 : Int) (x147000_1 : Int) (x147001_1 : Int), v30 = .int .i64 x30_1 ∧ Aside0 (impl_setupOf.l0 kq a3 x11_1 x12_1 (a3.size : Int) x30_1 x147000_1 x147001_1 = some (r1, r2)) ∧ Aside0 (kq ≤ k) ∧ Aside0 (Kd.R k56 56 w' w.heap.size (fun _ => True) v11 x11_1) ∧ Aside0 (Kd.R k24 24 w' w.heap.size (fun k_ => k_ ≠ gb145 ∧ k_ ≠ gb146) v12 x12_1) ∧ Aside0 (w'.heap[gb145]? = some (.cells #[.int .i64 a2_0, .int .i64 a2_1] 24 (0, 0))) ∧ Aside0 (w'.heap[gb146]? = some (.cells #[.int .i64 x147000_1, .int .i64 x147001_1] 24 (0, 0))) ∧ Aside0 (Below w.heap.size w w'))
  case atStart => exact ⟨(y147), (y150), (0), (wrap64 (a0 * a2_0)), (wrap64 (a1 * a2_1)), (by first | rfl | (simp; done) | (simp [*]; done)), H', ⟨Nat.le_refl _⟩, ⟨by (with_reducible repeat (first | apply Kd.R_alloc | apply Kd.R_drewN | apply Kd.R_drew)); exact HO149.out⟩, ⟨by (with_reducible repeat (first | apply Kd.R_alloc | apply Kd.R_drewN | apply Kd.R_drew)); exact HO152.out⟩, ⟨by (with_reducible repeat (first | refine blk_drewN ?_ _ | refine blk_drew ?_ | refine blk_alloc ?_ _)); exact BK145.out⟩, ⟨by (with_reducible repeat (first | refine blk_drewN ?_ _ | refine blk_drew ?_ | refine blk_alloc ?_ _)); exact BK146.out⟩, ⟨by repeat (first | (with_reducible first | exact HB.out | apply below_alloc | apply pw_below_drewN | apply below_drew1 | refine below_set ?_ GE145.out | refine below_set ?_ GE146.out) | exact HB.out)⟩⟩
  case round =>
    clear H'
    try clear c1
    try clear c2
    try clear p2
    try clear c3
    try clear p6
    try clear c8
    try clear hcz6_0
    try clear hcz6_1
    try clear hcz9_0
    try clear hcz9_1
    try clear hfz6_0
    try clear hfz6_1
    try clear hfz9_0
    try clear hfz9_1
    obtain ⟨x11_1, x12_1, x30_1, x147000_1, x147001_1, rfl, HA, HK1, HO_11, HO_12, BK145, BK146, HB⟩ := hrel
    cases gk with
    | zero => exact absurd HA.out (by simp [impl_setupOf.l0])
    | succ k1 =>
      have H := HA.out
      clear HA
      simp only [impl_setupOf.l0] at H
      by_cases c17 : x30_1 < (a3.size : Int)
      · rw [if_pos c17] at H
        have c17b0 : decide (x30_1 < (a3.size : Int)) = true := decide_eq_true c17
        clear c17
        by_cases c18 : 0 ≤ x30_1
        · rw [if_pos c18] at H
          have c18b0 : decide (0 ≤ x30_1) = true := decide_eq_true c18
          clear c18
          by_cases c19 : x30_1 < (a3.size : Int)
          · rw [if_pos c19] at H
            have c19b0 : decide (x30_1 < (a3.size : Int)) = true := decide_eq_true c19
            clear c19
            by_cases c21 : (bt a3 x30_1) = 76
            · rw [if_pos c21] at H
              have c21b0 : ((bt a3 x30_1) == 76) = true := beq_iff_eq.mpr c21
              have c21b1 : ((bt a3 x30_1) != 76) = false := bne_eq_false_iff_eq.mpr c21
              clear c21
              obtain ⟨y154, hy154⟩ : ∃ y_ : List (S56), y_ = (([(⟨true, wrap64 (Int.tdiv x147000_1 2), true⟩ : S56)] : List (S56))) := ⟨_, rfl⟩
              replace H : (if x11_1.length + y154.length < 5864062014805 then ((some (([(⟨wrap64 (Int.tdiv x147000_1 2), x147001_1⟩ : S24)] : List (S24)) : List (S24))).bind fun y160 => (if x12_1.length + y160.length < 8796093022208 then (impl_setupOf.l0 k1 a3 (x11_1 ++ y154) (x12_1 ++ y160) (a3.size : Int) (wrap64 (x30_1 + 1)) (wrap64 (Int.tdiv x147000_1 2)) x147001_1) else (none))) else (none)) = some (r1, r2) := by first | (rw [hy154]; with_reducible exact H) | (have H2_ := (Option.bind_some _ _).symm.trans H; rw [hy154]; with_reducible exact H2_) | (have H2_ := (Option.bind_some _ _).symm.trans H; with_reducible exact H2_) | with_reducible exact H | (rw [hy154]; exact H) | exact H
              have Ny154 := Aside0.mk hy154
              clear hy154
              by_cases c22 : x11_1.length + y154.length < 5864062014805
              · rw [if_pos c22] at H
                have LMc22 := Aside0.mk c22
                clear c22
                obtain ⟨y157, hy157⟩ : ∃ y_ : List (S56), y_ = (x11_1 ++ y154) := ⟨_, rfl⟩
                replace H : ((some (([(⟨wrap64 (Int.tdiv x147000_1 2), x147001_1⟩ : S24)] : List (S24)) : List (S24))).bind fun y160 => (if x12_1.length + y160.length < 8796093022208 then (impl_setupOf.l0 k1 a3 y157 (x12_1 ++ y160) (a3.size : Int) (wrap64 (x30_1 + 1)) (wrap64 (Int.tdiv x147000_1 2)) x147001_1) else (none))) = some (r1, r2) := by first | (rw [hy157]; with_reducible exact H) | (have H2_ := (Option.bind_some _ _).symm.trans H; rw [hy157]; with_reducible exact H2_) | (have H2_ := (Option.bind_some _ _).symm.trans H; with_reducible exact H2_) | with_reducible exact H | (rw [hy157]; exact H) | exact H
                have Ny157 := Aside0.mk hy157
                clear hy157
                obtain ⟨y160, hy160⟩ : ∃ y_ : List (S24), y_ = (([(⟨wrap64 (Int.tdiv x147000_1 2), x147001_1⟩ : S24)] : List (S24))) := ⟨_, rfl⟩
                replace H : (if x12_1.length + y160.length < 8796093022208 then (impl_setupOf.l0 k1 a3 y157 (x12_1 ++ y160) (a3.size : Int) (wrap64 (x30_1 + 1)) (wrap64 (Int.tdiv x147000_1 2)) x147001_1) else (none)) = some (r1, r2) := by first | (rw [hy160]; with_reducible exact H) | (have H2_ := (Option.bind_some _ _).symm.trans H; rw [hy160]; with_reducible exact H2_) | (have H2_ := (Option.bind_some _ _).symm.trans H; with_reducible exact H2_) | with_reducible exact H | (rw [hy160]; exact H) | exact H
                have Ny160 := Aside0.mk hy160
                clear hy160
                by_cases c23 : x12_1.length + y160.length < 8796093022208
                · rw [if_pos c23] at H
                  have LMc23 := Aside0.mk c23
                  clear c23
                  obtain ⟨y163, hy163⟩ : ∃ y_ : List (S24), y_ = (x12_1 ++ y160) := ⟨_, rfl⟩
                  replace H : (impl_setupOf.l0 k1 a3 y157 y163 (a3.size : Int) (wrap64 (x30_1 + 1)) (wrap64 (Int.tdiv x147000_1 2)) x147001_1) = some (r1, r2) := by first | (rw [hy163]; with_reducible exact H) | (have H2_ := (Option.bind_some _ _).symm.trans H; rw [hy163]; with_reducible exact H2_) | (have H2_ := (Option.bind_some _ _).symm.trans H; with_reducible exact H2_) | with_reducible exact H | (rw [hy163]; exact H) | exact H
                  have Ny163 := Aside0.mk hy163
                  clear hy163
                  have H' := Aside0.mk H
                  clear H
                  have p20 : 0 ≤ (x30_1 : Int) := of_decide_eq_true (by first | (with_reducible assumption) | assumption)
                  have q20 : x30_1 < (a3.size : Int) := of_decide_eq_true (by first | (with_reducible assumption) | assumption)
                  have hx20 := bt_at a3 x30_1
                  replace p20 := eq_true p20
                  replace q20 := eq_true q20
                  try go_wp2_with (first | ((with_reducible refine gate_dst (N := 15) rfl ?_); refine box_event ?hg (N := 15) ?hd (cs := #[.bool false, .int .i64 0, .bool false]) (t := 56) ?hr ?_; (case hd => rfl); (case hg => rfl); (case hr => first | (go_simp; done) | (go_simp; rfl)); intro gb153 hg w24 hbox hb; have n0_ := Aside0.mk (Kd.R_below (Kd.R_elderB (by (with_reducible repeat (first | apply Kd.R_alloc | apply Kd.R_drewN | apply Kd.R_drew)); exact HO_11.out) gb153 (Nat.le_of_eq hg.symm)) hb); have n1_ := Aside0.mk (Kd.R_below (by (with_reducible repeat (first | apply Kd.R_alloc | apply Kd.R_drewN | apply Kd.R_drew)); exact HO_12.out) hb); have n2_ := Aside0.mk (blk_below (g := gb145) (o := .cells #[.int .i64 a2_0, .int .i64 a2_1] 24 (0, 0)) (by (with_reducible repeat (first | refine blk_drewN ?_ _ | refine blk_drew ?_ | refine blk_alloc ?_ _)); exact BK145.out) hb); have n3_ := Aside0.mk (blk_below (g := gb146) (o := .cells #[.int .i64 x147000_1, .int .i64 x147001_1] 24 (0, 0)) (by (with_reducible repeat (first | refine blk_drewN ?_ _ | refine blk_drew ?_ | refine blk_alloc ?_ _)); exact BK146.out) hb); have n4_ := Aside0.mk (below_step (by repeat (first | (with_reducible first | exact HB.out | apply below_alloc | apply pw_below_drewN | apply below_drew1 | refine below_set ?_ GE145.out | refine below_set ?_ GE146.out) | exact HB.out)) hb); have n5_ := Aside0.mk (hbox); have n6_ := Aside0.mk ((by rw [hg]; exact (below_size (by repeat (first | (with_reducible first | exact HB.out | apply below_alloc | apply pw_below_drewN | apply below_drew1 | refine below_set ?_ GE145.out | refine below_set ?_ GE146.out) | exact HB.out))) : w.heap.size ≤ gb153)); have n7_ := Aside0.mk ((by rw [hg]; exact (below_size (by repeat (first | (with_reducible first | exact HB.out | apply below_alloc | apply pw_below_drewN | apply below_drew1 | refine below_set ?_ GE145.out | refine below_set ?_ GE146.out) | exact HB.out))) : w.heap.size ≤ gb153)); have n8_ := Aside0.mk ((by rw [hg]; exact Nat.ne_of_lt (blk_lt (g := gb145) (o := .cells #[.int .i64 a2_0, .int .i64 a2_1] 24 (0, 0)) (by (with_reducible repeat (first | refine blk_drewN ?_ _ | refine blk_drew ?_ | refine blk_alloc ?_ _)); exact BK145.out)) : gb145 ≠ gb153)); have n9_ := Aside0.mk ((by rw [hg]; exact Nat.ne_of_gt (blk_lt (g := gb145) (o := .cells #[.int .i64 a2_0, .int .i64 a2_1] 24 (0, 0)) (by (with_reducible repeat (first | refine blk_drewN ?_ _ | refine blk_drew ?_ | refine blk_alloc ?_ _)); exact BK145.out)) : gb153 ≠ gb145)); have n10_ := Aside0.mk ((by rw [hg]; exact Nat.ne_of_lt (blk_lt (g := gb146) (o := .cells #[.int .i64 x147000_1, .int .i64 x147001_1] 24 (0, 0)) (by (with_reducible repeat (first | refine blk_drewN ?_ _ | refine blk_drew ?_ | refine blk_alloc ?_ _)); exact BK146.out)) : gb146 ≠ gb153)); have n11_ := Aside0.mk ((by rw [hg]; exact Nat.ne_of_gt (blk_lt (g := gb146) (o := .cells #[.int .i64 x147000_1, .int .i64 x147001_1] 24 (0, 0)) (by (with_reducible repeat (first | refine blk_drewN ?_ _ | refine blk_drew ?_ | refine blk_alloc ?_ _)); exact BK146.out)) : gb153 ≠ gb146)); clear HO_11; clear HO_12; clear BK145; clear BK146; clear HB; have HO_11 := n0_; have HO_12 := n1_; have BK145 := n2_; have BK146 := n3_; have HB := n4_; have BK153 := n5_; have GW153 := n6_; have GE153 := n7_; have NB145_153 := n8_; have NB153_145 := n9_; have NB146_153 := n10_; have NB153_146 := n11_; clear n0_ n1_ n2_ n3_ n4_ n5_ n6_ n7_ n8_ n9_ n10_ n11_; clear hb hbox hg; have hnb25 := NB153_145.out; have hnc25 := NB145_153.out; have hnb26 := NB153_146.out; have hnc26 := NB146_153.out; have hcz27_0 : w24.cell? ⟨gb153, 0, none⟩ = some (.bool false) := (blk_cell BK153.out 0).trans rfl; have hcz27_1 : w24.cell? ⟨gb153, 1, none⟩ = some (.int .i64 0) := (blk_cell BK153.out 1).trans rfl; have hcz27_2 : w24.cell? ⟨gb153, 2, none⟩ = some (.bool false) := (blk_cell BK153.out 2).trans rfl; have hfz27_0 := blk_frozen BK153.out 0; have hfz27_1 := blk_frozen BK153.out 1; have hfz27_2 := blk_frozen BK153.out 2; have hnb28 := NB146_145.out; have hnc28 := NB145_146.out; have hcz29_0 : w24.cell? ⟨gb146, 0, none⟩ = some (.int .i64 x147000_1) := (blk_cell BK146.out 0).trans rfl; have hcz29_1 : w24.cell? ⟨gb146, 1, none⟩ = some (.int .i64 x147001_1) := (blk_cell BK146.out 1).trans rfl; have hfz29_0 := blk_frozen BK146.out 0; have hfz29_1 := blk_frozen BK146.out 1; obtain ⟨Ao30, co30, eo30⟩ := Kd.R_slice HO_11.out; subst eo30; obtain ⟨Ao31, co31, eo31⟩ := Kd.R_slice HO_12.out; subst eo31))
                  have n0_ : Aside0 (Kd.R k56 56 (((((w24.setCell ⟨gb153, 0, none⟩ (.bool true)).setCell ⟨gb153, 1, none⟩ (.int .i64 0)).setCell ⟨gb153, 2, none⟩ (.bool true)).setCell ⟨gb146, 0, none⟩ (.int .i64 (wrap64 (Int.tdiv x147000_1 2)))).setCell ⟨gb153, 1, none⟩ (.int .i64 (wrap64 (Int.tdiv x147000_1 2)))) w.heap.size (fun k_ => k_ ≠ gb153) (.slice Ao30 x11_1.length co30) x11_1) := ⟨by (with_reducible repeat (first | apply Kd.R_alloc | apply Kd.R_drewN | apply Kd.R_drew)); exact Kd.R_mono (Kd.R_far (p := ⟨gb153, 1, none⟩) (Kd.R_far (p := ⟨gb146, 0, none⟩) (Kd.R_far (p := ⟨gb153, 2, none⟩) (Kd.R_far (p := ⟨gb153, 1, none⟩) (Kd.R_far (p := ⟨gb153, 0, none⟩) (Kd.R_types (Kd.R_mono HO_11.out (fun k_ hk => (⟨hk, hk.2⟩ : _ ∧ k_ ≠ gb153))) BK146.out (by decide)) (fun _ hk => hk.1.2) (.bool true)) (fun _ hk => hk.1.2) (.int .i64 0)) (fun _ hk => hk.1.2) (.bool true)) (fun _ hk => hk.2) (.int .i64 (wrap64 (Int.tdiv x147000_1 2)))) (fun _ hk => hk.1.2) (.int .i64 (wrap64 (Int.tdiv x147000_1 2)))) (fun _ hk => hk.1.1.2)⟩
                  have n1_ : Aside0 (Kd.R k24 24 (((((w24.setCell ⟨gb153, 0, none⟩ (.bool true)).setCell ⟨gb153, 1, none⟩ (.int .i64 0)).setCell ⟨gb153, 2, none⟩ (.bool true)).setCell ⟨gb146, 0, none⟩ (.int .i64 (wrap64 (Int.tdiv x147000_1 2)))).setCell ⟨gb153, 1, none⟩ (.int .i64 (wrap64 (Int.tdiv x147000_1 2)))) w.heap.size (fun k_ => k_ ≠ gb145 ∧ k_ ≠ gb146) (.slice Ao31 x12_1.length co31) x12_1) := ⟨by (with_reducible repeat (first | apply Kd.R_alloc | apply Kd.R_drewN | apply Kd.R_drew)); exact Kd.R_mono (Kd.R_far (p := ⟨gb153, 1, none⟩) (Kd.R_far (p := ⟨gb146, 0, none⟩) (Kd.R_far (p := ⟨gb153, 2, none⟩) (Kd.R_far (p := ⟨gb153, 1, none⟩) (Kd.R_far (p := ⟨gb153, 0, none⟩) (Kd.R_mono (Kd.R_types HO_12.out BK153.out (by decide)) (fun k_ hk => (⟨hk, hk.1.2⟩ : _ ∧ k_ ≠ gb146))) (fun _ hk => hk.1.2) (.bool true)) (fun _ hk => hk.1.2) (.int .i64 0)) (fun _ hk => hk.1.2) (.bool true)) (fun _ hk => hk.2) (.int .i64 (wrap64 (Int.tdiv x147000_1 2)))) (fun _ hk => hk.1.2) (.int .i64 (wrap64 (Int.tdiv x147000_1 2)))) (fun _ hk => ⟨hk.1.1.1, hk.1.1.2⟩)⟩
                  have n2_ : Aside0 ((((((w24.setCell ⟨gb153, 0, none⟩ (.bool true)).setCell ⟨gb153, 1, none⟩ (.int .i64 0)).setCell ⟨gb153, 2, none⟩ (.bool true)).setCell ⟨gb146, 0, none⟩ (.int .i64 (wrap64 (Int.tdiv x147000_1 2)))).setCell ⟨gb153, 1, none⟩ (.int .i64 (wrap64 (Int.tdiv x147000_1 2)))).heap[gb145]? = some (.cells #[.int .i64 a2_0, .int .i64 a2_1] 24 (0, 0))) := ⟨by (with_reducible repeat (first | refine blk_drewN ?_ _ | refine blk_drew ?_ | refine blk_alloc ?_ _)); refine blk_far ?_ NB145_153.out _; (with_reducible repeat (first | refine blk_drewN ?_ _ | refine blk_drew ?_ | refine blk_alloc ?_ _)); refine blk_far ?_ NB145_146.out _; (with_reducible repeat (first | refine blk_drewN ?_ _ | refine blk_drew ?_ | refine blk_alloc ?_ _)); refine blk_far ?_ NB145_153.out _; (with_reducible repeat (first | refine blk_drewN ?_ _ | refine blk_drew ?_ | refine blk_alloc ?_ _)); refine blk_far ?_ NB145_153.out _; (with_reducible repeat (first | refine blk_drewN ?_ _ | refine blk_drew ?_ | refine blk_alloc ?_ _)); refine blk_far ?_ NB145_153.out _; (with_reducible repeat (first | refine blk_drewN ?_ _ | refine blk_drew ?_ | refine blk_alloc ?_ _)); exact BK145.out⟩
                  have n3_ : Aside0 ((((((w24.setCell ⟨gb153, 0, none⟩ (.bool true)).setCell ⟨gb153, 1, none⟩ (.int .i64 0)).setCell ⟨gb153, 2, none⟩ (.bool true)).setCell ⟨gb146, 0, none⟩ (.int .i64 (wrap64 (Int.tdiv x147000_1 2)))).setCell ⟨gb153, 1, none⟩ (.int .i64 (wrap64 (Int.tdiv x147000_1 2)))).heap[gb146]? = some (.cells #[.int .i64 (wrap64 (Int.tdiv x147000_1 2)), .int .i64 x147001_1] 24 (0, 0))) := ⟨by (with_reducible repeat (first | refine blk_drewN ?_ _ | refine blk_drew ?_ | refine blk_alloc ?_ _)); refine blk_far ?_ NB146_153.out _; (with_reducible repeat (first | refine blk_drewN ?_ _ | refine blk_drew ?_ | refine blk_alloc ?_ _)); refine blk_put (cs := #[.int .i64 x147000_1, .int .i64 x147001_1]) ?_ 0 _ rfl; (with_reducible repeat (first | refine blk_drewN ?_ _ | refine blk_drew ?_ | refine blk_alloc ?_ _)); refine blk_far ?_ NB146_153.out _; (with_reducible repeat (first | refine blk_drewN ?_ _ | refine blk_drew ?_ | refine blk_alloc ?_ _)); refine blk_far ?_ NB146_153.out _; (with_reducible repeat (first | refine blk_drewN ?_ _ | refine blk_drew ?_ | refine blk_alloc ?_ _)); refine blk_far ?_ NB146_153.out _; (with_reducible repeat (first | refine blk_drewN ?_ _ | refine blk_drew ?_ | refine blk_alloc ?_ _)); exact BK146.out⟩
                  have n4_ : Aside0 ((((((w24.setCell ⟨gb153, 0, none⟩ (.bool true)).setCell ⟨gb153, 1, none⟩ (.int .i64 0)).setCell ⟨gb153, 2, none⟩ (.bool true)).setCell ⟨gb146, 0, none⟩ (.int .i64 (wrap64 (Int.tdiv x147000_1 2)))).setCell ⟨gb153, 1, none⟩ (.int .i64 (wrap64 (Int.tdiv x147000_1 2)))).heap[gb153]? = some (.cells #[.bool true, .int .i64 (wrap64 (Int.tdiv x147000_1 2)), .bool true] 56 (0, 0))) := ⟨by (with_reducible repeat (first | refine blk_drewN ?_ _ | refine blk_drew ?_ | refine blk_alloc ?_ _)); refine blk_put (cs := #[.bool true, .int .i64 0, .bool true]) ?_ 1 _ rfl; (with_reducible repeat (first | refine blk_drewN ?_ _ | refine blk_drew ?_ | refine blk_alloc ?_ _)); refine blk_far ?_ NB153_146.out _; (with_reducible repeat (first | refine blk_drewN ?_ _ | refine blk_drew ?_ | refine blk_alloc ?_ _)); refine blk_put (cs := #[.bool true, .int .i64 0, .bool false]) ?_ 2 _ rfl; (with_reducible repeat (first | refine blk_drewN ?_ _ | refine blk_drew ?_ | refine blk_alloc ?_ _)); refine blk_put (cs := #[.bool true, .int .i64 0, .bool false]) ?_ 1 _ rfl; (with_reducible repeat (first | refine blk_drewN ?_ _ | refine blk_drew ?_ | refine blk_alloc ?_ _)); refine blk_put (cs := #[.bool false, .int .i64 0, .bool false]) ?_ 0 _ rfl; (with_reducible repeat (first | refine blk_drewN ?_ _ | refine blk_drew ?_ | refine blk_alloc ?_ _)); exact BK153.out⟩
                  have n5_ : Aside0 (Below w.heap.size w (((((w24.setCell ⟨gb153, 0, none⟩ (.bool true)).setCell ⟨gb153, 1, none⟩ (.int .i64 0)).setCell ⟨gb153, 2, none⟩ (.bool true)).setCell ⟨gb146, 0, none⟩ (.int .i64 (wrap64 (Int.tdiv x147000_1 2)))).setCell ⟨gb153, 1, none⟩ (.int .i64 (wrap64 (Int.tdiv x147000_1 2))))) := ⟨by repeat (first | (with_reducible first | exact HB.out | apply below_alloc | apply pw_below_drewN | apply below_drew1 | refine below_set ?_ GE145.out | refine below_set ?_ GE146.out | refine below_set ?_ GE153.out) | exact HB.out)⟩
                  (try clear HO_11)
                  (try clear HO_12)
                  (try clear BK145)
                  (try clear BK146)
                  (try clear BK153)
                  (try clear HB)
                  generalize (((((w24.setCell ⟨gb153, 0, none⟩ (.bool true)).setCell ⟨gb153, 1, none⟩ (.int .i64 0)).setCell ⟨gb153, 2, none⟩ (.bool true)).setCell ⟨gb146, 0, none⟩ (.int .i64 (wrap64 (Int.tdiv x147000_1 2)))).setCell ⟨gb153, 1, none⟩ (.int .i64 (wrap64 (Int.tdiv x147000_1 2)))) = w32 at n0_ n1_ n2_ n3_ n4_ n5_ ⊢
                  have HO_11 := n0_
                  have HO_12 := n1_
                  have BK145 := n2_
                  have BK146 := n3_
                  have BK153 := n4_
                  have HB := n5_
                  clear n0_ n1_ n2_ n3_ n4_ n5_
                  have n0_ := Aside0.mk (Kd.R_drew HO_11.out)
                  have n1_ := Aside0.mk (Kd.R_drew HO_12.out)
                  have n2_ := Aside0.mk (blk_drew BK145.out)
                  have n3_ := Aside0.mk (blk_drew BK146.out)
                  have n4_ := Aside0.mk (blk_drew BK153.out)
                  have n5_ := Aside0.mk (below_drew1 HB.out)
                  clear HO_11
                  clear HO_12
                  clear BK145
                  clear BK146
                  clear BK153
                  clear HB
                  have HO_11 := n0_
                  have HO_12 := n1_
                  have BK145 := n2_
                  have BK146 := n3_
                  have BK153 := n4_
                  have HB := n5_
                  clear n0_ n1_ n2_ n3_ n4_ n5_
                  refine start_ (n := 10) (S := fun w' => w'.cell? ⟨gb153, 0, none⟩ = some (.bool true) ∧ w'.cell? ⟨gb153, 1, none⟩ = some (.int .i64 (wrap64 (Int.tdiv x147000_1 2))) ∧ w'.cell? ⟨gb153, 2, none⟩ = some (.bool true) ∧ w'.cell? ⟨gb146, 0, none⟩ = some (.int .i64 (wrap64 (Int.tdiv x147000_1 2))) ∧ w'.cell? ⟨gb146, 1, none⟩ = some (.int .i64 x147001_1)) (ds := []) #[false, false, false, false, false, false, false, false, false, false] (by kernel_rfl) rfl rfl ⟨(blk_cell BK153.out 0).trans rfl, (blk_cell BK153.out 1).trans rfl, (blk_cell BK153.out 2).trans rfl, (blk_cell BK146.out 0).trans rfl, (blk_cell BK146.out 1).trans rfl⟩ (fun hHeld => ?_); refine with_tabW impl_setupOf.tab13 impl_setupOf.bits13 (fun HT_ HW_ => ?_)
                  generalize w32.drew = w33 at HO_11 HO_12 BK145 BK146 BK153 HB hHeld ⊢
                  refine pure_ (i := 0) (N := some 65) (v := ?_) (a' := ?_) #[true, false, false, false, false, false, false, false, false, false] rfl rfl (any_of HT_.out (by kernel_rfl)) (fun _ _ _ h => h) (Or.inl ⟨by rfl, ?_⟩) ?_ ?_
                  rotate_left
                  · intro w'
                    go_simp
                    with_reducible rfl
                  rotate_left
                  · simp only [Act.put, List.setIfInBounds_toArray, List.set_cons_zero, List.set_cons_succ, i64_w, i32_w]
                    rfl
                  refine pure_ (i := 4) (N := some 69) (v := ?_) (a' := ?_) #[true, false, false, false, true, false, false, false, false, false] rfl rfl (any_of HT_.out (by kernel_rfl)) (fun _ _ _ h => h) (Or.inl ⟨by rfl, ?_⟩) ?_ ?_
                  rotate_left
                  · intro w'
                    go_simp
                    with_reducible rfl
                  rotate_left
                  · simp only [Act.put, List.setIfInBounds_toArray, List.set_cons_zero, List.set_cons_succ, i64_w, i32_w]
                    rfl
                  refine take_ (i := 1) (N := some 66) (v := ?_) (a' := ?_) #[true, true, false, false, true, false, false, false, false, false] rfl rfl (take_ofW HT_.out HW_.out (by kernel_rfl)) (fun _ _ _ h => h) (Or.inl ⟨by rfl, ?_⟩) hHeld ?_ ?_
                  rotate_left
                  · rintro w' ⟨s0, s1, s2, s3, s4⟩
                    go_simp
                    with_reducible rfl
                  rotate_left
                  · simp only [Act.put, List.setIfInBounds_toArray, List.set_cons_zero, List.set_cons_succ, i64_w, i32_w]
                    rfl
                  refine take_ (i := 5) (N := some 70) (v := ?_) (a' := ?_) #[true, true, false, false, true, true, false, false, false, false] rfl rfl (take_ofW HT_.out HW_.out (by kernel_rfl)) (fun _ _ _ h => h) (Or.inl ⟨by rfl, ?_⟩) hHeld ?_ ?_
                  rotate_left
                  · rintro w' ⟨s0, s1, s2, s3, s4⟩
                    go_simp
                    with_reducible rfl
                  rotate_left
                  · simp only [Act.put, List.setIfInBounds_toArray, List.set_cons_zero, List.set_cons_succ, i64_w, i32_w]
                    rfl
                  refine join_ (σ := Value × Value × Value) 3 #[true, true, true, true, true, true, true, false, false, false] (fun s_ => [(67, s_.1), (68, s_.2.1), (71, s_.2.2)]) (fun s_ w' => (w'.cell? ⟨gb153, 0, none⟩ = some (.bool true) ∧ w'.cell? ⟨gb153, 1, none⟩ = some (.int .i64 (wrap64 (Int.tdiv x147000_1 2))) ∧ w'.cell? ⟨gb153, 2, none⟩ = some (.bool true) ∧ w'.cell? ⟨gb146, 0, none⟩ = some (.int .i64 (wrap64 (Int.tdiv x147000_1 2))) ∧ w'.cell? ⟨gb146, 1, none⟩ = some (.int .i64 x147001_1)) ∧ (Kd.R k56 56 w' w.heap.size (fun k_ => some k_ ≠ (s_.2.1 : Value).ownBlock ∧ k_ ≠ gb153) s_.1 y154) ∧ (Kd.R k56 56 w' w.heap.size (fun k_ => some k_ ≠ (s_.1 : Value).ownBlock ∧ k_ ≠ gb153) s_.2.1 y157) ∧ (Kd.R k24 24 w' w.heap.size (fun k_ => some k_ ≠ (.slice Ao31 x12_1.length co31 : Value).ownBlock ∧ k_ ≠ gb145 ∧ k_ ≠ gb146) s_.2.2 y160) ∧ (Kd.R k24 24 w' w.heap.size (fun k_ => some k_ ≠ (s_.2.2 : Value).ownBlock ∧ k_ ≠ gb145 ∧ k_ ≠ gb146) (.slice Ao31 x12_1.length co31) x12_1) ∧ (w'.heap[gb145]? = some (.cells #[.int .i64 a2_0, .int .i64 a2_1] 24 (0, 0))) ∧ (w'.heap[gb146]? = some (.cells #[.int .i64 (wrap64 (Int.tdiv x147000_1 2)), .int .i64 x147001_1] 24 (0, 0))) ∧ (w'.heap[gb153]? = some (.cells #[.bool true, .int .i64 (wrap64 (Int.tdiv x147000_1 2)), .bool true] 56 (0, 0))) ∧ (Below w.heap.size w w')) ?_ ?_
                  rotate_left
                  · intro hCont
                    refine two_ (i := 2) (j := 6) (Ni := some 67) (Nj := some 71) #[true, true, true, false, true, true, false, false, false, false] #[true, true, false, false, true, true, true, false, false, false] rfl rfl rfl rfl (two_of HT_.out (by kernel_rfl)) (by decide) (by decide) (fun K hK => ?_) (fun K hK => ?_)
                    · skip
                      refine Kd.R_lit_step k56 _ 56 ?hg (N := 67) ?hd (xs := ([(⟨true, wrap64 (Int.tdiv x147000_1 2), true⟩ : S56)] : List (S56))) (inner := [.bool true, .int .i64 (wrap64 (Int.tdiv x147000_1 2)), .bool true]) (ok := fun _ => True) (okp := fun _ => True) ?hr ?hp (fun _ hk => hk) trivial (Below.refl _ _) (Nat.le_refl _) (by simp) ?_; (case hd => rfl); (case hg => rfl); (case hr => first | (go_simp; done) | (go_simp; rfl)); (case hp => exact (Reps.c3 (show Kd.M k56 _ _ _ (⟨true, wrap64 (Int.tdiv x147000_1 2), true⟩ : S56) [.bool true, .int .i64 (wrap64 (Int.tdiv x147000_1 2)), .bool true] from (k56_mkM _ _ _ (⟨true, wrap64 (Int.tdiv x147000_1 2), true⟩ : S56) )) (Reps.none _ _)))
                      intro v155 w34 ho35 hb hg_ hnew_
                      clear hg_ hnew_
                      (first | rw [← Ny154.out] at ho35 | (simp only [Int.reduceToNat] at ho35; rw [← Ny154.out] at ho35))
                      have n0_ := Aside0.mk (Kd.R_elder' (by (with_reducible repeat (first | apply Kd.R_alloc | apply Kd.R_drewN | apply Kd.R_drew)); exact HO_11.out) (Kd.R_base ho35) hb)
                      have n1_ := Aside0.mk (Kd.R_below (by (with_reducible repeat (first | apply Kd.R_alloc | apply Kd.R_drewN | apply Kd.R_drew)); exact HO_12.out) hb)
                      have n2_ := Aside0.mk (Kd.R_lower (Kd.R_newB (Kd.R_new' ho35 (Kd.R_lt (by (with_reducible repeat (first | apply Kd.R_alloc | apply Kd.R_drewN | apply Kd.R_drew)); exact HO_11.out))) (g := gb153) (o := .cells #[.bool true, .int .i64 (wrap64 (Int.tdiv x147000_1 2)), .bool true] 56 (0, 0)) (by (with_reducible repeat (first | refine blk_drewN ?_ _ | refine blk_drew ?_ | refine blk_alloc ?_ _)); exact BK153.out)) (below_size (by repeat (first | (with_reducible first | exact HB.out | apply below_alloc | apply pw_below_drewN | apply below_drew1 | refine below_set ?_ GE145.out | refine below_set ?_ GE146.out | refine below_set ?_ GE153.out) | exact HB.out))))
                      have n3_ := Aside0.mk (blk_below (g := gb145) (o := .cells #[.int .i64 a2_0, .int .i64 a2_1] 24 (0, 0)) (by (with_reducible repeat (first | refine blk_drewN ?_ _ | refine blk_drew ?_ | refine blk_alloc ?_ _)); exact BK145.out) hb)
                      have n4_ := Aside0.mk (blk_below (g := gb146) (o := .cells #[.int .i64 (wrap64 (Int.tdiv x147000_1 2)), .int .i64 x147001_1] 24 (0, 0)) (by (with_reducible repeat (first | refine blk_drewN ?_ _ | refine blk_drew ?_ | refine blk_alloc ?_ _)); exact BK146.out) hb)
                      have n5_ := Aside0.mk (blk_below (g := gb153) (o := .cells #[.bool true, .int .i64 (wrap64 (Int.tdiv x147000_1 2)), .bool true] 56 (0, 0)) (by (with_reducible repeat (first | refine blk_drewN ?_ _ | refine blk_drew ?_ | refine blk_alloc ?_ _)); exact BK153.out) hb)
                      have n6_ := Aside0.mk (below_step (by repeat (first | (with_reducible first | exact HB.out | apply below_alloc | apply pw_below_drewN | apply below_drew1 | refine below_set ?_ GE145.out | refine below_set ?_ GE146.out | refine below_set ?_ GE153.out) | exact HB.out)) hb)
                      clear HO_11
                      clear HO_12
                      clear BK145
                      clear BK146
                      clear BK153
                      clear HB
                      have HO_11 := n0_
                      have HO_12 := n1_
                      have HO156 := n2_
                      have BK145 := n3_
                      have BK146 := n4_
                      have BK153 := n5_
                      have HB := n6_
                      clear n0_ n1_ n2_ n3_ n4_ n5_ n6_
                      clear hb ho35
                      obtain ⟨Ao37, co37, eo37⟩ := Kd.R_slice HO156.out
                      (first | subst eo37 | (injection eo37 with f1_ f2_ f3_; have f4_ := f1_.symm; have f5_ := f3_.symm; clear f1_ f2_ f3_; subst f4_; subst f5_))
                      refine hK.out _ _ ⟨(blk_cell BK153.out 0).trans rfl, (blk_cell BK153.out 1).trans rfl, (blk_cell BK153.out 2).trans rfl, (blk_cell BK146.out 0).trans rfl, (blk_cell BK146.out 1).trans rfl⟩ (fun hHeld => ?_)
                      clear hK K
                      refine norm_ (a' := ?_) ?_ ?_
                      rotate_left
                      · show Act.put _ (some 67) _ = _
                        simp only [Act.put, List.setIfInBounds_toArray, List.set_cons_zero, List.set_cons_succ, i64_w, i32_w]
                        rfl
                      refine two_ (i := 3) (j := 6) (Ni := some 68) (Nj := some 71) #[true, true, true, true, true, true, false, false, false, false] #[true, true, true, false, true, true, true, false, false, false] rfl rfl rfl rfl (two_of HT_.out (by kernel_rfl)) (by decide) (by decide) (fun K hK => ?_) (fun K hK => ?_)
                      · skip
                        refine Kd.R_append_rows_step k56 (w0 := w) w.heap.size (by rfl) (.tmp 65) (.tmp 67) 30 56 (.agg #[(.bool false), (.int .i64 0), (.bool false)]) 24 rfl Tryd.underlying30 info56 rfl (by decide) (by omega) (.slice Ao30 x11_1.length co30) x11_1 y154 _ _ _ (fun k_ => some k_ ≠ (.slice Ao37 y154.length co37 : Value).ownBlock ∧ k_ ≠ gb153) (fun _ => False) rfl rfl ?aO ?aR (fun _ _ h => h) (fun _ h => h.elim) ?aF ?aB ?aS ?aL ?_
                        (case aR => repeat (first | exact (Kd.R_reads' HO156.out).2.2 | (with_reducible refine Kd.C_alloc ?_ _) | (with_reducible refine Kd.C_drewN ?_ _) | (with_reducible refine Kd.C_drew ?_)))
                        (case aB => exact (by repeat (first | (with_reducible first | exact HB.out | apply below_alloc | apply pw_below_drewN | apply below_drew1 | refine below_set ?_ GE145.out | refine below_set ?_ GE146.out | refine below_set ?_ GE153.out) | exact HB.out)))
                        (case aF => exact (fun k_ hk => ⟨Kd.fresh' (Kd.R_lt (by (with_reducible repeat (first | apply Kd.R_alloc | apply Kd.R_drewN | apply Kd.R_drew)); exact HO156.out)) k_ hk, Kd.freshB (g := gb153) (o := .cells #[.bool true, .int .i64 (wrap64 (Int.tdiv x147000_1 2)), .bool true] 56 (0, 0)) (by (with_reducible repeat (first | refine blk_drewN ?_ _ | refine blk_drew ?_ | refine blk_alloc ?_ _)); exact BK153.out) k_ hk⟩))
                        (case aO => exact (by (with_reducible repeat (first | apply Kd.R_alloc | apply Kd.R_drewN | apply Kd.R_drew)); exact Kd.R_mono HO_11.out (fun _ hk => ⟨hk.2, hk.1⟩)))
                        (case aS => exact (below_size (by repeat (first | (with_reducible first | exact HB.out | apply below_alloc | apply pw_below_drewN | apply below_drew1 | refine below_set ?_ GE145.out | refine below_set ?_ GE146.out | refine below_set ?_ GE153.out) | exact HB.out))))
                        (case aL => have := LMc22.out; omega)
                        intro v158 w36 ho hb hg hat
                        rw [← Ny157.out] at ho
                        have n0_ := Aside0.mk (Kd.R_over' (by (with_reducible repeat (first | apply Kd.R_alloc | apply Kd.R_drewN | apply Kd.R_drew)); exact HO_12.out) (Kd.R_typed (by (with_reducible repeat (first | apply Kd.R_alloc | apply Kd.R_drewN | apply Kd.R_drew)); exact HO_11.out)) (by decide) hg)
                        have n1_ := Aside0.mk (blk_grown (g := gb145) (o := .cells #[.int .i64 a2_0, .int .i64 a2_1] 24 (0, 0)) (by (with_reducible repeat (first | refine blk_drewN ?_ _ | refine blk_drew ?_ | refine blk_alloc ?_ _)); exact BK145.out) hg (Kd.R_ne HO_11.out BK145.out (by decide)))
                        have n2_ := Aside0.mk (blk_grown (g := gb146) (o := .cells #[.int .i64 (wrap64 (Int.tdiv x147000_1 2)), .int .i64 x147001_1] 24 (0, 0)) (by (with_reducible repeat (first | refine blk_drewN ?_ _ | refine blk_drew ?_ | refine blk_alloc ?_ _)); exact BK146.out) hg (Kd.R_ne HO_11.out BK146.out (by decide)))
                        have n3_ := Aside0.mk (blk_grown (g := gb153) (o := .cells #[.bool true, .int .i64 (wrap64 (Int.tdiv x147000_1 2)), .bool true] 56 (0, 0)) (by (with_reducible repeat (first | refine blk_drewN ?_ _ | refine blk_drew ?_ | refine blk_alloc ?_ _)); exact BK153.out) hg (Kd.R_away HO_11.out (fun _ hk => hk.1)))
                        have n4_ := Aside0.mk (Kd.R_after (ok := (fun k_ => k_ ≠ gb153)) (by (with_reducible repeat (first | apply Kd.R_alloc | apply Kd.R_drewN | apply Kd.R_drew)); exact Kd.R_mono HO156.out (fun _ hk => ⟨hk.2, hk.1.2⟩)) hg hat)
                        have n5_ := Aside0.mk (hb)
                        have n6_ := Aside0.mk (ho)
                        clear HO_12
                        clear BK145
                        clear BK146
                        clear BK153
                        clear HO156
                        clear HB
                        clear HO_11
                        have HO_12 := n0_
                        have BK145 := n1_
                        have BK146 := n2_
                        have BK153 := n3_
                        have HO156 := n4_
                        have HB := n5_
                        have HO159 := n6_
                        clear n0_ n1_ n2_ n3_ n4_ n5_ n6_
                        clear ho hb hg hat
                        refine hK.out _ _ ⟨(blk_cell BK153.out 0).trans rfl, (blk_cell BK153.out 1).trans rfl, (blk_cell BK153.out 2).trans rfl, (blk_cell BK146.out 0).trans rfl, (blk_cell BK146.out 1).trans rfl⟩ (fun hHeld => ?_)
                        clear hK K
                        refine norm_ (a' := ?_) ?_ ?_
                        rotate_left
                        · show Act.put _ (some 68) _ = _
                          simp only [Act.put, List.setIfInBounds_toArray, List.set_cons_zero, List.set_cons_succ, i64_w, i32_w]
                          rfl
                        refine one_ (i := 6) (N := some 71) #[true, true, true, true, true, true, true, false, false, false] rfl rfl (one_of HT_.out (by kernel_rfl)) (by decide) (fun K hK => ?_)
                        refine Kd.R_lit_step k24 _ 24 ?hg (N := 71) ?hd (xs := ([(⟨wrap64 (Int.tdiv x147000_1 2), x147001_1⟩ : S24)] : List (S24))) (inner := [.int .i64 (wrap64 (Int.tdiv x147000_1 2)), .int .i64 x147001_1]) (ok := fun _ => True) (okp := fun _ => True) ?hr ?hp (fun _ hk => hk) trivial (Below.refl _ _) (Nat.le_refl _) (by simp) ?_; (case hd => rfl); (case hg => rfl); (case hr => first | (go_simp; done) | (go_simp; rfl)); (case hp => exact (Reps.c2 (show Kd.M k24 _ _ _ (⟨wrap64 (Int.tdiv x147000_1 2), x147001_1⟩ : S24) [.int .i64 (wrap64 (Int.tdiv x147000_1 2)), .int .i64 x147001_1] from (k24_mkM _ _ _ (⟨wrap64 (Int.tdiv x147000_1 2), x147001_1⟩ : S24) )) (Reps.none _ _)))
                        intro v161 w38 ho39 hb hg_ hnew_
                        clear hg_ hnew_
                        (first | rw [← Ny160.out] at ho39 | (simp only [Int.reduceToNat] at ho39; rw [← Ny160.out] at ho39))
                        have n0_ := Aside0.mk (Kd.R_elder' (by (with_reducible repeat (first | apply Kd.R_alloc | apply Kd.R_drewN | apply Kd.R_drew)); exact HO_12.out) (Kd.R_base ho39) hb)
                        have n1_ := Aside0.mk (Kd.R_below (by (with_reducible repeat (first | apply Kd.R_alloc | apply Kd.R_drewN | apply Kd.R_drew)); exact HO156.out) hb)
                        have n2_ := Aside0.mk (Kd.R_below (by (with_reducible repeat (first | apply Kd.R_alloc | apply Kd.R_drewN | apply Kd.R_drew)); exact HO159.out) hb)
                        have n3_ := Aside0.mk (Kd.R_lower (Kd.R_newB (Kd.R_newB (Kd.R_new' ho39 (Kd.R_lt (by (with_reducible repeat (first | apply Kd.R_alloc | apply Kd.R_drewN | apply Kd.R_drew)); exact HO_12.out))) (g := gb145) (o := .cells #[.int .i64 a2_0, .int .i64 a2_1] 24 (0, 0)) (by (with_reducible repeat (first | refine blk_drewN ?_ _ | refine blk_drew ?_ | refine blk_alloc ?_ _)); exact BK145.out)) (g := gb146) (o := .cells #[.int .i64 (wrap64 (Int.tdiv x147000_1 2)), .int .i64 x147001_1] 24 (0, 0)) (by (with_reducible repeat (first | refine blk_drewN ?_ _ | refine blk_drew ?_ | refine blk_alloc ?_ _)); exact BK146.out)) (below_size (by repeat (first | (with_reducible first | exact HB.out | apply below_alloc | apply pw_below_drewN | apply below_drew1 | refine below_set ?_ GE145.out | refine below_set ?_ GE146.out | refine below_set ?_ GE153.out) | exact HB.out))))
                        have n4_ := Aside0.mk (blk_below (g := gb145) (o := .cells #[.int .i64 a2_0, .int .i64 a2_1] 24 (0, 0)) (by (with_reducible repeat (first | refine blk_drewN ?_ _ | refine blk_drew ?_ | refine blk_alloc ?_ _)); exact BK145.out) hb)
                        have n5_ := Aside0.mk (blk_below (g := gb146) (o := .cells #[.int .i64 (wrap64 (Int.tdiv x147000_1 2)), .int .i64 x147001_1] 24 (0, 0)) (by (with_reducible repeat (first | refine blk_drewN ?_ _ | refine blk_drew ?_ | refine blk_alloc ?_ _)); exact BK146.out) hb)
                        have n6_ := Aside0.mk (blk_below (g := gb153) (o := .cells #[.bool true, .int .i64 (wrap64 (Int.tdiv x147000_1 2)), .bool true] 56 (0, 0)) (by (with_reducible repeat (first | refine blk_drewN ?_ _ | refine blk_drew ?_ | refine blk_alloc ?_ _)); exact BK153.out) hb)
                        have n7_ := Aside0.mk (below_step (by repeat (first | (with_reducible first | exact HB.out | apply below_alloc | apply pw_below_drewN | apply below_drew1 | refine below_set ?_ GE145.out | refine below_set ?_ GE146.out | refine below_set ?_ GE153.out) | exact HB.out)) hb)
                        clear HO_12
                        clear HO156
                        clear HO159
                        clear BK145
                        clear BK146
                        clear BK153
                        clear HB
                        have HO_12 := n0_
                        have HO156 := n1_
                        have HO159 := n2_
                        have HO162 := n3_
                        have BK145 := n4_
                        have BK146 := n5_
                        have BK153 := n6_
                        have HB := n7_
                        clear n0_ n1_ n2_ n3_ n4_ n5_ n6_ n7_
                        clear hb ho39
                        refine hK.out _ _ ⟨(blk_cell BK153.out 0).trans rfl, (blk_cell BK153.out 1).trans rfl, (blk_cell BK153.out 2).trans rfl, (blk_cell BK146.out 0).trans rfl, (blk_cell BK146.out 1).trans rfl⟩ (fun hHeld => ?_)
                        clear hK K
                        refine norm_ (a' := ?_) ?_ ?_
                        rotate_left
                        · show Act.put _ (some 71) _ = _
                          simp only [Act.put, List.setIfInBounds_toArray, List.set_cons_zero, List.set_cons_succ, i64_w, i32_w]
                          rfl
                        exact norm_ (by simp only [putAll, Act.put, List.setIfInBounds_toArray, List.set_cons_zero, List.set_cons_succ]) (hCont (.slice Ao37 y154.length co37, v158, v161) _ ⟨hHeld, (by (with_reducible repeat (first | apply Kd.R_alloc | apply Kd.R_drewN | apply Kd.R_drew)); exact Kd.R_mono HO156.out (fun _ hk => ⟨hk.2, hk.1⟩)), (by (with_reducible repeat (first | apply Kd.R_alloc | apply Kd.R_drewN | apply Kd.R_drew)); exact HO159.out), (by (with_reducible repeat (first | apply Kd.R_alloc | apply Kd.R_drewN | apply Kd.R_drew)); exact Kd.R_mono HO162.out (fun _ hk => ⟨hk.1.1.2, ⟨hk.1.2, hk.2⟩⟩)), (by (with_reducible repeat (first | apply Kd.R_alloc | apply Kd.R_drewN | apply Kd.R_drew)); exact Kd.R_mono HO_12.out (fun _ hk => ⟨hk.2, ⟨hk.1.1, hk.1.2⟩⟩)), (by (with_reducible repeat (first | refine blk_drewN ?_ _ | refine blk_drew ?_ | refine blk_alloc ?_ _)); exact BK145.out), (by (with_reducible repeat (first | refine blk_drewN ?_ _ | refine blk_drew ?_ | refine blk_alloc ?_ _)); exact BK146.out), (by (with_reducible repeat (first | refine blk_drewN ?_ _ | refine blk_drew ?_ | refine blk_alloc ?_ _)); exact BK153.out), (by repeat (first | (with_reducible first | exact HB.out | apply below_alloc | apply pw_below_drewN | apply below_drew1 | refine below_set ?_ GE145.out | refine below_set ?_ GE146.out | refine below_set ?_ GE153.out) | exact HB.out))⟩)
                      · skip
                        refine Kd.R_lit_step k24 _ 24 ?hg (N := 71) ?hd (xs := ([(⟨wrap64 (Int.tdiv x147000_1 2), x147001_1⟩ : S24)] : List (S24))) (inner := [.int .i64 (wrap64 (Int.tdiv x147000_1 2)), .int .i64 x147001_1]) (ok := fun _ => True) (okp := fun _ => True) ?hr ?hp (fun _ hk => hk) trivial (Below.refl _ _) (Nat.le_refl _) (by simp) ?_; (case hd => rfl); (case hg => rfl); (case hr => first | (go_simp; done) | (go_simp; rfl)); (case hp => exact (Reps.c2 (show Kd.M k24 _ _ _ (⟨wrap64 (Int.tdiv x147000_1 2), x147001_1⟩ : S24) [.int .i64 (wrap64 (Int.tdiv x147000_1 2)), .int .i64 x147001_1] from (k24_mkM _ _ _ (⟨wrap64 (Int.tdiv x147000_1 2), x147001_1⟩ : S24) )) (Reps.none _ _)))
                        intro v161 w36 ho37 hb hg_ hnew_
                        clear hg_ hnew_
                        (first | rw [← Ny160.out] at ho37 | (simp only [Int.reduceToNat] at ho37; rw [← Ny160.out] at ho37))
                        have n0_ := Aside0.mk (Kd.R_below (by (with_reducible repeat (first | apply Kd.R_alloc | apply Kd.R_drewN | apply Kd.R_drew)); exact HO_11.out) hb)
                        have n1_ := Aside0.mk (Kd.R_elder' (by (with_reducible repeat (first | apply Kd.R_alloc | apply Kd.R_drewN | apply Kd.R_drew)); exact HO_12.out) (Kd.R_base ho37) hb)
                        have n2_ := Aside0.mk (Kd.R_below (by (with_reducible repeat (first | apply Kd.R_alloc | apply Kd.R_drewN | apply Kd.R_drew)); exact HO156.out) hb)
                        have n3_ := Aside0.mk (Kd.R_lower (Kd.R_newB (Kd.R_newB (Kd.R_new' ho37 (Kd.R_lt (by (with_reducible repeat (first | apply Kd.R_alloc | apply Kd.R_drewN | apply Kd.R_drew)); exact HO_12.out))) (g := gb145) (o := .cells #[.int .i64 a2_0, .int .i64 a2_1] 24 (0, 0)) (by (with_reducible repeat (first | refine blk_drewN ?_ _ | refine blk_drew ?_ | refine blk_alloc ?_ _)); exact BK145.out)) (g := gb146) (o := .cells #[.int .i64 (wrap64 (Int.tdiv x147000_1 2)), .int .i64 x147001_1] 24 (0, 0)) (by (with_reducible repeat (first | refine blk_drewN ?_ _ | refine blk_drew ?_ | refine blk_alloc ?_ _)); exact BK146.out)) (below_size (by repeat (first | (with_reducible first | exact HB.out | apply below_alloc | apply pw_below_drewN | apply below_drew1 | refine below_set ?_ GE145.out | refine below_set ?_ GE146.out | refine below_set ?_ GE153.out) | exact HB.out))))
                        have n4_ := Aside0.mk (blk_below (g := gb145) (o := .cells #[.int .i64 a2_0, .int .i64 a2_1] 24 (0, 0)) (by (with_reducible repeat (first | refine blk_drewN ?_ _ | refine blk_drew ?_ | refine blk_alloc ?_ _)); exact BK145.out) hb)
                        have n5_ := Aside0.mk (blk_below (g := gb146) (o := .cells #[.int .i64 (wrap64 (Int.tdiv x147000_1 2)), .int .i64 x147001_1] 24 (0, 0)) (by (with_reducible repeat (first | refine blk_drewN ?_ _ | refine blk_drew ?_ | refine blk_alloc ?_ _)); exact BK146.out) hb)
                        have n6_ := Aside0.mk (blk_below (g := gb153) (o := .cells #[.bool true, .int .i64 (wrap64 (Int.tdiv x147000_1 2)), .bool true] 56 (0, 0)) (by (with_reducible repeat (first | refine blk_drewN ?_ _ | refine blk_drew ?_ | refine blk_alloc ?_ _)); exact BK153.out) hb)
                        have n7_ := Aside0.mk (below_step (by repeat (first | (with_reducible first | exact HB.out | apply below_alloc | apply pw_below_drewN | apply below_drew1 | refine below_set ?_ GE145.out | refine below_set ?_ GE146.out | refine below_set ?_ GE153.out) | exact HB.out)) hb)
                        clear HO_11
                        clear HO_12
                        clear HO156
                        clear BK145
                        clear BK146
                        clear BK153
                        clear HB
                        have HO_11 := n0_
                        have HO_12 := n1_
                        have HO156 := n2_
                        have HO162 := n3_
                        have BK145 := n4_
                        have BK146 := n5_
                        have BK153 := n6_
                        have HB := n7_
                        clear n0_ n1_ n2_ n3_ n4_ n5_ n6_ n7_
                        clear hb ho37
                        obtain ⟨Ao39, co39, eo39⟩ := Kd.R_slice HO156.out
                        (first | subst eo39 | (injection eo39 with f1_ f2_ f3_; have f4_ := f1_.symm; have f5_ := f3_.symm; clear f1_ f2_ f3_; subst f4_; subst f5_))
                        refine hK.out _ _ ⟨(blk_cell BK153.out 0).trans rfl, (blk_cell BK153.out 1).trans rfl, (blk_cell BK153.out 2).trans rfl, (blk_cell BK146.out 0).trans rfl, (blk_cell BK146.out 1).trans rfl⟩ (fun hHeld => ?_)
                        clear hK K
                        refine norm_ (a' := ?_) ?_ ?_
                        rotate_left
                        · show Act.put _ (some 71) _ = _
                          simp only [Act.put, List.setIfInBounds_toArray, List.set_cons_zero, List.set_cons_succ, i64_w, i32_w]
                          rfl
                        refine one_ (i := 3) (N := some 68) #[true, true, true, true, true, true, true, false, false, false] rfl rfl (one_of HT_.out (by kernel_rfl)) (by decide) (fun K hK => ?_)
                        refine Kd.R_append_rows_step k56 (w0 := w) w.heap.size (by rfl) (.tmp 65) (.tmp 67) 30 56 (.agg #[(.bool false), (.int .i64 0), (.bool false)]) 24 rfl Tryd.underlying30 info56 rfl (by decide) (by omega) (.slice Ao30 x11_1.length co30) x11_1 y154 _ _ _ (fun k_ => some k_ ≠ (.slice Ao39 y154.length co39 : Value).ownBlock ∧ k_ ≠ gb153) (fun _ => False) rfl rfl ?aO ?aR (fun _ _ h => h) (fun _ h => h.elim) ?aF ?aB ?aS ?aL ?_
                        (case aR => repeat (first | exact (Kd.R_reads' HO156.out).2.2 | (with_reducible refine Kd.C_alloc ?_ _) | (with_reducible refine Kd.C_drewN ?_ _) | (with_reducible refine Kd.C_drew ?_)))
                        (case aB => exact (by repeat (first | (with_reducible first | exact HB.out | apply below_alloc | apply pw_below_drewN | apply below_drew1 | refine below_set ?_ GE145.out | refine below_set ?_ GE146.out | refine below_set ?_ GE153.out) | exact HB.out)))
                        (case aF => exact (fun k_ hk => ⟨Kd.fresh' (Kd.R_lt (by (with_reducible repeat (first | apply Kd.R_alloc | apply Kd.R_drewN | apply Kd.R_drew)); exact HO156.out)) k_ hk, Kd.freshB (g := gb153) (o := .cells #[.bool true, .int .i64 (wrap64 (Int.tdiv x147000_1 2)), .bool true] 56 (0, 0)) (by (with_reducible repeat (first | refine blk_drewN ?_ _ | refine blk_drew ?_ | refine blk_alloc ?_ _)); exact BK153.out) k_ hk⟩))
                        (case aO => exact (by (with_reducible repeat (first | apply Kd.R_alloc | apply Kd.R_drewN | apply Kd.R_drew)); exact Kd.R_mono HO_11.out (fun _ hk => ⟨hk.2, hk.1⟩)))
                        (case aS => exact (below_size (by repeat (first | (with_reducible first | exact HB.out | apply below_alloc | apply pw_below_drewN | apply below_drew1 | refine below_set ?_ GE145.out | refine below_set ?_ GE146.out | refine below_set ?_ GE153.out) | exact HB.out))))
                        (case aL => have := LMc22.out; omega)
                        intro v158 w38 ho hb hg hat
                        rw [← Ny157.out] at ho
                        have n0_ := Aside0.mk (Kd.R_over' (by (with_reducible repeat (first | apply Kd.R_alloc | apply Kd.R_drewN | apply Kd.R_drew)); exact HO_12.out) (Kd.R_typed (by (with_reducible repeat (first | apply Kd.R_alloc | apply Kd.R_drewN | apply Kd.R_drew)); exact HO_11.out)) (by decide) hg)
                        have n1_ := Aside0.mk (blk_grown (g := gb145) (o := .cells #[.int .i64 a2_0, .int .i64 a2_1] 24 (0, 0)) (by (with_reducible repeat (first | refine blk_drewN ?_ _ | refine blk_drew ?_ | refine blk_alloc ?_ _)); exact BK145.out) hg (Kd.R_ne HO_11.out BK145.out (by decide)))
                        have n2_ := Aside0.mk (blk_grown (g := gb146) (o := .cells #[.int .i64 (wrap64 (Int.tdiv x147000_1 2)), .int .i64 x147001_1] 24 (0, 0)) (by (with_reducible repeat (first | refine blk_drewN ?_ _ | refine blk_drew ?_ | refine blk_alloc ?_ _)); exact BK146.out) hg (Kd.R_ne HO_11.out BK146.out (by decide)))
                        have n3_ := Aside0.mk (blk_grown (g := gb153) (o := .cells #[.bool true, .int .i64 (wrap64 (Int.tdiv x147000_1 2)), .bool true] 56 (0, 0)) (by (with_reducible repeat (first | refine blk_drewN ?_ _ | refine blk_drew ?_ | refine blk_alloc ?_ _)); exact BK153.out) hg (Kd.R_away HO_11.out (fun _ hk => hk.1)))
                        have n4_ := Aside0.mk (Kd.R_after (ok := (fun k_ => k_ ≠ gb153)) (by (with_reducible repeat (first | apply Kd.R_alloc | apply Kd.R_drewN | apply Kd.R_drew)); exact Kd.R_mono HO156.out (fun _ hk => ⟨hk.2, hk.1.2⟩)) hg hat)
                        have n5_ := Aside0.mk (Kd.R_over' (by (with_reducible repeat (first | apply Kd.R_alloc | apply Kd.R_drewN | apply Kd.R_drew)); exact HO162.out) (Kd.R_typed (by (with_reducible repeat (first | apply Kd.R_alloc | apply Kd.R_drewN | apply Kd.R_drew)); exact HO_11.out)) (by decide) hg)
                        have n6_ := Aside0.mk (hb)
                        have n7_ := Aside0.mk (ho)
                        clear HO_12
                        clear BK145
                        clear BK146
                        clear BK153
                        clear HO156
                        clear HO162
                        clear HB
                        clear HO_11
                        have HO_12 := n0_
                        have BK145 := n1_
                        have BK146 := n2_
                        have BK153 := n3_
                        have HO156 := n4_
                        have HO162 := n5_
                        have HB := n6_
                        have HO159 := n7_
                        clear n0_ n1_ n2_ n3_ n4_ n5_ n6_ n7_
                        clear ho hb hg hat
                        refine hK.out _ _ ⟨(blk_cell BK153.out 0).trans rfl, (blk_cell BK153.out 1).trans rfl, (blk_cell BK153.out 2).trans rfl, (blk_cell BK146.out 0).trans rfl, (blk_cell BK146.out 1).trans rfl⟩ (fun hHeld => ?_)
                        clear hK K
                        refine norm_ (a' := ?_) ?_ ?_
                        rotate_left
                        · show Act.put _ (some 68) _ = _
                          simp only [Act.put, List.setIfInBounds_toArray, List.set_cons_zero, List.set_cons_succ, i64_w, i32_w]
                          rfl
                        exact norm_ (by simp only [putAll, Act.put, List.setIfInBounds_toArray, List.set_cons_zero, List.set_cons_succ]) (hCont (.slice Ao39 y154.length co39, v158, v161) _ ⟨hHeld, (by (with_reducible repeat (first | apply Kd.R_alloc | apply Kd.R_drewN | apply Kd.R_drew)); exact Kd.R_mono HO156.out (fun _ hk => ⟨hk.2, hk.1⟩)), (by (with_reducible repeat (first | apply Kd.R_alloc | apply Kd.R_drewN | apply Kd.R_drew)); exact HO159.out), (by (with_reducible repeat (first | apply Kd.R_alloc | apply Kd.R_drewN | apply Kd.R_drew)); exact Kd.R_mono HO162.out (fun _ hk => ⟨hk.1.1.2, ⟨hk.1.2, hk.2⟩⟩)), (by (with_reducible repeat (first | apply Kd.R_alloc | apply Kd.R_drewN | apply Kd.R_drew)); exact Kd.R_mono HO_12.out (fun _ hk => ⟨hk.2, ⟨hk.1.1, hk.1.2⟩⟩)), (by (with_reducible repeat (first | refine blk_drewN ?_ _ | refine blk_drew ?_ | refine blk_alloc ?_ _)); exact BK145.out), (by (with_reducible repeat (first | refine blk_drewN ?_ _ | refine blk_drew ?_ | refine blk_alloc ?_ _)); exact BK146.out), (by (with_reducible repeat (first | refine blk_drewN ?_ _ | refine blk_drew ?_ | refine blk_alloc ?_ _)); exact BK153.out), (by repeat (first | (with_reducible first | exact HB.out | apply below_alloc | apply pw_below_drewN | apply below_drew1 | refine below_set ?_ GE145.out | refine below_set ?_ GE146.out | refine below_set ?_ GE153.out) | exact HB.out))⟩)
                    · skip
                      refine Kd.R_lit_step k24 _ 24 ?hg (N := 71) ?hd (xs := ([(⟨wrap64 (Int.tdiv x147000_1 2), x147001_1⟩ : S24)] : List (S24))) (inner := [.int .i64 (wrap64 (Int.tdiv x147000_1 2)), .int .i64 x147001_1]) (ok := fun _ => True) (okp := fun _ => True) ?hr ?hp (fun _ hk => hk) trivial (Below.refl _ _) (Nat.le_refl _) (by simp) ?_; (case hd => rfl); (case hg => rfl); (case hr => first | (go_simp; done) | (go_simp; rfl)); (case hp => exact (Reps.c2 (show Kd.M k24 _ _ _ (⟨wrap64 (Int.tdiv x147000_1 2), x147001_1⟩ : S24) [.int .i64 (wrap64 (Int.tdiv x147000_1 2)), .int .i64 x147001_1] from (k24_mkM _ _ _ (⟨wrap64 (Int.tdiv x147000_1 2), x147001_1⟩ : S24) )) (Reps.none _ _)))
                      intro v161 w34 ho35 hb hg_ hnew_
                      clear hg_ hnew_
                      (first | rw [← Ny160.out] at ho35 | (simp only [Int.reduceToNat] at ho35; rw [← Ny160.out] at ho35))
                      have n0_ := Aside0.mk (Kd.R_below (by (with_reducible repeat (first | apply Kd.R_alloc | apply Kd.R_drewN | apply Kd.R_drew)); exact HO_11.out) hb)
                      have n1_ := Aside0.mk (Kd.R_elder' (by (with_reducible repeat (first | apply Kd.R_alloc | apply Kd.R_drewN | apply Kd.R_drew)); exact HO_12.out) (Kd.R_base ho35) hb)
                      have n2_ := Aside0.mk (Kd.R_lower (Kd.R_newB (Kd.R_newB (Kd.R_new' ho35 (Kd.R_lt (by (with_reducible repeat (first | apply Kd.R_alloc | apply Kd.R_drewN | apply Kd.R_drew)); exact HO_12.out))) (g := gb145) (o := .cells #[.int .i64 a2_0, .int .i64 a2_1] 24 (0, 0)) (by (with_reducible repeat (first | refine blk_drewN ?_ _ | refine blk_drew ?_ | refine blk_alloc ?_ _)); exact BK145.out)) (g := gb146) (o := .cells #[.int .i64 (wrap64 (Int.tdiv x147000_1 2)), .int .i64 x147001_1] 24 (0, 0)) (by (with_reducible repeat (first | refine blk_drewN ?_ _ | refine blk_drew ?_ | refine blk_alloc ?_ _)); exact BK146.out)) (below_size (by repeat (first | (with_reducible first | exact HB.out | apply below_alloc | apply pw_below_drewN | apply below_drew1 | refine below_set ?_ GE145.out | refine below_set ?_ GE146.out | refine below_set ?_ GE153.out) | exact HB.out))))
                      have n3_ := Aside0.mk (blk_below (g := gb145) (o := .cells #[.int .i64 a2_0, .int .i64 a2_1] 24 (0, 0)) (by (with_reducible repeat (first | refine blk_drewN ?_ _ | refine blk_drew ?_ | refine blk_alloc ?_ _)); exact BK145.out) hb)
                      have n4_ := Aside0.mk (blk_below (g := gb146) (o := .cells #[.int .i64 (wrap64 (Int.tdiv x147000_1 2)), .int .i64 x147001_1] 24 (0, 0)) (by (with_reducible repeat (first | refine blk_drewN ?_ _ | refine blk_drew ?_ | refine blk_alloc ?_ _)); exact BK146.out) hb)
                      have n5_ := Aside0.mk (blk_below (g := gb153) (o := .cells #[.bool true, .int .i64 (wrap64 (Int.tdiv x147000_1 2)), .bool true] 56 (0, 0)) (by (with_reducible repeat (first | refine blk_drewN ?_ _ | refine blk_drew ?_ | refine blk_alloc ?_ _)); exact BK153.out) hb)
                      have n6_ := Aside0.mk (below_step (by repeat (first | (with_reducible first | exact HB.out | apply below_alloc | apply pw_below_drewN | apply below_drew1 | refine below_set ?_ GE145.out | refine below_set ?_ GE146.out | refine below_set ?_ GE153.out) | exact HB.out)) hb)
                      clear HO_11
                      clear HO_12
                      clear BK145
                      clear BK146
                      clear BK153
                      clear HB
                      have HO_11 := n0_
                      have HO_12 := n1_
                      have HO162 := n2_
                      have BK145 := n3_
                      have BK146 := n4_
                      have BK153 := n5_
                      have HB := n6_
                      clear n0_ n1_ n2_ n3_ n4_ n5_ n6_
                      clear hb ho35
                      refine hK.out _ _ ⟨(blk_cell BK153.out 0).trans rfl, (blk_cell BK153.out 1).trans rfl, (blk_cell BK153.out 2).trans rfl, (blk_cell BK146.out 0).trans rfl, (blk_cell BK146.out 1).trans rfl⟩ (fun hHeld => ?_)
                      clear hK K
                      refine norm_ (a' := ?_) ?_ ?_
                      rotate_left
                      · show Act.put _ (some 71) _ = _
                        simp only [Act.put, List.setIfInBounds_toArray, List.set_cons_zero, List.set_cons_succ, i64_w, i32_w]
                        rfl
                      refine one_ (i := 2) (N := some 67) #[true, true, true, false, true, true, true, false, false, false] rfl rfl (one_of HT_.out (by kernel_rfl)) (by decide) (fun K hK => ?_)
                      refine Kd.R_lit_step k56 _ 56 ?hg (N := 67) ?hd (xs := ([(⟨true, wrap64 (Int.tdiv x147000_1 2), true⟩ : S56)] : List (S56))) (inner := [.bool true, .int .i64 (wrap64 (Int.tdiv x147000_1 2)), .bool true]) (ok := fun _ => True) (okp := fun _ => True) ?hr ?hp (fun _ hk => hk) trivial (Below.refl _ _) (Nat.le_refl _) (by simp) ?_; (case hd => rfl); (case hg => rfl); (case hr => first | (go_simp; done) | (go_simp; rfl)); (case hp => exact (Reps.c3 (show Kd.M k56 _ _ _ (⟨true, wrap64 (Int.tdiv x147000_1 2), true⟩ : S56) [.bool true, .int .i64 (wrap64 (Int.tdiv x147000_1 2)), .bool true] from (k56_mkM _ _ _ (⟨true, wrap64 (Int.tdiv x147000_1 2), true⟩ : S56) )) (Reps.none _ _)))
                      intro v155 w36 ho37 hb hg_ hnew_
                      clear hg_ hnew_
                      (first | rw [← Ny154.out] at ho37 | (simp only [Int.reduceToNat] at ho37; rw [← Ny154.out] at ho37))
                      have n0_ := Aside0.mk (Kd.R_elder' (by (with_reducible repeat (first | apply Kd.R_alloc | apply Kd.R_drewN | apply Kd.R_drew)); exact HO_11.out) (Kd.R_base ho37) hb)
                      have n1_ := Aside0.mk (Kd.R_below (by (with_reducible repeat (first | apply Kd.R_alloc | apply Kd.R_drewN | apply Kd.R_drew)); exact HO_12.out) hb)
                      have n2_ := Aside0.mk (Kd.R_below (by (with_reducible repeat (first | apply Kd.R_alloc | apply Kd.R_drewN | apply Kd.R_drew)); exact HO162.out) hb)
                      have n3_ := Aside0.mk (Kd.R_lower (Kd.R_newB (Kd.R_new' ho37 (Kd.R_lt (by (with_reducible repeat (first | apply Kd.R_alloc | apply Kd.R_drewN | apply Kd.R_drew)); exact HO_11.out))) (g := gb153) (o := .cells #[.bool true, .int .i64 (wrap64 (Int.tdiv x147000_1 2)), .bool true] 56 (0, 0)) (by (with_reducible repeat (first | refine blk_drewN ?_ _ | refine blk_drew ?_ | refine blk_alloc ?_ _)); exact BK153.out)) (below_size (by repeat (first | (with_reducible first | exact HB.out | apply below_alloc | apply pw_below_drewN | apply below_drew1 | refine below_set ?_ GE145.out | refine below_set ?_ GE146.out | refine below_set ?_ GE153.out) | exact HB.out))))
                      have n4_ := Aside0.mk (blk_below (g := gb145) (o := .cells #[.int .i64 a2_0, .int .i64 a2_1] 24 (0, 0)) (by (with_reducible repeat (first | refine blk_drewN ?_ _ | refine blk_drew ?_ | refine blk_alloc ?_ _)); exact BK145.out) hb)
                      have n5_ := Aside0.mk (blk_below (g := gb146) (o := .cells #[.int .i64 (wrap64 (Int.tdiv x147000_1 2)), .int .i64 x147001_1] 24 (0, 0)) (by (with_reducible repeat (first | refine blk_drewN ?_ _ | refine blk_drew ?_ | refine blk_alloc ?_ _)); exact BK146.out) hb)
                      have n6_ := Aside0.mk (blk_below (g := gb153) (o := .cells #[.bool true, .int .i64 (wrap64 (Int.tdiv x147000_1 2)), .bool true] 56 (0, 0)) (by (with_reducible repeat (first | refine blk_drewN ?_ _ | refine blk_drew ?_ | refine blk_alloc ?_ _)); exact BK153.out) hb)
                      have n7_ := Aside0.mk (below_step (by repeat (first | (with_reducible first | exact HB.out | apply below_alloc | apply pw_below_drewN | apply below_drew1 | refine below_set ?_ GE145.out | refine below_set ?_ GE146.out | refine below_set ?_ GE153.out) | exact HB.out)) hb)
                      clear HO_11
                      clear HO_12
                      clear HO162
                      clear BK145
                      clear BK146
                      clear BK153
                      clear HB
                      have HO_11 := n0_
                      have HO_12 := n1_
                      have HO162 := n2_
                      have HO156 := n3_
                      have BK145 := n4_
                      have BK146 := n5_
                      have BK153 := n6_
                      have HB := n7_
                      clear n0_ n1_ n2_ n3_ n4_ n5_ n6_ n7_
                      clear hb ho37
                      obtain ⟨Ao39, co39, eo39⟩ := Kd.R_slice HO156.out
                      (first | subst eo39 | (injection eo39 with f1_ f2_ f3_; have f4_ := f1_.symm; have f5_ := f3_.symm; clear f1_ f2_ f3_; subst f4_; subst f5_))
                      refine hK.out _ _ ⟨(blk_cell BK153.out 0).trans rfl, (blk_cell BK153.out 1).trans rfl, (blk_cell BK153.out 2).trans rfl, (blk_cell BK146.out 0).trans rfl, (blk_cell BK146.out 1).trans rfl⟩ (fun hHeld => ?_)
                      clear hK K
                      refine norm_ (a' := ?_) ?_ ?_
                      rotate_left
                      · show Act.put _ (some 67) _ = _
                        simp only [Act.put, List.setIfInBounds_toArray, List.set_cons_zero, List.set_cons_succ, i64_w, i32_w]
                        rfl
                      refine one_ (i := 3) (N := some 68) #[true, true, true, true, true, true, true, false, false, false] rfl rfl (one_of HT_.out (by kernel_rfl)) (by decide) (fun K hK => ?_)
                      refine Kd.R_append_rows_step k56 (w0 := w) w.heap.size (by rfl) (.tmp 65) (.tmp 67) 30 56 (.agg #[(.bool false), (.int .i64 0), (.bool false)]) 24 rfl Tryd.underlying30 info56 rfl (by decide) (by omega) (.slice Ao30 x11_1.length co30) x11_1 y154 _ _ _ (fun k_ => some k_ ≠ (.slice Ao39 y154.length co39 : Value).ownBlock ∧ k_ ≠ gb153) (fun _ => False) rfl rfl ?aO ?aR (fun _ _ h => h) (fun _ h => h.elim) ?aF ?aB ?aS ?aL ?_
                      (case aR => repeat (first | exact (Kd.R_reads' HO156.out).2.2 | (with_reducible refine Kd.C_alloc ?_ _) | (with_reducible refine Kd.C_drewN ?_ _) | (with_reducible refine Kd.C_drew ?_)))
                      (case aB => exact (by repeat (first | (with_reducible first | exact HB.out | apply below_alloc | apply pw_below_drewN | apply below_drew1 | refine below_set ?_ GE145.out | refine below_set ?_ GE146.out | refine below_set ?_ GE153.out) | exact HB.out)))
                      (case aF => exact (fun k_ hk => ⟨Kd.fresh' (Kd.R_lt (by (with_reducible repeat (first | apply Kd.R_alloc | apply Kd.R_drewN | apply Kd.R_drew)); exact HO156.out)) k_ hk, Kd.freshB (g := gb153) (o := .cells #[.bool true, .int .i64 (wrap64 (Int.tdiv x147000_1 2)), .bool true] 56 (0, 0)) (by (with_reducible repeat (first | refine blk_drewN ?_ _ | refine blk_drew ?_ | refine blk_alloc ?_ _)); exact BK153.out) k_ hk⟩))
                      (case aO => exact (by (with_reducible repeat (first | apply Kd.R_alloc | apply Kd.R_drewN | apply Kd.R_drew)); exact Kd.R_mono HO_11.out (fun _ hk => ⟨hk.2, hk.1⟩)))
                      (case aS => exact (below_size (by repeat (first | (with_reducible first | exact HB.out | apply below_alloc | apply pw_below_drewN | apply below_drew1 | refine below_set ?_ GE145.out | refine below_set ?_ GE146.out | refine below_set ?_ GE153.out) | exact HB.out))))
                      (case aL => have := LMc22.out; omega)
                      intro v158 w38 ho hb hg hat
                      rw [← Ny157.out] at ho
                      have n0_ := Aside0.mk (Kd.R_over' (by (with_reducible repeat (first | apply Kd.R_alloc | apply Kd.R_drewN | apply Kd.R_drew)); exact HO_12.out) (Kd.R_typed (by (with_reducible repeat (first | apply Kd.R_alloc | apply Kd.R_drewN | apply Kd.R_drew)); exact HO_11.out)) (by decide) hg)
                      have n1_ := Aside0.mk (blk_grown (g := gb145) (o := .cells #[.int .i64 a2_0, .int .i64 a2_1] 24 (0, 0)) (by (with_reducible repeat (first | refine blk_drewN ?_ _ | refine blk_drew ?_ | refine blk_alloc ?_ _)); exact BK145.out) hg (Kd.R_ne HO_11.out BK145.out (by decide)))
                      have n2_ := Aside0.mk (blk_grown (g := gb146) (o := .cells #[.int .i64 (wrap64 (Int.tdiv x147000_1 2)), .int .i64 x147001_1] 24 (0, 0)) (by (with_reducible repeat (first | refine blk_drewN ?_ _ | refine blk_drew ?_ | refine blk_alloc ?_ _)); exact BK146.out) hg (Kd.R_ne HO_11.out BK146.out (by decide)))
                      have n3_ := Aside0.mk (blk_grown (g := gb153) (o := .cells #[.bool true, .int .i64 (wrap64 (Int.tdiv x147000_1 2)), .bool true] 56 (0, 0)) (by (with_reducible repeat (first | refine blk_drewN ?_ _ | refine blk_drew ?_ | refine blk_alloc ?_ _)); exact BK153.out) hg (Kd.R_away HO_11.out (fun _ hk => hk.1)))
                      have n4_ := Aside0.mk (Kd.R_over' (by (with_reducible repeat (first | apply Kd.R_alloc | apply Kd.R_drewN | apply Kd.R_drew)); exact HO162.out) (Kd.R_typed (by (with_reducible repeat (first | apply Kd.R_alloc | apply Kd.R_drewN | apply Kd.R_drew)); exact HO_11.out)) (by decide) hg)
                      have n5_ := Aside0.mk (Kd.R_after (ok := (fun k_ => k_ ≠ gb153)) (by (with_reducible repeat (first | apply Kd.R_alloc | apply Kd.R_drewN | apply Kd.R_drew)); exact Kd.R_mono HO156.out (fun _ hk => ⟨hk.2, hk.1.2⟩)) hg hat)
                      have n6_ := Aside0.mk (hb)
                      have n7_ := Aside0.mk (ho)
                      clear HO_12
                      clear BK145
                      clear BK146
                      clear BK153
                      clear HO162
                      clear HO156
                      clear HB
                      clear HO_11
                      have HO_12 := n0_
                      have BK145 := n1_
                      have BK146 := n2_
                      have BK153 := n3_
                      have HO162 := n4_
                      have HO156 := n5_
                      have HB := n6_
                      have HO159 := n7_
                      clear n0_ n1_ n2_ n3_ n4_ n5_ n6_ n7_
                      clear ho hb hg hat
                      refine hK.out _ _ ⟨(blk_cell BK153.out 0).trans rfl, (blk_cell BK153.out 1).trans rfl, (blk_cell BK153.out 2).trans rfl, (blk_cell BK146.out 0).trans rfl, (blk_cell BK146.out 1).trans rfl⟩ (fun hHeld => ?_)
                      clear hK K
                      refine norm_ (a' := ?_) ?_ ?_
                      rotate_left
                      · show Act.put _ (some 68) _ = _
                        simp only [Act.put, List.setIfInBounds_toArray, List.set_cons_zero, List.set_cons_succ, i64_w, i32_w]
                        rfl
                      exact norm_ (by simp only [putAll, Act.put, List.setIfInBounds_toArray, List.set_cons_zero, List.set_cons_succ]) (hCont (.slice Ao39 y154.length co39, v158, v161) _ ⟨hHeld, (by (with_reducible repeat (first | apply Kd.R_alloc | apply Kd.R_drewN | apply Kd.R_drew)); exact Kd.R_mono HO156.out (fun _ hk => ⟨hk.2, hk.1⟩)), (by (with_reducible repeat (first | apply Kd.R_alloc | apply Kd.R_drewN | apply Kd.R_drew)); exact HO159.out), (by (with_reducible repeat (first | apply Kd.R_alloc | apply Kd.R_drewN | apply Kd.R_drew)); exact Kd.R_mono HO162.out (fun _ hk => ⟨hk.1.1.2, ⟨hk.1.2, hk.2⟩⟩)), (by (with_reducible repeat (first | apply Kd.R_alloc | apply Kd.R_drewN | apply Kd.R_drew)); exact Kd.R_mono HO_12.out (fun _ hk => ⟨hk.2, ⟨hk.1.1, hk.1.2⟩⟩)), (by (with_reducible repeat (first | refine blk_drewN ?_ _ | refine blk_drew ?_ | refine blk_alloc ?_ _)); exact BK145.out), (by (with_reducible repeat (first | refine blk_drewN ?_ _ | refine blk_drew ?_ | refine blk_alloc ?_ _)); exact BK146.out), (by (with_reducible repeat (first | refine blk_drewN ?_ _ | refine blk_drew ?_ | refine blk_alloc ?_ _)); exact BK153.out), (by repeat (first | (with_reducible first | exact HB.out | apply below_alloc | apply pw_below_drewN | apply below_drew1 | refine below_set ?_ GE145.out | refine below_set ?_ GE146.out | refine below_set ?_ GE153.out) | exact HB.out))⟩)
                  rintro ⟨v155, v158, v161⟩ w40 ⟨hS_, h0_, h1_, h2_, h3_, h4_, h5_, h6_, h7_⟩
                  have n0_ : Aside0 (Kd.R k56 56 w40 w.heap.size (fun k_ => some k_ ≠ (v158 : Value).ownBlock ∧ k_ ≠ gb153) v155 y154) := ⟨h0_⟩
                  have n1_ : Aside0 (Kd.R k56 56 w40 w.heap.size (fun k_ => some k_ ≠ (v155 : Value).ownBlock ∧ k_ ≠ gb153) v158 y157) := ⟨h1_⟩
                  have n2_ : Aside0 (Kd.R k24 24 w40 w.heap.size (fun k_ => some k_ ≠ (.slice Ao31 x12_1.length co31 : Value).ownBlock ∧ k_ ≠ gb145 ∧ k_ ≠ gb146) v161 y160) := ⟨h2_⟩
                  have n3_ : Aside0 (Kd.R k24 24 w40 w.heap.size (fun k_ => some k_ ≠ (v161 : Value).ownBlock ∧ k_ ≠ gb145 ∧ k_ ≠ gb146) (.slice Ao31 x12_1.length co31) x12_1) := ⟨h3_⟩
                  have n4_ : Aside0 (w40.heap[gb145]? = some (.cells #[.int .i64 a2_0, .int .i64 a2_1] 24 (0, 0))) := ⟨h4_⟩
                  have n5_ : Aside0 (w40.heap[gb146]? = some (.cells #[.int .i64 (wrap64 (Int.tdiv x147000_1 2)), .int .i64 x147001_1] 24 (0, 0))) := ⟨h5_⟩
                  have n6_ : Aside0 (w40.heap[gb153]? = some (.cells #[.bool true, .int .i64 (wrap64 (Int.tdiv x147000_1 2)), .bool true] 56 (0, 0))) := ⟨h6_⟩
                  have n7_ : Aside0 (Below w.heap.size w w40) := ⟨h7_⟩
                  clear HO_11
                  clear HO_12
                  clear BK145
                  clear BK146
                  clear BK153
                  clear HB
                  clear h0_ h1_ h2_ h3_ h4_ h5_ h6_ h7_
                  have HO156 := n0_
                  have HO159 := n1_
                  have HO162 := n2_
                  have HO_12 := n3_
                  have BK145 := n4_
                  have BK146 := n5_
                  have BK153 := n6_
                  have HB := n7_
                  clear n0_ n1_ n2_ n3_ n4_ n5_ n6_ n7_
                  have hHeld : w40.cell? ⟨gb153, 0, none⟩ = some (.bool true) ∧ w40.cell? ⟨gb153, 1, none⟩ = some (.int .i64 (wrap64 (Int.tdiv x147000_1 2))) ∧ w40.cell? ⟨gb153, 2, none⟩ = some (.bool true) ∧ w40.cell? ⟨gb146, 0, none⟩ = some (.int .i64 (wrap64 (Int.tdiv x147000_1 2))) ∧ w40.cell? ⟨gb146, 1, none⟩ = some (.int .i64 x147001_1) := hS_
                  obtain ⟨Ao42, co42, eo42⟩ := Kd.R_slice HO162.out
                  (first | subst eo42 | (injection eo42 with f1_ f2_ f3_; have f4_ := f1_.symm; have f5_ := f3_.symm; clear f1_ f2_ f3_; subst f4_; subst f5_))
                  refine norm_ (a' := ?_) ?_ ?_
                  rotate_left
                  · simp only [putAll, Act.put, List.setIfInBounds_toArray, List.set_cons_zero, List.set_cons_succ]
                    rfl
                  refine one_ (i := 7) (N := some 72) #[true, true, true, true, true, true, true, true, false, false] rfl rfl (one_of HT_.out (by kernel_rfl)) (by decide) (fun K hK => ?_)
                  refine Kd.R_append_rows_step k24 (w0 := w) w.heap.size (by rfl) (.tmp 69) (.tmp 71) 51 24 (.agg #[(.int .i64 0), (.int .i64 0)]) 16 rfl Tryd.underlying51 info24 rfl (by decide) (by omega) (.slice Ao31 x12_1.length co31) x12_1 y160 _ _ _ (fun k_ => some k_ ≠ (.slice Ao42 y160.length co42 : Value).ownBlock ∧ k_ ≠ gb145 ∧ k_ ≠ gb146) (fun _ => False) rfl rfl ?aO ?aR (fun _ _ h => h) (fun _ h => h.elim) ?aF ?aB ?aS ?aL ?_
                  (case aR => repeat (first | exact (Kd.R_reads' HO162.out).2.2 | (with_reducible refine Kd.C_alloc ?_ _) | (with_reducible refine Kd.C_drewN ?_ _) | (with_reducible refine Kd.C_drew ?_)))
                  (case aB => exact (by repeat (first | (with_reducible first | exact HB.out | apply below_alloc | apply pw_below_drewN | apply below_drew1 | refine below_set ?_ GE145.out | refine below_set ?_ GE146.out | refine below_set ?_ GE153.out) | exact HB.out)))
                  (case aF => exact (fun k_ hk => ⟨Kd.fresh' (Kd.R_lt (by (with_reducible repeat (first | apply Kd.R_alloc | apply Kd.R_drewN | apply Kd.R_drew)); exact HO162.out)) k_ hk, Kd.freshB (g := gb145) (o := .cells #[.int .i64 a2_0, .int .i64 a2_1] 24 (0, 0)) (by (with_reducible repeat (first | refine blk_drewN ?_ _ | refine blk_drew ?_ | refine blk_alloc ?_ _)); exact BK145.out) k_ hk, Kd.freshB (g := gb146) (o := .cells #[.int .i64 (wrap64 (Int.tdiv x147000_1 2)), .int .i64 x147001_1] 24 (0, 0)) (by (with_reducible repeat (first | refine blk_drewN ?_ _ | refine blk_drew ?_ | refine blk_alloc ?_ _)); exact BK146.out) k_ hk⟩))
                  (case aO => exact (by (with_reducible repeat (first | apply Kd.R_alloc | apply Kd.R_drewN | apply Kd.R_drew)); exact HO_12.out))
                  (case aS => exact (below_size (by repeat (first | (with_reducible first | exact HB.out | apply below_alloc | apply pw_below_drewN | apply below_drew1 | refine below_set ?_ GE145.out | refine below_set ?_ GE146.out | refine below_set ?_ GE153.out) | exact HB.out))))
                  (case aL => have := LMc23.out; omega)
                  intro v164 w41 ho hb hg hat
                  rw [← Ny163.out] at ho
                  have n0_ := Aside0.mk (blk_grown (g := gb145) (o := .cells #[.int .i64 a2_0, .int .i64 a2_1] 24 (0, 0)) (by (with_reducible repeat (first | refine blk_drewN ?_ _ | refine blk_drew ?_ | refine blk_alloc ?_ _)); exact BK145.out) hg (Kd.R_away HO_12.out (fun _ hk => hk.2.1)))
                  have n1_ := Aside0.mk (blk_grown (g := gb146) (o := .cells #[.int .i64 (wrap64 (Int.tdiv x147000_1 2)), .int .i64 x147001_1] 24 (0, 0)) (by (with_reducible repeat (first | refine blk_drewN ?_ _ | refine blk_drew ?_ | refine blk_alloc ?_ _)); exact BK146.out) hg (Kd.R_away HO_12.out (fun _ hk => hk.2.2)))
                  have n2_ := Aside0.mk (blk_grown (g := gb153) (o := .cells #[.bool true, .int .i64 (wrap64 (Int.tdiv x147000_1 2)), .bool true] 56 (0, 0)) (by (with_reducible repeat (first | refine blk_drewN ?_ _ | refine blk_drew ?_ | refine blk_alloc ?_ _)); exact BK153.out) hg (Kd.R_ne HO_12.out BK153.out (by decide)))
                  have n3_ := Aside0.mk (Kd.R_over' (by (with_reducible repeat (first | apply Kd.R_alloc | apply Kd.R_drewN | apply Kd.R_drew)); exact HO156.out) (Kd.R_typed (by (with_reducible repeat (first | apply Kd.R_alloc | apply Kd.R_drewN | apply Kd.R_drew)); exact HO_12.out)) (by decide) hg)
                  have n4_ := Aside0.mk (Kd.R_over' (by (with_reducible repeat (first | apply Kd.R_alloc | apply Kd.R_drewN | apply Kd.R_drew)); exact HO159.out) (Kd.R_typed (by (with_reducible repeat (first | apply Kd.R_alloc | apply Kd.R_drewN | apply Kd.R_drew)); exact HO_12.out)) (by decide) hg)
                  have n5_ := Aside0.mk (Kd.R_after (ok := (fun k_ => k_ ≠ gb145 ∧ k_ ≠ gb146)) (by (with_reducible repeat (first | apply Kd.R_alloc | apply Kd.R_drewN | apply Kd.R_drew)); exact Kd.R_mono HO162.out (fun _ hk => ⟨⟨hk.2.1, hk.2.2⟩, hk.1⟩)) hg hat)
                  have n6_ := Aside0.mk (hb)
                  have n7_ := Aside0.mk (ho)
                  clear BK145
                  clear BK146
                  clear BK153
                  clear HO156
                  clear HO159
                  clear HO162
                  clear HB
                  clear HO_12
                  have BK145 := n0_
                  have BK146 := n1_
                  have BK153 := n2_
                  have HO156 := n3_
                  have HO159 := n4_
                  have HO162 := n5_
                  have HB := n6_
                  have HO165 := n7_
                  clear n0_ n1_ n2_ n3_ n4_ n5_ n6_ n7_
                  clear ho hb hg hat
                  refine hK.out _ _ ⟨(blk_cell BK153.out 0).trans rfl, (blk_cell BK153.out 1).trans rfl, (blk_cell BK153.out 2).trans rfl, (blk_cell BK146.out 0).trans rfl, (blk_cell BK146.out 1).trans rfl⟩ (fun hHeld => ?_)
                  clear hK K
                  refine norm_ (a' := ?_) ?_ ?_
                  rotate_left
                  · show Act.put _ (some 72) _ = _
                    simp only [Act.put, List.setIfInBounds_toArray, List.set_cons_zero, List.set_cons_succ, i64_w, i32_w]
                    rfl
                  refine pure_ (i := 8) (N := some 11) (v := ?_) (a' := ?_) #[true, true, true, true, true, true, true, true, true, false] rfl rfl (any_of HT_.out (by kernel_rfl)) (fun _ _ _ h => h) (Or.inl ⟨by rfl, ?_⟩) ?_ ?_
                  rotate_left
                  · intro w'
                    go_simp
                    with_reducible rfl
                  rotate_left
                  · simp only [Act.put, List.setIfInBounds_toArray, List.set_cons_zero, List.set_cons_succ, i64_w, i32_w]
                    rfl
                  refine pure_ (i := 9) (N := some 12) (v := ?_) (a' := ?_) #[true, true, true, true, true, true, true, true, true, true] rfl rfl (any_of HT_.out (by kernel_rfl)) (fun _ _ _ h => h) (Or.inl ⟨by rfl, ?_⟩) ?_ ?_
                  rotate_left
                  · intro w'
                    go_simp
                    with_reducible rfl
                  rotate_left
                  · simp only [Act.put, List.setIfInBounds_toArray, List.set_cons_zero, List.set_cons_succ, i64_w, i32_w]
                    rfl
                  refine done_ (done_of HT_.out (by kernel_rfl)) ?_
                  try go_wp2
                  go_roundg k1
                  case measure => have := HK1.out; omega
                  case rel => exact ⟨(y157), (y163), (wrap64 (x30_1 + 1)), (wrap64 (Int.tdiv x147000_1 2)), (x147001_1), (by first | rfl | (simp; done) | (simp [*]; done)), H', ⟨by have := HK1.out; omega⟩, ⟨by (with_reducible repeat (first | apply Kd.R_alloc | apply Kd.R_drewN | apply Kd.R_drew)); exact Kd.R_mono HO159.out (fun _ hk => trivial)⟩, ⟨by (with_reducible repeat (first | apply Kd.R_alloc | apply Kd.R_drewN | apply Kd.R_drew)); exact Kd.R_mono HO165.out (fun _ hk => ⟨hk.2.1, hk.2.2⟩)⟩, ⟨by (with_reducible repeat (first | refine blk_drewN ?_ _ | refine blk_drew ?_ | refine blk_alloc ?_ _)); exact BK145.out⟩, ⟨by (with_reducible repeat (first | refine blk_drewN ?_ _ | refine blk_drew ?_ | refine blk_alloc ?_ _)); exact BK146.out⟩, ⟨by repeat (first | (with_reducible first | exact HB.out | apply below_alloc | apply pw_below_drewN | apply below_drew1 | refine below_set ?_ GE145.out | refine below_set ?_ GE146.out | refine below_set ?_ GE153.out) | exact HB.out)⟩⟩
                · rw [if_neg c23] at H
                  exact absurd H (by simp)
              · rw [if_neg c22] at H
                exact absurd H (by simp)
            · rw [if_neg c21] at H
              have c21b0 : ((bt a3 x30_1) == 76) = false := beq_eq_false_iff_ne.mpr c21
              have c21b1 : ((bt a3 x30_1) != 76) = true := bne_iff_ne.mpr c21
              by_cases c43 : (bt a3 x30_1) = 82
              · rw [if_pos c43] at H
                have c43b0 : ((bt a3 x30_1) == 82) = true := beq_iff_eq.mpr c43
                have c43b1 : ((bt a3 x30_1) != 82) = false := bne_eq_false_iff_eq.mpr c43
                clear c43
                obtain ⟨y167, hy167⟩ : ∃ y_ : List (S56), y_ = (([(⟨true, wrap64 (Int.tdiv x147000_1 2), ((bt a3 x30_1) == 84)⟩ : S56)] : List (S56))) := ⟨_, rfl⟩
                replace H : (if x11_1.length + y167.length < 5864062014805 then ((some (([(⟨wrap64 (Int.tdiv x147000_1 2), x147001_1⟩ : S24)] : List (S24)) : List (S24))).bind fun y173 => (if x12_1.length + y173.length < 8796093022208 then (impl_setupOf.l0 k1 a3 (x11_1 ++ y167) (x12_1 ++ y173) (a3.size : Int) (wrap64 (x30_1 + 1)) (wrap64 (Int.tdiv x147000_1 2)) x147001_1) else (none))) else (none)) = some (r1, r2) := by first | (rw [hy167]; with_reducible exact H) | (have H2_ := (Option.bind_some _ _).symm.trans H; rw [hy167]; with_reducible exact H2_) | (have H2_ := (Option.bind_some _ _).symm.trans H; with_reducible exact H2_) | with_reducible exact H | (rw [hy167]; exact H) | exact H
                have Ny167 := Aside0.mk hy167
                clear hy167
                by_cases c44 : x11_1.length + y167.length < 5864062014805
                · rw [if_pos c44] at H
                  have LMc44 := Aside0.mk c44
                  clear c44
                  obtain ⟨y170, hy170⟩ : ∃ y_ : List (S56), y_ = (x11_1 ++ y167) := ⟨_, rfl⟩
                  replace H : ((some (([(⟨wrap64 (Int.tdiv x147000_1 2), x147001_1⟩ : S24)] : List (S24)) : List (S24))).bind fun y173 => (if x12_1.length + y173.length < 8796093022208 then (impl_setupOf.l0 k1 a3 y170 (x12_1 ++ y173) (a3.size : Int) (wrap64 (x30_1 + 1)) (wrap64 (Int.tdiv x147000_1 2)) x147001_1) else (none))) = some (r1, r2) := by first | (rw [hy170]; with_reducible exact H) | (have H2_ := (Option.bind_some _ _).symm.trans H; rw [hy170]; with_reducible exact H2_) | (have H2_ := (Option.bind_some _ _).symm.trans H; with_reducible exact H2_) | with_reducible exact H | (rw [hy170]; exact H) | exact H
                  have Ny170 := Aside0.mk hy170
                  clear hy170
                  obtain ⟨y173, hy173⟩ : ∃ y_ : List (S24), y_ = (([(⟨wrap64 (Int.tdiv x147000_1 2), x147001_1⟩ : S24)] : List (S24))) := ⟨_, rfl⟩
                  replace H : (if x12_1.length + y173.length < 8796093022208 then (impl_setupOf.l0 k1 a3 y170 (x12_1 ++ y173) (a3.size : Int) (wrap64 (x30_1 + 1)) (wrap64 (Int.tdiv x147000_1 2)) x147001_1) else (none)) = some (r1, r2) := by first | (rw [hy173]; with_reducible exact H) | (have H2_ := (Option.bind_some _ _).symm.trans H; rw [hy173]; with_reducible exact H2_) | (have H2_ := (Option.bind_some _ _).symm.trans H; with_reducible exact H2_) | with_reducible exact H | (rw [hy173]; exact H) | exact H
                  have Ny173 := Aside0.mk hy173
                  clear hy173
                  by_cases c45 : x12_1.length + y173.length < 8796093022208
                  · rw [if_pos c45] at H
                    have LMc45 := Aside0.mk c45
                    clear c45
                    obtain ⟨y176, hy176⟩ : ∃ y_ : List (S24), y_ = (x12_1 ++ y173) := ⟨_, rfl⟩
                    replace H : (impl_setupOf.l0 k1 a3 y170 y176 (a3.size : Int) (wrap64 (x30_1 + 1)) (wrap64 (Int.tdiv x147000_1 2)) x147001_1) = some (r1, r2) := by first | (rw [hy176]; with_reducible exact H) | (have H2_ := (Option.bind_some _ _).symm.trans H; rw [hy176]; with_reducible exact H2_) | (have H2_ := (Option.bind_some _ _).symm.trans H; with_reducible exact H2_) | with_reducible exact H | (rw [hy176]; exact H) | exact H
                    have Ny176 := Aside0.mk hy176
                    clear hy176
                    have H' := Aside0.mk H
                    clear H
                    have p20 : 0 ≤ (x30_1 : Int) := of_decide_eq_true (by first | (with_reducible assumption) | assumption)
                    have q20 : x30_1 < (a3.size : Int) := of_decide_eq_true (by first | (with_reducible assumption) | assumption)
                    have hx20 := bt_at a3 x30_1
                    replace p20 := eq_true p20
                    replace q20 := eq_true q20
                    try go_wp2_with (first | ((with_reducible refine gate_dst (N := 15) rfl ?_); refine box_event ?hg (N := 15) ?hd (cs := #[.bool false, .int .i64 0, .bool false]) (t := 56) ?hr ?_; (case hd => rfl); (case hg => rfl); (case hr => first | (go_simp; done) | (go_simp; rfl)); intro gb166 hg w46 hbox hb; have n0_ := Aside0.mk (Kd.R_below (Kd.R_elderB (by (with_reducible repeat (first | apply Kd.R_alloc | apply Kd.R_drewN | apply Kd.R_drew)); exact HO_11.out) gb166 (Nat.le_of_eq hg.symm)) hb); have n1_ := Aside0.mk (Kd.R_below (by (with_reducible repeat (first | apply Kd.R_alloc | apply Kd.R_drewN | apply Kd.R_drew)); exact HO_12.out) hb); have n2_ := Aside0.mk (blk_below (g := gb145) (o := .cells #[.int .i64 a2_0, .int .i64 a2_1] 24 (0, 0)) (by (with_reducible repeat (first | refine blk_drewN ?_ _ | refine blk_drew ?_ | refine blk_alloc ?_ _)); exact BK145.out) hb); have n3_ := Aside0.mk (blk_below (g := gb146) (o := .cells #[.int .i64 x147000_1, .int .i64 x147001_1] 24 (0, 0)) (by (with_reducible repeat (first | refine blk_drewN ?_ _ | refine blk_drew ?_ | refine blk_alloc ?_ _)); exact BK146.out) hb); have n4_ := Aside0.mk (below_step (by repeat (first | (with_reducible first | exact HB.out | apply below_alloc | apply pw_below_drewN | apply below_drew1 | refine below_set ?_ GE145.out | refine below_set ?_ GE146.out) | exact HB.out)) hb); have n5_ := Aside0.mk (hbox); have n6_ := Aside0.mk ((by rw [hg]; exact (below_size (by repeat (first | (with_reducible first | exact HB.out | apply below_alloc | apply pw_below_drewN | apply below_drew1 | refine below_set ?_ GE145.out | refine below_set ?_ GE146.out) | exact HB.out))) : w.heap.size ≤ gb166)); have n7_ := Aside0.mk ((by rw [hg]; exact (below_size (by repeat (first | (with_reducible first | exact HB.out | apply below_alloc | apply pw_below_drewN | apply below_drew1 | refine below_set ?_ GE145.out | refine below_set ?_ GE146.out) | exact HB.out))) : w.heap.size ≤ gb166)); have n8_ := Aside0.mk ((by rw [hg]; exact Nat.ne_of_lt (blk_lt (g := gb145) (o := .cells #[.int .i64 a2_0, .int .i64 a2_1] 24 (0, 0)) (by (with_reducible repeat (first | refine blk_drewN ?_ _ | refine blk_drew ?_ | refine blk_alloc ?_ _)); exact BK145.out)) : gb145 ≠ gb166)); have n9_ := Aside0.mk ((by rw [hg]; exact Nat.ne_of_gt (blk_lt (g := gb145) (o := .cells #[.int .i64 a2_0, .int .i64 a2_1] 24 (0, 0)) (by (with_reducible repeat (first | refine blk_drewN ?_ _ | refine blk_drew ?_ | refine blk_alloc ?_ _)); exact BK145.out)) : gb166 ≠ gb145)); have n10_ := Aside0.mk ((by rw [hg]; exact Nat.ne_of_lt (blk_lt (g := gb146) (o := .cells #[.int .i64 x147000_1, .int .i64 x147001_1] 24 (0, 0)) (by (with_reducible repeat (first | refine blk_drewN ?_ _ | refine blk_drew ?_ | refine blk_alloc ?_ _)); exact BK146.out)) : gb146 ≠ gb166)); have n11_ := Aside0.mk ((by rw [hg]; exact Nat.ne_of_gt (blk_lt (g := gb146) (o := .cells #[.int .i64 x147000_1, .int .i64 x147001_1] 24 (0, 0)) (by (with_reducible repeat (first | refine blk_drewN ?_ _ | refine blk_drew ?_ | refine blk_alloc ?_ _)); exact BK146.out)) : gb166 ≠ gb146)); clear HO_11; clear HO_12; clear BK145; clear BK146; clear HB; have HO_11 := n0_; have HO_12 := n1_; have BK145 := n2_; have BK146 := n3_; have HB := n4_; have BK166 := n5_; have GW166 := n6_; have GE166 := n7_; have NB145_166 := n8_; have NB166_145 := n9_; have NB146_166 := n10_; have NB166_146 := n11_; clear n0_ n1_ n2_ n3_ n4_ n5_ n6_ n7_ n8_ n9_ n10_ n11_; clear hb hbox hg; have hnb47 := NB166_145.out; have hnc47 := NB145_166.out; have hnb48 := NB166_146.out; have hnc48 := NB146_166.out; have hcz49_0 : w46.cell? ⟨gb166, 0, none⟩ = some (.bool false) := (blk_cell BK166.out 0).trans rfl; have hcz49_1 : w46.cell? ⟨gb166, 1, none⟩ = some (.int .i64 0) := (blk_cell BK166.out 1).trans rfl; have hcz49_2 : w46.cell? ⟨gb166, 2, none⟩ = some (.bool false) := (blk_cell BK166.out 2).trans rfl; have hfz49_0 := blk_frozen BK166.out 0; have hfz49_1 := blk_frozen BK166.out 1; have hfz49_2 := blk_frozen BK166.out 2; have hnb50 := NB146_145.out; have hnc50 := NB145_146.out; have hcz51_0 : w46.cell? ⟨gb146, 0, none⟩ = some (.int .i64 x147000_1) := (blk_cell BK146.out 0).trans rfl; have hcz51_1 : w46.cell? ⟨gb146, 1, none⟩ = some (.int .i64 x147001_1) := (blk_cell BK146.out 1).trans rfl; have hfz51_0 := blk_frozen BK146.out 0; have hfz51_1 := blk_frozen BK146.out 1; obtain ⟨Ao52, co52, eo52⟩ := Kd.R_slice HO_11.out; subst eo52; obtain ⟨Ao53, co53, eo53⟩ := Kd.R_slice HO_12.out; subst eo53))
                    have n0_ : Aside0 (Kd.R k56 56 (((((w46.setCell ⟨gb166, 0, none⟩ (.bool true)).setCell ⟨gb166, 1, none⟩ (.int .i64 0)).setCell ⟨gb166, 2, none⟩ (.bool ((bt a3 x30_1) == 84))).setCell ⟨gb146, 0, none⟩ (.int .i64 (wrap64 (Int.tdiv x147000_1 2)))).setCell ⟨gb166, 1, none⟩ (.int .i64 (wrap64 (Int.tdiv x147000_1 2)))) w.heap.size (fun k_ => k_ ≠ gb166) (.slice Ao52 x11_1.length co52) x11_1) := ⟨by (with_reducible repeat (first | apply Kd.R_alloc | apply Kd.R_drewN | apply Kd.R_drew)); exact Kd.R_mono (Kd.R_far (p := ⟨gb166, 1, none⟩) (Kd.R_far (p := ⟨gb146, 0, none⟩) (Kd.R_far (p := ⟨gb166, 2, none⟩) (Kd.R_far (p := ⟨gb166, 1, none⟩) (Kd.R_far (p := ⟨gb166, 0, none⟩) (Kd.R_types (Kd.R_mono HO_11.out (fun k_ hk => (⟨hk, hk.2⟩ : _ ∧ k_ ≠ gb166))) BK146.out (by decide)) (fun _ hk => hk.1.2) (.bool true)) (fun _ hk => hk.1.2) (.int .i64 0)) (fun _ hk => hk.1.2) (.bool ((bt a3 x30_1) == 84))) (fun _ hk => hk.2) (.int .i64 (wrap64 (Int.tdiv x147000_1 2)))) (fun _ hk => hk.1.2) (.int .i64 (wrap64 (Int.tdiv x147000_1 2)))) (fun _ hk => hk.1.1.2)⟩
                    have n1_ : Aside0 (Kd.R k24 24 (((((w46.setCell ⟨gb166, 0, none⟩ (.bool true)).setCell ⟨gb166, 1, none⟩ (.int .i64 0)).setCell ⟨gb166, 2, none⟩ (.bool ((bt a3 x30_1) == 84))).setCell ⟨gb146, 0, none⟩ (.int .i64 (wrap64 (Int.tdiv x147000_1 2)))).setCell ⟨gb166, 1, none⟩ (.int .i64 (wrap64 (Int.tdiv x147000_1 2)))) w.heap.size (fun k_ => k_ ≠ gb145 ∧ k_ ≠ gb146) (.slice Ao53 x12_1.length co53) x12_1) := ⟨by (with_reducible repeat (first | apply Kd.R_alloc | apply Kd.R_drewN | apply Kd.R_drew)); exact Kd.R_mono (Kd.R_far (p := ⟨gb166, 1, none⟩) (Kd.R_far (p := ⟨gb146, 0, none⟩) (Kd.R_far (p := ⟨gb166, 2, none⟩) (Kd.R_far (p := ⟨gb166, 1, none⟩) (Kd.R_far (p := ⟨gb166, 0, none⟩) (Kd.R_mono (Kd.R_types HO_12.out BK166.out (by decide)) (fun k_ hk => (⟨hk, hk.1.2⟩ : _ ∧ k_ ≠ gb146))) (fun _ hk => hk.1.2) (.bool true)) (fun _ hk => hk.1.2) (.int .i64 0)) (fun _ hk => hk.1.2) (.bool ((bt a3 x30_1) == 84))) (fun _ hk => hk.2) (.int .i64 (wrap64 (Int.tdiv x147000_1 2)))) (fun _ hk => hk.1.2) (.int .i64 (wrap64 (Int.tdiv x147000_1 2)))) (fun _ hk => ⟨hk.1.1.1, hk.1.1.2⟩)⟩
                    have n2_ : Aside0 ((((((w46.setCell ⟨gb166, 0, none⟩ (.bool true)).setCell ⟨gb166, 1, none⟩ (.int .i64 0)).setCell ⟨gb166, 2, none⟩ (.bool ((bt a3 x30_1) == 84))).setCell ⟨gb146, 0, none⟩ (.int .i64 (wrap64 (Int.tdiv x147000_1 2)))).setCell ⟨gb166, 1, none⟩ (.int .i64 (wrap64 (Int.tdiv x147000_1 2)))).heap[gb145]? = some (.cells #[.int .i64 a2_0, .int .i64 a2_1] 24 (0, 0))) := ⟨by (with_reducible repeat (first | refine blk_drewN ?_ _ | refine blk_drew ?_ | refine blk_alloc ?_ _)); refine blk_far ?_ NB145_166.out _; (with_reducible repeat (first | refine blk_drewN ?_ _ | refine blk_drew ?_ | refine blk_alloc ?_ _)); refine blk_far ?_ NB145_146.out _; (with_reducible repeat (first | refine blk_drewN ?_ _ | refine blk_drew ?_ | refine blk_alloc ?_ _)); refine blk_far ?_ NB145_166.out _; (with_reducible repeat (first | refine blk_drewN ?_ _ | refine blk_drew ?_ | refine blk_alloc ?_ _)); refine blk_far ?_ NB145_166.out _; (with_reducible repeat (first | refine blk_drewN ?_ _ | refine blk_drew ?_ | refine blk_alloc ?_ _)); refine blk_far ?_ NB145_166.out _; (with_reducible repeat (first | refine blk_drewN ?_ _ | refine blk_drew ?_ | refine blk_alloc ?_ _)); exact BK145.out⟩
                    have n3_ : Aside0 ((((((w46.setCell ⟨gb166, 0, none⟩ (.bool true)).setCell ⟨gb166, 1, none⟩ (.int .i64 0)).setCell ⟨gb166, 2, none⟩ (.bool ((bt a3 x30_1) == 84))).setCell ⟨gb146, 0, none⟩ (.int .i64 (wrap64 (Int.tdiv x147000_1 2)))).setCell ⟨gb166, 1, none⟩ (.int .i64 (wrap64 (Int.tdiv x147000_1 2)))).heap[gb146]? = some (.cells #[.int .i64 (wrap64 (Int.tdiv x147000_1 2)), .int .i64 x147001_1] 24 (0, 0))) := ⟨by (with_reducible repeat (first | refine blk_drewN ?_ _ | refine blk_drew ?_ | refine blk_alloc ?_ _)); refine blk_far ?_ NB146_166.out _; (with_reducible repeat (first | refine blk_drewN ?_ _ | refine blk_drew ?_ | refine blk_alloc ?_ _)); refine blk_put (cs := #[.int .i64 x147000_1, .int .i64 x147001_1]) ?_ 0 _ rfl; (with_reducible repeat (first | refine blk_drewN ?_ _ | refine blk_drew ?_ | refine blk_alloc ?_ _)); refine blk_far ?_ NB146_166.out _; (with_reducible repeat (first | refine blk_drewN ?_ _ | refine blk_drew ?_ | refine blk_alloc ?_ _)); refine blk_far ?_ NB146_166.out _; (with_reducible repeat (first | refine blk_drewN ?_ _ | refine blk_drew ?_ | refine blk_alloc ?_ _)); refine blk_far ?_ NB146_166.out _; (with_reducible repeat (first | refine blk_drewN ?_ _ | refine blk_drew ?_ | refine blk_alloc ?_ _)); exact BK146.out⟩
                    have n4_ : Aside0 ((((((w46.setCell ⟨gb166, 0, none⟩ (.bool true)).setCell ⟨gb166, 1, none⟩ (.int .i64 0)).setCell ⟨gb166, 2, none⟩ (.bool ((bt a3 x30_1) == 84))).setCell ⟨gb146, 0, none⟩ (.int .i64 (wrap64 (Int.tdiv x147000_1 2)))).setCell ⟨gb166, 1, none⟩ (.int .i64 (wrap64 (Int.tdiv x147000_1 2)))).heap[gb166]? = some (.cells #[.bool true, .int .i64 (wrap64 (Int.tdiv x147000_1 2)), .bool ((bt a3 x30_1) == 84)] 56 (0, 0))) := ⟨by (with_reducible repeat (first | refine blk_drewN ?_ _ | refine blk_drew ?_ | refine blk_alloc ?_ _)); refine blk_put (cs := #[.bool true, .int .i64 0, .bool ((bt a3 x30_1) == 84)]) ?_ 1 _ rfl; (with_reducible repeat (first | refine blk_drewN ?_ _ | refine blk_drew ?_ | refine blk_alloc ?_ _)); refine blk_far ?_ NB166_146.out _; (with_reducible repeat (first | refine blk_drewN ?_ _ | refine blk_drew ?_ | refine blk_alloc ?_ _)); refine blk_put (cs := #[.bool true, .int .i64 0, .bool false]) ?_ 2 _ rfl; (with_reducible repeat (first | refine blk_drewN ?_ _ | refine blk_drew ?_ | refine blk_alloc ?_ _)); refine blk_put (cs := #[.bool true, .int .i64 0, .bool false]) ?_ 1 _ rfl; (with_reducible repeat (first | refine blk_drewN ?_ _ | refine blk_drew ?_ | refine blk_alloc ?_ _)); refine blk_put (cs := #[.bool false, .int .i64 0, .bool false]) ?_ 0 _ rfl; (with_reducible repeat (first | refine blk_drewN ?_ _ | refine blk_drew ?_ | refine blk_alloc ?_ _)); exact BK166.out⟩
                    have n5_ : Aside0 (Below w.heap.size w (((((w46.setCell ⟨gb166, 0, none⟩ (.bool true)).setCell ⟨gb166, 1, none⟩ (.int .i64 0)).setCell ⟨gb166, 2, none⟩ (.bool ((bt a3 x30_1) == 84))).setCell ⟨gb146, 0, none⟩ (.int .i64 (wrap64 (Int.tdiv x147000_1 2)))).setCell ⟨gb166, 1, none⟩ (.int .i64 (wrap64 (Int.tdiv x147000_1 2))))) := ⟨by repeat (first | (with_reducible first | exact HB.out | apply below_alloc | apply pw_below_drewN | apply below_drew1 | refine below_set ?_ GE145.out | refine below_set ?_ GE146.out | refine below_set ?_ GE166.out) | exact HB.out)⟩
                    (try clear HO_11)
                    (try clear HO_12)
                    (try clear BK145)
                    (try clear BK146)
                    (try clear BK166)
                    (try clear HB)
                    generalize (((((w46.setCell ⟨gb166, 0, none⟩ (.bool true)).setCell ⟨gb166, 1, none⟩ (.int .i64 0)).setCell ⟨gb166, 2, none⟩ (.bool ((bt a3 x30_1) == 84))).setCell ⟨gb146, 0, none⟩ (.int .i64 (wrap64 (Int.tdiv x147000_1 2)))).setCell ⟨gb166, 1, none⟩ (.int .i64 (wrap64 (Int.tdiv x147000_1 2)))) = w54 at n0_ n1_ n2_ n3_ n4_ n5_ ⊢
                    have HO_11 := n0_
                    have HO_12 := n1_
                    have BK145 := n2_
                    have BK146 := n3_
                    have BK166 := n4_
                    have HB := n5_
                    clear n0_ n1_ n2_ n3_ n4_ n5_
                    have n0_ := Aside0.mk (Kd.R_drew HO_11.out)
                    have n1_ := Aside0.mk (Kd.R_drew HO_12.out)
                    have n2_ := Aside0.mk (blk_drew BK145.out)
                    have n3_ := Aside0.mk (blk_drew BK146.out)
                    have n4_ := Aside0.mk (blk_drew BK166.out)
                    have n5_ := Aside0.mk (below_drew1 HB.out)
                    clear HO_11
                    clear HO_12
                    clear BK145
                    clear BK146
                    clear BK166
                    clear HB
                    have HO_11 := n0_
                    have HO_12 := n1_
                    have BK145 := n2_
                    have BK146 := n3_
                    have BK166 := n4_
                    have HB := n5_
                    clear n0_ n1_ n2_ n3_ n4_ n5_
                    refine start_ (n := 10) (S := fun w' => w'.cell? ⟨gb166, 0, none⟩ = some (.bool true) ∧ w'.cell? ⟨gb166, 1, none⟩ = some (.int .i64 (wrap64 (Int.tdiv x147000_1 2))) ∧ w'.cell? ⟨gb166, 2, none⟩ = some (.bool ((bt a3 x30_1) == 84)) ∧ w'.cell? ⟨gb146, 0, none⟩ = some (.int .i64 (wrap64 (Int.tdiv x147000_1 2))) ∧ w'.cell? ⟨gb146, 1, none⟩ = some (.int .i64 x147001_1)) (ds := []) #[false, false, false, false, false, false, false, false, false, false] (by kernel_rfl) rfl rfl ⟨(blk_cell BK166.out 0).trans rfl, (blk_cell BK166.out 1).trans rfl, (blk_cell BK166.out 2).trans rfl, (blk_cell BK146.out 0).trans rfl, (blk_cell BK146.out 1).trans rfl⟩ (fun hHeld => ?_); refine with_tabW impl_setupOf.tab13 impl_setupOf.bits13 (fun HT_ HW_ => ?_)
                    generalize w54.drew = w55 at HO_11 HO_12 BK145 BK146 BK166 HB hHeld ⊢
                    refine pure_ (i := 0) (N := some 65) (v := ?_) (a' := ?_) #[true, false, false, false, false, false, false, false, false, false] rfl rfl (any_of HT_.out (by kernel_rfl)) (fun _ _ _ h => h) (Or.inl ⟨by rfl, ?_⟩) ?_ ?_
                    rotate_left
                    · intro w'
                      go_simp
                      with_reducible rfl
                    rotate_left
                    · simp only [Act.put, List.setIfInBounds_toArray, List.set_cons_zero, List.set_cons_succ, i64_w, i32_w]
                      rfl
                    refine pure_ (i := 4) (N := some 69) (v := ?_) (a' := ?_) #[true, false, false, false, true, false, false, false, false, false] rfl rfl (any_of HT_.out (by kernel_rfl)) (fun _ _ _ h => h) (Or.inl ⟨by rfl, ?_⟩) ?_ ?_
                    rotate_left
                    · intro w'
                      go_simp
                      with_reducible rfl
                    rotate_left
                    · simp only [Act.put, List.setIfInBounds_toArray, List.set_cons_zero, List.set_cons_succ, i64_w, i32_w]
                      rfl
                    refine take_ (i := 1) (N := some 66) (v := ?_) (a' := ?_) #[true, true, false, false, true, false, false, false, false, false] rfl rfl (take_ofW HT_.out HW_.out (by kernel_rfl)) (fun _ _ _ h => h) (Or.inl ⟨by rfl, ?_⟩) hHeld ?_ ?_
                    rotate_left
                    · rintro w' ⟨s0, s1, s2, s3, s4⟩
                      go_simp
                      with_reducible rfl
                    rotate_left
                    · simp only [Act.put, List.setIfInBounds_toArray, List.set_cons_zero, List.set_cons_succ, i64_w, i32_w]
                      rfl
                    refine take_ (i := 5) (N := some 70) (v := ?_) (a' := ?_) #[true, true, false, false, true, true, false, false, false, false] rfl rfl (take_ofW HT_.out HW_.out (by kernel_rfl)) (fun _ _ _ h => h) (Or.inl ⟨by rfl, ?_⟩) hHeld ?_ ?_
                    rotate_left
                    · rintro w' ⟨s0, s1, s2, s3, s4⟩
                      go_simp
                      with_reducible rfl
                    rotate_left
                    · simp only [Act.put, List.setIfInBounds_toArray, List.set_cons_zero, List.set_cons_succ, i64_w, i32_w]
                      rfl
                    refine join_ (σ := Value × Value × Value) 3 #[true, true, true, true, true, true, true, false, false, false] (fun s_ => [(67, s_.1), (68, s_.2.1), (71, s_.2.2)]) (fun s_ w' => (w'.cell? ⟨gb166, 0, none⟩ = some (.bool true) ∧ w'.cell? ⟨gb166, 1, none⟩ = some (.int .i64 (wrap64 (Int.tdiv x147000_1 2))) ∧ w'.cell? ⟨gb166, 2, none⟩ = some (.bool ((bt a3 x30_1) == 84)) ∧ w'.cell? ⟨gb146, 0, none⟩ = some (.int .i64 (wrap64 (Int.tdiv x147000_1 2))) ∧ w'.cell? ⟨gb146, 1, none⟩ = some (.int .i64 x147001_1)) ∧ (Kd.R k56 56 w' w.heap.size (fun k_ => some k_ ≠ (s_.2.1 : Value).ownBlock ∧ k_ ≠ gb166) s_.1 y167) ∧ (Kd.R k56 56 w' w.heap.size (fun k_ => some k_ ≠ (s_.1 : Value).ownBlock ∧ k_ ≠ gb166) s_.2.1 y170) ∧ (Kd.R k24 24 w' w.heap.size (fun k_ => some k_ ≠ (.slice Ao53 x12_1.length co53 : Value).ownBlock ∧ k_ ≠ gb145 ∧ k_ ≠ gb146) s_.2.2 y173) ∧ (Kd.R k24 24 w' w.heap.size (fun k_ => some k_ ≠ (s_.2.2 : Value).ownBlock ∧ k_ ≠ gb145 ∧ k_ ≠ gb146) (.slice Ao53 x12_1.length co53) x12_1) ∧ (w'.heap[gb145]? = some (.cells #[.int .i64 a2_0, .int .i64 a2_1] 24 (0, 0))) ∧ (w'.heap[gb146]? = some (.cells #[.int .i64 (wrap64 (Int.tdiv x147000_1 2)), .int .i64 x147001_1] 24 (0, 0))) ∧ (w'.heap[gb166]? = some (.cells #[.bool true, .int .i64 (wrap64 (Int.tdiv x147000_1 2)), .bool ((bt a3 x30_1) == 84)] 56 (0, 0))) ∧ (Below w.heap.size w w')) ?_ ?_
                    rotate_left
                    · intro hCont
                      refine two_ (i := 2) (j := 6) (Ni := some 67) (Nj := some 71) #[true, true, true, false, true, true, false, false, false, false] #[true, true, false, false, true, true, true, false, false, false] rfl rfl rfl rfl (two_of HT_.out (by kernel_rfl)) (by decide) (by decide) (fun K hK => ?_) (fun K hK => ?_)
                      · skip
                        refine Kd.R_lit_step k56 _ 56 ?hg (N := 67) ?hd (xs := ([(⟨true, wrap64 (Int.tdiv x147000_1 2), ((bt a3 x30_1) == 84)⟩ : S56)] : List (S56))) (inner := [.bool true, .int .i64 (wrap64 (Int.tdiv x147000_1 2)), .bool ((bt a3 x30_1) == 84)]) (ok := fun _ => True) (okp := fun _ => True) ?hr ?hp (fun _ hk => hk) trivial (Below.refl _ _) (Nat.le_refl _) (by simp) ?_; (case hd => rfl); (case hg => rfl); (case hr => first | (go_simp; done) | (go_simp; rfl)); (case hp => exact (Reps.c3 (show Kd.M k56 _ _ _ (⟨true, wrap64 (Int.tdiv x147000_1 2), ((bt a3 x30_1) == 84)⟩ : S56) [.bool true, .int .i64 (wrap64 (Int.tdiv x147000_1 2)), .bool ((bt a3 x30_1) == 84)] from (k56_mkM _ _ _ (⟨true, wrap64 (Int.tdiv x147000_1 2), ((bt a3 x30_1) == 84)⟩ : S56) )) (Reps.none _ _)))
                        intro v168 w56 ho57 hb hg_ hnew_
                        clear hg_ hnew_
                        (first | rw [← Ny167.out] at ho57 | (simp only [Int.reduceToNat] at ho57; rw [← Ny167.out] at ho57))
                        have n0_ := Aside0.mk (Kd.R_elder' (by (with_reducible repeat (first | apply Kd.R_alloc | apply Kd.R_drewN | apply Kd.R_drew)); exact HO_11.out) (Kd.R_base ho57) hb)
                        have n1_ := Aside0.mk (Kd.R_below (by (with_reducible repeat (first | apply Kd.R_alloc | apply Kd.R_drewN | apply Kd.R_drew)); exact HO_12.out) hb)
                        have n2_ := Aside0.mk (Kd.R_lower (Kd.R_newB (Kd.R_new' ho57 (Kd.R_lt (by (with_reducible repeat (first | apply Kd.R_alloc | apply Kd.R_drewN | apply Kd.R_drew)); exact HO_11.out))) (g := gb166) (o := .cells #[.bool true, .int .i64 (wrap64 (Int.tdiv x147000_1 2)), .bool ((bt a3 x30_1) == 84)] 56 (0, 0)) (by (with_reducible repeat (first | refine blk_drewN ?_ _ | refine blk_drew ?_ | refine blk_alloc ?_ _)); exact BK166.out)) (below_size (by repeat (first | (with_reducible first | exact HB.out | apply below_alloc | apply pw_below_drewN | apply below_drew1 | refine below_set ?_ GE145.out | refine below_set ?_ GE146.out | refine below_set ?_ GE166.out) | exact HB.out))))
                        have n3_ := Aside0.mk (blk_below (g := gb145) (o := .cells #[.int .i64 a2_0, .int .i64 a2_1] 24 (0, 0)) (by (with_reducible repeat (first | refine blk_drewN ?_ _ | refine blk_drew ?_ | refine blk_alloc ?_ _)); exact BK145.out) hb)
                        have n4_ := Aside0.mk (blk_below (g := gb146) (o := .cells #[.int .i64 (wrap64 (Int.tdiv x147000_1 2)), .int .i64 x147001_1] 24 (0, 0)) (by (with_reducible repeat (first | refine blk_drewN ?_ _ | refine blk_drew ?_ | refine blk_alloc ?_ _)); exact BK146.out) hb)
                        have n5_ := Aside0.mk (blk_below (g := gb166) (o := .cells #[.bool true, .int .i64 (wrap64 (Int.tdiv x147000_1 2)), .bool ((bt a3 x30_1) == 84)] 56 (0, 0)) (by (with_reducible repeat (first | refine blk_drewN ?_ _ | refine blk_drew ?_ | refine blk_alloc ?_ _)); exact BK166.out) hb)
                        have n6_ := Aside0.mk (below_step (by repeat (first | (with_reducible first | exact HB.out | apply below_alloc | apply pw_below_drewN | apply below_drew1 | refine below_set ?_ GE145.out | refine below_set ?_ GE146.out | refine below_set ?_ GE166.out) | exact HB.out)) hb)
                        clear HO_11
                        clear HO_12
                        clear BK145
                        clear BK146
                        clear BK166
                        clear HB
                        have HO_11 := n0_
                        have HO_12 := n1_
                        have HO169 := n2_
                        have BK145 := n3_
                        have BK146 := n4_
                        have BK166 := n5_
                        have HB := n6_
                        clear n0_ n1_ n2_ n3_ n4_ n5_ n6_
                        clear hb ho57
                        obtain ⟨Ao59, co59, eo59⟩ := Kd.R_slice HO169.out
                        (first | subst eo59 | (injection eo59 with f1_ f2_ f3_; have f4_ := f1_.symm; have f5_ := f3_.symm; clear f1_ f2_ f3_; subst f4_; subst f5_))
                        refine hK.out _ _ ⟨(blk_cell BK166.out 0).trans rfl, (blk_cell BK166.out 1).trans rfl, (blk_cell BK166.out 2).trans rfl, (blk_cell BK146.out 0).trans rfl, (blk_cell BK146.out 1).trans rfl⟩ (fun hHeld => ?_)
                        clear hK K
                        refine norm_ (a' := ?_) ?_ ?_
                        rotate_left
                        · show Act.put _ (some 67) _ = _
                          simp only [Act.put, List.setIfInBounds_toArray, List.set_cons_zero, List.set_cons_succ, i64_w, i32_w]
                          rfl
                        refine two_ (i := 3) (j := 6) (Ni := some 68) (Nj := some 71) #[true, true, true, true, true, true, false, false, false, false] #[true, true, true, false, true, true, true, false, false, false] rfl rfl rfl rfl (two_of HT_.out (by kernel_rfl)) (by decide) (by decide) (fun K hK => ?_) (fun K hK => ?_)
                        · skip
                          refine Kd.R_append_rows_step k56 (w0 := w) w.heap.size (by rfl) (.tmp 65) (.tmp 67) 30 56 (.agg #[(.bool false), (.int .i64 0), (.bool false)]) 24 rfl Tryd.underlying30 info56 rfl (by decide) (by omega) (.slice Ao52 x11_1.length co52) x11_1 y167 _ _ _ (fun k_ => some k_ ≠ (.slice Ao59 y167.length co59 : Value).ownBlock ∧ k_ ≠ gb166) (fun _ => False) rfl rfl ?aO ?aR (fun _ _ h => h) (fun _ h => h.elim) ?aF ?aB ?aS ?aL ?_
                          (case aR => repeat (first | exact (Kd.R_reads' HO169.out).2.2 | (with_reducible refine Kd.C_alloc ?_ _) | (with_reducible refine Kd.C_drewN ?_ _) | (with_reducible refine Kd.C_drew ?_)))
                          (case aB => exact (by repeat (first | (with_reducible first | exact HB.out | apply below_alloc | apply pw_below_drewN | apply below_drew1 | refine below_set ?_ GE145.out | refine below_set ?_ GE146.out | refine below_set ?_ GE166.out) | exact HB.out)))
                          (case aF => exact (fun k_ hk => ⟨Kd.fresh' (Kd.R_lt (by (with_reducible repeat (first | apply Kd.R_alloc | apply Kd.R_drewN | apply Kd.R_drew)); exact HO169.out)) k_ hk, Kd.freshB (g := gb166) (o := .cells #[.bool true, .int .i64 (wrap64 (Int.tdiv x147000_1 2)), .bool ((bt a3 x30_1) == 84)] 56 (0, 0)) (by (with_reducible repeat (first | refine blk_drewN ?_ _ | refine blk_drew ?_ | refine blk_alloc ?_ _)); exact BK166.out) k_ hk⟩))
                          (case aO => exact (by (with_reducible repeat (first | apply Kd.R_alloc | apply Kd.R_drewN | apply Kd.R_drew)); exact Kd.R_mono HO_11.out (fun _ hk => ⟨hk.2, hk.1⟩)))
                          (case aS => exact (below_size (by repeat (first | (with_reducible first | exact HB.out | apply below_alloc | apply pw_below_drewN | apply below_drew1 | refine below_set ?_ GE145.out | refine below_set ?_ GE146.out | refine below_set ?_ GE166.out) | exact HB.out))))
                          (case aL => have := LMc44.out; omega)
                          intro v171 w58 ho hb hg hat
                          rw [← Ny170.out] at ho
                          have n0_ := Aside0.mk (Kd.R_over' (by (with_reducible repeat (first | apply Kd.R_alloc | apply Kd.R_drewN | apply Kd.R_drew)); exact HO_12.out) (Kd.R_typed (by (with_reducible repeat (first | apply Kd.R_alloc | apply Kd.R_drewN | apply Kd.R_drew)); exact HO_11.out)) (by decide) hg)
                          have n1_ := Aside0.mk (blk_grown (g := gb145) (o := .cells #[.int .i64 a2_0, .int .i64 a2_1] 24 (0, 0)) (by (with_reducible repeat (first | refine blk_drewN ?_ _ | refine blk_drew ?_ | refine blk_alloc ?_ _)); exact BK145.out) hg (Kd.R_ne HO_11.out BK145.out (by decide)))
                          have n2_ := Aside0.mk (blk_grown (g := gb146) (o := .cells #[.int .i64 (wrap64 (Int.tdiv x147000_1 2)), .int .i64 x147001_1] 24 (0, 0)) (by (with_reducible repeat (first | refine blk_drewN ?_ _ | refine blk_drew ?_ | refine blk_alloc ?_ _)); exact BK146.out) hg (Kd.R_ne HO_11.out BK146.out (by decide)))
                          have n3_ := Aside0.mk (blk_grown (g := gb166) (o := .cells #[.bool true, .int .i64 (wrap64 (Int.tdiv x147000_1 2)), .bool ((bt a3 x30_1) == 84)] 56 (0, 0)) (by (with_reducible repeat (first | refine blk_drewN ?_ _ | refine blk_drew ?_ | refine blk_alloc ?_ _)); exact BK166.out) hg (Kd.R_away HO_11.out (fun _ hk => hk.1)))
                          have n4_ := Aside0.mk (Kd.R_after (ok := (fun k_ => k_ ≠ gb166)) (by (with_reducible repeat (first | apply Kd.R_alloc | apply Kd.R_drewN | apply Kd.R_drew)); exact Kd.R_mono HO169.out (fun _ hk => ⟨hk.2, hk.1.2⟩)) hg hat)
                          have n5_ := Aside0.mk (hb)
                          have n6_ := Aside0.mk (ho)
                          clear HO_12
                          clear BK145
                          clear BK146
                          clear BK166
                          clear HO169
                          clear HB
                          clear HO_11
                          have HO_12 := n0_
                          have BK145 := n1_
                          have BK146 := n2_
                          have BK166 := n3_
                          have HO169 := n4_
                          have HB := n5_
                          have HO172 := n6_
                          clear n0_ n1_ n2_ n3_ n4_ n5_ n6_
                          clear ho hb hg hat
                          refine hK.out _ _ ⟨(blk_cell BK166.out 0).trans rfl, (blk_cell BK166.out 1).trans rfl, (blk_cell BK166.out 2).trans rfl, (blk_cell BK146.out 0).trans rfl, (blk_cell BK146.out 1).trans rfl⟩ (fun hHeld => ?_)
                          clear hK K
                          refine norm_ (a' := ?_) ?_ ?_
                          rotate_left
                          · show Act.put _ (some 68) _ = _
                            simp only [Act.put, List.setIfInBounds_toArray, List.set_cons_zero, List.set_cons_succ, i64_w, i32_w]
                            rfl
                          refine one_ (i := 6) (N := some 71) #[true, true, true, true, true, true, true, false, false, false] rfl rfl (one_of HT_.out (by kernel_rfl)) (by decide) (fun K hK => ?_)
                          refine Kd.R_lit_step k24 _ 24 ?hg (N := 71) ?hd (xs := ([(⟨wrap64 (Int.tdiv x147000_1 2), x147001_1⟩ : S24)] : List (S24))) (inner := [.int .i64 (wrap64 (Int.tdiv x147000_1 2)), .int .i64 x147001_1]) (ok := fun _ => True) (okp := fun _ => True) ?hr ?hp (fun _ hk => hk) trivial (Below.refl _ _) (Nat.le_refl _) (by simp) ?_; (case hd => rfl); (case hg => rfl); (case hr => first | (go_simp; done) | (go_simp; rfl)); (case hp => exact (Reps.c2 (show Kd.M k24 _ _ _ (⟨wrap64 (Int.tdiv x147000_1 2), x147001_1⟩ : S24) [.int .i64 (wrap64 (Int.tdiv x147000_1 2)), .int .i64 x147001_1] from (k24_mkM _ _ _ (⟨wrap64 (Int.tdiv x147000_1 2), x147001_1⟩ : S24) )) (Reps.none _ _)))
                          intro v174 w60 ho61 hb hg_ hnew_
                          clear hg_ hnew_
                          (first | rw [← Ny173.out] at ho61 | (simp only [Int.reduceToNat] at ho61; rw [← Ny173.out] at ho61))
                          have n0_ := Aside0.mk (Kd.R_elder' (by (with_reducible repeat (first | apply Kd.R_alloc | apply Kd.R_drewN | apply Kd.R_drew)); exact HO_12.out) (Kd.R_base ho61) hb)
                          have n1_ := Aside0.mk (Kd.R_below (by (with_reducible repeat (first | apply Kd.R_alloc | apply Kd.R_drewN | apply Kd.R_drew)); exact HO169.out) hb)
                          have n2_ := Aside0.mk (Kd.R_below (by (with_reducible repeat (first | apply Kd.R_alloc | apply Kd.R_drewN | apply Kd.R_drew)); exact HO172.out) hb)
                          have n3_ := Aside0.mk (Kd.R_lower (Kd.R_newB (Kd.R_newB (Kd.R_new' ho61 (Kd.R_lt (by (with_reducible repeat (first | apply Kd.R_alloc | apply Kd.R_drewN | apply Kd.R_drew)); exact HO_12.out))) (g := gb145) (o := .cells #[.int .i64 a2_0, .int .i64 a2_1] 24 (0, 0)) (by (with_reducible repeat (first | refine blk_drewN ?_ _ | refine blk_drew ?_ | refine blk_alloc ?_ _)); exact BK145.out)) (g := gb146) (o := .cells #[.int .i64 (wrap64 (Int.tdiv x147000_1 2)), .int .i64 x147001_1] 24 (0, 0)) (by (with_reducible repeat (first | refine blk_drewN ?_ _ | refine blk_drew ?_ | refine blk_alloc ?_ _)); exact BK146.out)) (below_size (by repeat (first | (with_reducible first | exact HB.out | apply below_alloc | apply pw_below_drewN | apply below_drew1 | refine below_set ?_ GE145.out | refine below_set ?_ GE146.out | refine below_set ?_ GE166.out) | exact HB.out))))
                          have n4_ := Aside0.mk (blk_below (g := gb145) (o := .cells #[.int .i64 a2_0, .int .i64 a2_1] 24 (0, 0)) (by (with_reducible repeat (first | refine blk_drewN ?_ _ | refine blk_drew ?_ | refine blk_alloc ?_ _)); exact BK145.out) hb)
                          have n5_ := Aside0.mk (blk_below (g := gb146) (o := .cells #[.int .i64 (wrap64 (Int.tdiv x147000_1 2)), .int .i64 x147001_1] 24 (0, 0)) (by (with_reducible repeat (first | refine blk_drewN ?_ _ | refine blk_drew ?_ | refine blk_alloc ?_ _)); exact BK146.out) hb)
                          have n6_ := Aside0.mk (blk_below (g := gb166) (o := .cells #[.bool true, .int .i64 (wrap64 (Int.tdiv x147000_1 2)), .bool ((bt a3 x30_1) == 84)] 56 (0, 0)) (by (with_reducible repeat (first | refine blk_drewN ?_ _ | refine blk_drew ?_ | refine blk_alloc ?_ _)); exact BK166.out) hb)
                          have n7_ := Aside0.mk (below_step (by repeat (first | (with_reducible first | exact HB.out | apply below_alloc | apply pw_below_drewN | apply below_drew1 | refine below_set ?_ GE145.out | refine below_set ?_ GE146.out | refine below_set ?_ GE166.out) | exact HB.out)) hb)
                          clear HO_12
                          clear HO169
                          clear HO172
                          clear BK145
                          clear BK146
                          clear BK166
                          clear HB
                          have HO_12 := n0_
                          have HO169 := n1_
                          have HO172 := n2_
                          have HO175 := n3_
                          have BK145 := n4_
                          have BK146 := n5_
                          have BK166 := n6_
                          have HB := n7_
                          clear n0_ n1_ n2_ n3_ n4_ n5_ n6_ n7_
                          clear hb ho61
                          refine hK.out _ _ ⟨(blk_cell BK166.out 0).trans rfl, (blk_cell BK166.out 1).trans rfl, (blk_cell BK166.out 2).trans rfl, (blk_cell BK146.out 0).trans rfl, (blk_cell BK146.out 1).trans rfl⟩ (fun hHeld => ?_)
                          clear hK K
                          refine norm_ (a' := ?_) ?_ ?_
                          rotate_left
                          · show Act.put _ (some 71) _ = _
                            simp only [Act.put, List.setIfInBounds_toArray, List.set_cons_zero, List.set_cons_succ, i64_w, i32_w]
                            rfl
                          exact norm_ (by simp only [putAll, Act.put, List.setIfInBounds_toArray, List.set_cons_zero, List.set_cons_succ]) (hCont (.slice Ao59 y167.length co59, v171, v174) _ ⟨hHeld, (by (with_reducible repeat (first | apply Kd.R_alloc | apply Kd.R_drewN | apply Kd.R_drew)); exact Kd.R_mono HO169.out (fun _ hk => ⟨hk.2, hk.1⟩)), (by (with_reducible repeat (first | apply Kd.R_alloc | apply Kd.R_drewN | apply Kd.R_drew)); exact HO172.out), (by (with_reducible repeat (first | apply Kd.R_alloc | apply Kd.R_drewN | apply Kd.R_drew)); exact Kd.R_mono HO175.out (fun _ hk => ⟨hk.1.1.2, ⟨hk.1.2, hk.2⟩⟩)), (by (with_reducible repeat (first | apply Kd.R_alloc | apply Kd.R_drewN | apply Kd.R_drew)); exact Kd.R_mono HO_12.out (fun _ hk => ⟨hk.2, ⟨hk.1.1, hk.1.2⟩⟩)), (by (with_reducible repeat (first | refine blk_drewN ?_ _ | refine blk_drew ?_ | refine blk_alloc ?_ _)); exact BK145.out), (by (with_reducible repeat (first | refine blk_drewN ?_ _ | refine blk_drew ?_ | refine blk_alloc ?_ _)); exact BK146.out), (by (with_reducible repeat (first | refine blk_drewN ?_ _ | refine blk_drew ?_ | refine blk_alloc ?_ _)); exact BK166.out), (by repeat (first | (with_reducible first | exact HB.out | apply below_alloc | apply pw_below_drewN | apply below_drew1 | refine below_set ?_ GE145.out | refine below_set ?_ GE146.out | refine below_set ?_ GE166.out) | exact HB.out))⟩)
                        · skip
                          refine Kd.R_lit_step k24 _ 24 ?hg (N := 71) ?hd (xs := ([(⟨wrap64 (Int.tdiv x147000_1 2), x147001_1⟩ : S24)] : List (S24))) (inner := [.int .i64 (wrap64 (Int.tdiv x147000_1 2)), .int .i64 x147001_1]) (ok := fun _ => True) (okp := fun _ => True) ?hr ?hp (fun _ hk => hk) trivial (Below.refl _ _) (Nat.le_refl _) (by simp) ?_; (case hd => rfl); (case hg => rfl); (case hr => first | (go_simp; done) | (go_simp; rfl)); (case hp => exact (Reps.c2 (show Kd.M k24 _ _ _ (⟨wrap64 (Int.tdiv x147000_1 2), x147001_1⟩ : S24) [.int .i64 (wrap64 (Int.tdiv x147000_1 2)), .int .i64 x147001_1] from (k24_mkM _ _ _ (⟨wrap64 (Int.tdiv x147000_1 2), x147001_1⟩ : S24) )) (Reps.none _ _)))
                          intro v174 w58 ho59 hb hg_ hnew_
                          clear hg_ hnew_
                          (first | rw [← Ny173.out] at ho59 | (simp only [Int.reduceToNat] at ho59; rw [← Ny173.out] at ho59))
                          have n0_ := Aside0.mk (Kd.R_below (by (with_reducible repeat (first | apply Kd.R_alloc | apply Kd.R_drewN | apply Kd.R_drew)); exact HO_11.out) hb)
                          have n1_ := Aside0.mk (Kd.R_elder' (by (with_reducible repeat (first | apply Kd.R_alloc | apply Kd.R_drewN | apply Kd.R_drew)); exact HO_12.out) (Kd.R_base ho59) hb)
                          have n2_ := Aside0.mk (Kd.R_below (by (with_reducible repeat (first | apply Kd.R_alloc | apply Kd.R_drewN | apply Kd.R_drew)); exact HO169.out) hb)
                          have n3_ := Aside0.mk (Kd.R_lower (Kd.R_newB (Kd.R_newB (Kd.R_new' ho59 (Kd.R_lt (by (with_reducible repeat (first | apply Kd.R_alloc | apply Kd.R_drewN | apply Kd.R_drew)); exact HO_12.out))) (g := gb145) (o := .cells #[.int .i64 a2_0, .int .i64 a2_1] 24 (0, 0)) (by (with_reducible repeat (first | refine blk_drewN ?_ _ | refine blk_drew ?_ | refine blk_alloc ?_ _)); exact BK145.out)) (g := gb146) (o := .cells #[.int .i64 (wrap64 (Int.tdiv x147000_1 2)), .int .i64 x147001_1] 24 (0, 0)) (by (with_reducible repeat (first | refine blk_drewN ?_ _ | refine blk_drew ?_ | refine blk_alloc ?_ _)); exact BK146.out)) (below_size (by repeat (first | (with_reducible first | exact HB.out | apply below_alloc | apply pw_below_drewN | apply below_drew1 | refine below_set ?_ GE145.out | refine below_set ?_ GE146.out | refine below_set ?_ GE166.out) | exact HB.out))))
                          have n4_ := Aside0.mk (blk_below (g := gb145) (o := .cells #[.int .i64 a2_0, .int .i64 a2_1] 24 (0, 0)) (by (with_reducible repeat (first | refine blk_drewN ?_ _ | refine blk_drew ?_ | refine blk_alloc ?_ _)); exact BK145.out) hb)
                          have n5_ := Aside0.mk (blk_below (g := gb146) (o := .cells #[.int .i64 (wrap64 (Int.tdiv x147000_1 2)), .int .i64 x147001_1] 24 (0, 0)) (by (with_reducible repeat (first | refine blk_drewN ?_ _ | refine blk_drew ?_ | refine blk_alloc ?_ _)); exact BK146.out) hb)
                          have n6_ := Aside0.mk (blk_below (g := gb166) (o := .cells #[.bool true, .int .i64 (wrap64 (Int.tdiv x147000_1 2)), .bool ((bt a3 x30_1) == 84)] 56 (0, 0)) (by (with_reducible repeat (first | refine blk_drewN ?_ _ | refine blk_drew ?_ | refine blk_alloc ?_ _)); exact BK166.out) hb)
                          have n7_ := Aside0.mk (below_step (by repeat (first | (with_reducible first | exact HB.out | apply below_alloc | apply pw_below_drewN | apply below_drew1 | refine below_set ?_ GE145.out | refine below_set ?_ GE146.out | refine below_set ?_ GE166.out) | exact HB.out)) hb)
                          clear HO_11
                          clear HO_12
                          clear HO169
                          clear BK145
                          clear BK146
                          clear BK166
                          clear HB
                          have HO_11 := n0_
                          have HO_12 := n1_
                          have HO169 := n2_
                          have HO175 := n3_
                          have BK145 := n4_
                          have BK146 := n5_
                          have BK166 := n6_
                          have HB := n7_
                          clear n0_ n1_ n2_ n3_ n4_ n5_ n6_ n7_
                          clear hb ho59
                          obtain ⟨Ao61, co61, eo61⟩ := Kd.R_slice HO169.out
                          (first | subst eo61 | (injection eo61 with f1_ f2_ f3_; have f4_ := f1_.symm; have f5_ := f3_.symm; clear f1_ f2_ f3_; subst f4_; subst f5_))
                          refine hK.out _ _ ⟨(blk_cell BK166.out 0).trans rfl, (blk_cell BK166.out 1).trans rfl, (blk_cell BK166.out 2).trans rfl, (blk_cell BK146.out 0).trans rfl, (blk_cell BK146.out 1).trans rfl⟩ (fun hHeld => ?_)
                          clear hK K
                          refine norm_ (a' := ?_) ?_ ?_
                          rotate_left
                          · show Act.put _ (some 71) _ = _
                            simp only [Act.put, List.setIfInBounds_toArray, List.set_cons_zero, List.set_cons_succ, i64_w, i32_w]
                            rfl
                          refine one_ (i := 3) (N := some 68) #[true, true, true, true, true, true, true, false, false, false] rfl rfl (one_of HT_.out (by kernel_rfl)) (by decide) (fun K hK => ?_)
                          refine Kd.R_append_rows_step k56 (w0 := w) w.heap.size (by rfl) (.tmp 65) (.tmp 67) 30 56 (.agg #[(.bool false), (.int .i64 0), (.bool false)]) 24 rfl Tryd.underlying30 info56 rfl (by decide) (by omega) (.slice Ao52 x11_1.length co52) x11_1 y167 _ _ _ (fun k_ => some k_ ≠ (.slice Ao61 y167.length co61 : Value).ownBlock ∧ k_ ≠ gb166) (fun _ => False) rfl rfl ?aO ?aR (fun _ _ h => h) (fun _ h => h.elim) ?aF ?aB ?aS ?aL ?_
                          (case aR => repeat (first | exact (Kd.R_reads' HO169.out).2.2 | (with_reducible refine Kd.C_alloc ?_ _) | (with_reducible refine Kd.C_drewN ?_ _) | (with_reducible refine Kd.C_drew ?_)))
                          (case aB => exact (by repeat (first | (with_reducible first | exact HB.out | apply below_alloc | apply pw_below_drewN | apply below_drew1 | refine below_set ?_ GE145.out | refine below_set ?_ GE146.out | refine below_set ?_ GE166.out) | exact HB.out)))
                          (case aF => exact (fun k_ hk => ⟨Kd.fresh' (Kd.R_lt (by (with_reducible repeat (first | apply Kd.R_alloc | apply Kd.R_drewN | apply Kd.R_drew)); exact HO169.out)) k_ hk, Kd.freshB (g := gb166) (o := .cells #[.bool true, .int .i64 (wrap64 (Int.tdiv x147000_1 2)), .bool ((bt a3 x30_1) == 84)] 56 (0, 0)) (by (with_reducible repeat (first | refine blk_drewN ?_ _ | refine blk_drew ?_ | refine blk_alloc ?_ _)); exact BK166.out) k_ hk⟩))
                          (case aO => exact (by (with_reducible repeat (first | apply Kd.R_alloc | apply Kd.R_drewN | apply Kd.R_drew)); exact Kd.R_mono HO_11.out (fun _ hk => ⟨hk.2, hk.1⟩)))
                          (case aS => exact (below_size (by repeat (first | (with_reducible first | exact HB.out | apply below_alloc | apply pw_below_drewN | apply below_drew1 | refine below_set ?_ GE145.out | refine below_set ?_ GE146.out | refine below_set ?_ GE166.out) | exact HB.out))))
                          (case aL => have := LMc44.out; omega)
                          intro v171 w60 ho hb hg hat
                          rw [← Ny170.out] at ho
                          have n0_ := Aside0.mk (Kd.R_over' (by (with_reducible repeat (first | apply Kd.R_alloc | apply Kd.R_drewN | apply Kd.R_drew)); exact HO_12.out) (Kd.R_typed (by (with_reducible repeat (first | apply Kd.R_alloc | apply Kd.R_drewN | apply Kd.R_drew)); exact HO_11.out)) (by decide) hg)
                          have n1_ := Aside0.mk (blk_grown (g := gb145) (o := .cells #[.int .i64 a2_0, .int .i64 a2_1] 24 (0, 0)) (by (with_reducible repeat (first | refine blk_drewN ?_ _ | refine blk_drew ?_ | refine blk_alloc ?_ _)); exact BK145.out) hg (Kd.R_ne HO_11.out BK145.out (by decide)))
                          have n2_ := Aside0.mk (blk_grown (g := gb146) (o := .cells #[.int .i64 (wrap64 (Int.tdiv x147000_1 2)), .int .i64 x147001_1] 24 (0, 0)) (by (with_reducible repeat (first | refine blk_drewN ?_ _ | refine blk_drew ?_ | refine blk_alloc ?_ _)); exact BK146.out) hg (Kd.R_ne HO_11.out BK146.out (by decide)))
                          have n3_ := Aside0.mk (blk_grown (g := gb166) (o := .cells #[.bool true, .int .i64 (wrap64 (Int.tdiv x147000_1 2)), .bool ((bt a3 x30_1) == 84)] 56 (0, 0)) (by (with_reducible repeat (first | refine blk_drewN ?_ _ | refine blk_drew ?_ | refine blk_alloc ?_ _)); exact BK166.out) hg (Kd.R_away HO_11.out (fun _ hk => hk.1)))
                          have n4_ := Aside0.mk (Kd.R_after (ok := (fun k_ => k_ ≠ gb166)) (by (with_reducible repeat (first | apply Kd.R_alloc | apply Kd.R_drewN | apply Kd.R_drew)); exact Kd.R_mono HO169.out (fun _ hk => ⟨hk.2, hk.1.2⟩)) hg hat)
                          have n5_ := Aside0.mk (Kd.R_over' (by (with_reducible repeat (first | apply Kd.R_alloc | apply Kd.R_drewN | apply Kd.R_drew)); exact HO175.out) (Kd.R_typed (by (with_reducible repeat (first | apply Kd.R_alloc | apply Kd.R_drewN | apply Kd.R_drew)); exact HO_11.out)) (by decide) hg)
                          have n6_ := Aside0.mk (hb)
                          have n7_ := Aside0.mk (ho)
                          clear HO_12
                          clear BK145
                          clear BK146
                          clear BK166
                          clear HO169
                          clear HO175
                          clear HB
                          clear HO_11
                          have HO_12 := n0_
                          have BK145 := n1_
                          have BK146 := n2_
                          have BK166 := n3_
                          have HO169 := n4_
                          have HO175 := n5_
                          have HB := n6_
                          have HO172 := n7_
                          clear n0_ n1_ n2_ n3_ n4_ n5_ n6_ n7_
                          clear ho hb hg hat
                          refine hK.out _ _ ⟨(blk_cell BK166.out 0).trans rfl, (blk_cell BK166.out 1).trans rfl, (blk_cell BK166.out 2).trans rfl, (blk_cell BK146.out 0).trans rfl, (blk_cell BK146.out 1).trans rfl⟩ (fun hHeld => ?_)
                          clear hK K
                          refine norm_ (a' := ?_) ?_ ?_
                          rotate_left
                          · show Act.put _ (some 68) _ = _
                            simp only [Act.put, List.setIfInBounds_toArray, List.set_cons_zero, List.set_cons_succ, i64_w, i32_w]
                            rfl
                          exact norm_ (by simp only [putAll, Act.put, List.setIfInBounds_toArray, List.set_cons_zero, List.set_cons_succ]) (hCont (.slice Ao61 y167.length co61, v171, v174) _ ⟨hHeld, (by (with_reducible repeat (first | apply Kd.R_alloc | apply Kd.R_drewN | apply Kd.R_drew)); exact Kd.R_mono HO169.out (fun _ hk => ⟨hk.2, hk.1⟩)), (by (with_reducible repeat (first | apply Kd.R_alloc | apply Kd.R_drewN | apply Kd.R_drew)); exact HO172.out), (by (with_reducible repeat (first | apply Kd.R_alloc | apply Kd.R_drewN | apply Kd.R_drew)); exact Kd.R_mono HO175.out (fun _ hk => ⟨hk.1.1.2, ⟨hk.1.2, hk.2⟩⟩)), (by (with_reducible repeat (first | apply Kd.R_alloc | apply Kd.R_drewN | apply Kd.R_drew)); exact Kd.R_mono HO_12.out (fun _ hk => ⟨hk.2, ⟨hk.1.1, hk.1.2⟩⟩)), (by (with_reducible repeat (first | refine blk_drewN ?_ _ | refine blk_drew ?_ | refine blk_alloc ?_ _)); exact BK145.out), (by (with_reducible repeat (first | refine blk_drewN ?_ _ | refine blk_drew ?_ | refine blk_alloc ?_ _)); exact BK146.out), (by (with_reducible repeat (first | refine blk_drewN ?_ _ | refine blk_drew ?_ | refine blk_alloc ?_ _)); exact BK166.out), (by repeat (first | (with_reducible first | exact HB.out | apply below_alloc | apply pw_below_drewN | apply below_drew1 | refine below_set ?_ GE145.out | refine below_set ?_ GE146.out | refine below_set ?_ GE166.out) | exact HB.out))⟩)
                      · skip
                        refine Kd.R_lit_step k24 _ 24 ?hg (N := 71) ?hd (xs := ([(⟨wrap64 (Int.tdiv x147000_1 2), x147001_1⟩ : S24)] : List (S24))) (inner := [.int .i64 (wrap64 (Int.tdiv x147000_1 2)), .int .i64 x147001_1]) (ok := fun _ => True) (okp := fun _ => True) ?hr ?hp (fun _ hk => hk) trivial (Below.refl _ _) (Nat.le_refl _) (by simp) ?_; (case hd => rfl); (case hg => rfl); (case hr => first | (go_simp; done) | (go_simp; rfl)); (case hp => exact (Reps.c2 (show Kd.M k24 _ _ _ (⟨wrap64 (Int.tdiv x147000_1 2), x147001_1⟩ : S24) [.int .i64 (wrap64 (Int.tdiv x147000_1 2)), .int .i64 x147001_1] from (k24_mkM _ _ _ (⟨wrap64 (Int.tdiv x147000_1 2), x147001_1⟩ : S24) )) (Reps.none _ _)))
                        intro v174 w56 ho57 hb hg_ hnew_
                        clear hg_ hnew_
                        (first | rw [← Ny173.out] at ho57 | (simp only [Int.reduceToNat] at ho57; rw [← Ny173.out] at ho57))
                        have n0_ := Aside0.mk (Kd.R_below (by (with_reducible repeat (first | apply Kd.R_alloc | apply Kd.R_drewN | apply Kd.R_drew)); exact HO_11.out) hb)
                        have n1_ := Aside0.mk (Kd.R_elder' (by (with_reducible repeat (first | apply Kd.R_alloc | apply Kd.R_drewN | apply Kd.R_drew)); exact HO_12.out) (Kd.R_base ho57) hb)
                        have n2_ := Aside0.mk (Kd.R_lower (Kd.R_newB (Kd.R_newB (Kd.R_new' ho57 (Kd.R_lt (by (with_reducible repeat (first | apply Kd.R_alloc | apply Kd.R_drewN | apply Kd.R_drew)); exact HO_12.out))) (g := gb145) (o := .cells #[.int .i64 a2_0, .int .i64 a2_1] 24 (0, 0)) (by (with_reducible repeat (first | refine blk_drewN ?_ _ | refine blk_drew ?_ | refine blk_alloc ?_ _)); exact BK145.out)) (g := gb146) (o := .cells #[.int .i64 (wrap64 (Int.tdiv x147000_1 2)), .int .i64 x147001_1] 24 (0, 0)) (by (with_reducible repeat (first | refine blk_drewN ?_ _ | refine blk_drew ?_ | refine blk_alloc ?_ _)); exact BK146.out)) (below_size (by repeat (first | (with_reducible first | exact HB.out | apply below_alloc | apply pw_below_drewN | apply below_drew1 | refine below_set ?_ GE145.out | refine below_set ?_ GE146.out | refine below_set ?_ GE166.out) | exact HB.out))))
                        have n3_ := Aside0.mk (blk_below (g := gb145) (o := .cells #[.int .i64 a2_0, .int .i64 a2_1] 24 (0, 0)) (by (with_reducible repeat (first | refine blk_drewN ?_ _ | refine blk_drew ?_ | refine blk_alloc ?_ _)); exact BK145.out) hb)
                        have n4_ := Aside0.mk (blk_below (g := gb146) (o := .cells #[.int .i64 (wrap64 (Int.tdiv x147000_1 2)), .int .i64 x147001_1] 24 (0, 0)) (by (with_reducible repeat (first | refine blk_drewN ?_ _ | refine blk_drew ?_ | refine blk_alloc ?_ _)); exact BK146.out) hb)
                        have n5_ := Aside0.mk (blk_below (g := gb166) (o := .cells #[.bool true, .int .i64 (wrap64 (Int.tdiv x147000_1 2)), .bool ((bt a3 x30_1) == 84)] 56 (0, 0)) (by (with_reducible repeat (first | refine blk_drewN ?_ _ | refine blk_drew ?_ | refine blk_alloc ?_ _)); exact BK166.out) hb)
                        have n6_ := Aside0.mk (below_step (by repeat (first | (with_reducible first | exact HB.out | apply below_alloc | apply pw_below_drewN | apply below_drew1 | refine below_set ?_ GE145.out | refine below_set ?_ GE146.out | refine below_set ?_ GE166.out) | exact HB.out)) hb)
                        clear HO_11
                        clear HO_12
                        clear BK145
                        clear BK146
                        clear BK166
                        clear HB
                        have HO_11 := n0_
                        have HO_12 := n1_
                        have HO175 := n2_
                        have BK145 := n3_
                        have BK146 := n4_
                        have BK166 := n5_
                        have HB := n6_
                        clear n0_ n1_ n2_ n3_ n4_ n5_ n6_
                        clear hb ho57
                        refine hK.out _ _ ⟨(blk_cell BK166.out 0).trans rfl, (blk_cell BK166.out 1).trans rfl, (blk_cell BK166.out 2).trans rfl, (blk_cell BK146.out 0).trans rfl, (blk_cell BK146.out 1).trans rfl⟩ (fun hHeld => ?_)
                        clear hK K
                        refine norm_ (a' := ?_) ?_ ?_
                        rotate_left
                        · show Act.put _ (some 71) _ = _
                          simp only [Act.put, List.setIfInBounds_toArray, List.set_cons_zero, List.set_cons_succ, i64_w, i32_w]
                          rfl
                        refine one_ (i := 2) (N := some 67) #[true, true, true, false, true, true, true, false, false, false] rfl rfl (one_of HT_.out (by kernel_rfl)) (by decide) (fun K hK => ?_)
                        refine Kd.R_lit_step k56 _ 56 ?hg (N := 67) ?hd (xs := ([(⟨true, wrap64 (Int.tdiv x147000_1 2), ((bt a3 x30_1) == 84)⟩ : S56)] : List (S56))) (inner := [.bool true, .int .i64 (wrap64 (Int.tdiv x147000_1 2)), .bool ((bt a3 x30_1) == 84)]) (ok := fun _ => True) (okp := fun _ => True) ?hr ?hp (fun _ hk => hk) trivial (Below.refl _ _) (Nat.le_refl _) (by simp) ?_; (case hd => rfl); (case hg => rfl); (case hr => first | (go_simp; done) | (go_simp; rfl)); (case hp => exact (Reps.c3 (show Kd.M k56 _ _ _ (⟨true, wrap64 (Int.tdiv x147000_1 2), ((bt a3 x30_1) == 84)⟩ : S56) [.bool true, .int .i64 (wrap64 (Int.tdiv x147000_1 2)), .bool ((bt a3 x30_1) == 84)] from (k56_mkM _ _ _ (⟨true, wrap64 (Int.tdiv x147000_1 2), ((bt a3 x30_1) == 84)⟩ : S56) )) (Reps.none _ _)))
                        intro v168 w58 ho59 hb hg_ hnew_
                        clear hg_ hnew_
                        (first | rw [← Ny167.out] at ho59 | (simp only [Int.reduceToNat] at ho59; rw [← Ny167.out] at ho59))
                        have n0_ := Aside0.mk (Kd.R_elder' (by (with_reducible repeat (first | apply Kd.R_alloc | apply Kd.R_drewN | apply Kd.R_drew)); exact HO_11.out) (Kd.R_base ho59) hb)
                        have n1_ := Aside0.mk (Kd.R_below (by (with_reducible repeat (first | apply Kd.R_alloc | apply Kd.R_drewN | apply Kd.R_drew)); exact HO_12.out) hb)
                        have n2_ := Aside0.mk (Kd.R_below (by (with_reducible repeat (first | apply Kd.R_alloc | apply Kd.R_drewN | apply Kd.R_drew)); exact HO175.out) hb)
                        have n3_ := Aside0.mk (Kd.R_lower (Kd.R_newB (Kd.R_new' ho59 (Kd.R_lt (by (with_reducible repeat (first | apply Kd.R_alloc | apply Kd.R_drewN | apply Kd.R_drew)); exact HO_11.out))) (g := gb166) (o := .cells #[.bool true, .int .i64 (wrap64 (Int.tdiv x147000_1 2)), .bool ((bt a3 x30_1) == 84)] 56 (0, 0)) (by (with_reducible repeat (first | refine blk_drewN ?_ _ | refine blk_drew ?_ | refine blk_alloc ?_ _)); exact BK166.out)) (below_size (by repeat (first | (with_reducible first | exact HB.out | apply below_alloc | apply pw_below_drewN | apply below_drew1 | refine below_set ?_ GE145.out | refine below_set ?_ GE146.out | refine below_set ?_ GE166.out) | exact HB.out))))
                        have n4_ := Aside0.mk (blk_below (g := gb145) (o := .cells #[.int .i64 a2_0, .int .i64 a2_1] 24 (0, 0)) (by (with_reducible repeat (first | refine blk_drewN ?_ _ | refine blk_drew ?_ | refine blk_alloc ?_ _)); exact BK145.out) hb)
                        have n5_ := Aside0.mk (blk_below (g := gb146) (o := .cells #[.int .i64 (wrap64 (Int.tdiv x147000_1 2)), .int .i64 x147001_1] 24 (0, 0)) (by (with_reducible repeat (first | refine blk_drewN ?_ _ | refine blk_drew ?_ | refine blk_alloc ?_ _)); exact BK146.out) hb)
                        have n6_ := Aside0.mk (blk_below (g := gb166) (o := .cells #[.bool true, .int .i64 (wrap64 (Int.tdiv x147000_1 2)), .bool ((bt a3 x30_1) == 84)] 56 (0, 0)) (by (with_reducible repeat (first | refine blk_drewN ?_ _ | refine blk_drew ?_ | refine blk_alloc ?_ _)); exact BK166.out) hb)
                        have n7_ := Aside0.mk (below_step (by repeat (first | (with_reducible first | exact HB.out | apply below_alloc | apply pw_below_drewN | apply below_drew1 | refine below_set ?_ GE145.out | refine below_set ?_ GE146.out | refine below_set ?_ GE166.out) | exact HB.out)) hb)
                        clear HO_11
                        clear HO_12
                        clear HO175
                        clear BK145
                        clear BK146
                        clear BK166
                        clear HB
                        have HO_11 := n0_
                        have HO_12 := n1_
                        have HO175 := n2_
                        have HO169 := n3_
                        have BK145 := n4_
                        have BK146 := n5_
                        have BK166 := n6_
                        have HB := n7_
                        clear n0_ n1_ n2_ n3_ n4_ n5_ n6_ n7_
                        clear hb ho59
                        obtain ⟨Ao61, co61, eo61⟩ := Kd.R_slice HO169.out
                        (first | subst eo61 | (injection eo61 with f1_ f2_ f3_; have f4_ := f1_.symm; have f5_ := f3_.symm; clear f1_ f2_ f3_; subst f4_; subst f5_))
                        refine hK.out _ _ ⟨(blk_cell BK166.out 0).trans rfl, (blk_cell BK166.out 1).trans rfl, (blk_cell BK166.out 2).trans rfl, (blk_cell BK146.out 0).trans rfl, (blk_cell BK146.out 1).trans rfl⟩ (fun hHeld => ?_)
                        clear hK K
                        refine norm_ (a' := ?_) ?_ ?_
                        rotate_left
                        · show Act.put _ (some 67) _ = _
                          simp only [Act.put, List.setIfInBounds_toArray, List.set_cons_zero, List.set_cons_succ, i64_w, i32_w]
                          rfl
                        refine one_ (i := 3) (N := some 68) #[true, true, true, true, true, true, true, false, false, false] rfl rfl (one_of HT_.out (by kernel_rfl)) (by decide) (fun K hK => ?_)
                        refine Kd.R_append_rows_step k56 (w0 := w) w.heap.size (by rfl) (.tmp 65) (.tmp 67) 30 56 (.agg #[(.bool false), (.int .i64 0), (.bool false)]) 24 rfl Tryd.underlying30 info56 rfl (by decide) (by omega) (.slice Ao52 x11_1.length co52) x11_1 y167 _ _ _ (fun k_ => some k_ ≠ (.slice Ao61 y167.length co61 : Value).ownBlock ∧ k_ ≠ gb166) (fun _ => False) rfl rfl ?aO ?aR (fun _ _ h => h) (fun _ h => h.elim) ?aF ?aB ?aS ?aL ?_
                        (case aR => repeat (first | exact (Kd.R_reads' HO169.out).2.2 | (with_reducible refine Kd.C_alloc ?_ _) | (with_reducible refine Kd.C_drewN ?_ _) | (with_reducible refine Kd.C_drew ?_)))
                        (case aB => exact (by repeat (first | (with_reducible first | exact HB.out | apply below_alloc | apply pw_below_drewN | apply below_drew1 | refine below_set ?_ GE145.out | refine below_set ?_ GE146.out | refine below_set ?_ GE166.out) | exact HB.out)))
                        (case aF => exact (fun k_ hk => ⟨Kd.fresh' (Kd.R_lt (by (with_reducible repeat (first | apply Kd.R_alloc | apply Kd.R_drewN | apply Kd.R_drew)); exact HO169.out)) k_ hk, Kd.freshB (g := gb166) (o := .cells #[.bool true, .int .i64 (wrap64 (Int.tdiv x147000_1 2)), .bool ((bt a3 x30_1) == 84)] 56 (0, 0)) (by (with_reducible repeat (first | refine blk_drewN ?_ _ | refine blk_drew ?_ | refine blk_alloc ?_ _)); exact BK166.out) k_ hk⟩))
                        (case aO => exact (by (with_reducible repeat (first | apply Kd.R_alloc | apply Kd.R_drewN | apply Kd.R_drew)); exact Kd.R_mono HO_11.out (fun _ hk => ⟨hk.2, hk.1⟩)))
                        (case aS => exact (below_size (by repeat (first | (with_reducible first | exact HB.out | apply below_alloc | apply pw_below_drewN | apply below_drew1 | refine below_set ?_ GE145.out | refine below_set ?_ GE146.out | refine below_set ?_ GE166.out) | exact HB.out))))
                        (case aL => have := LMc44.out; omega)
                        intro v171 w60 ho hb hg hat
                        rw [← Ny170.out] at ho
                        have n0_ := Aside0.mk (Kd.R_over' (by (with_reducible repeat (first | apply Kd.R_alloc | apply Kd.R_drewN | apply Kd.R_drew)); exact HO_12.out) (Kd.R_typed (by (with_reducible repeat (first | apply Kd.R_alloc | apply Kd.R_drewN | apply Kd.R_drew)); exact HO_11.out)) (by decide) hg)
                        have n1_ := Aside0.mk (blk_grown (g := gb145) (o := .cells #[.int .i64 a2_0, .int .i64 a2_1] 24 (0, 0)) (by (with_reducible repeat (first | refine blk_drewN ?_ _ | refine blk_drew ?_ | refine blk_alloc ?_ _)); exact BK145.out) hg (Kd.R_ne HO_11.out BK145.out (by decide)))
                        have n2_ := Aside0.mk (blk_grown (g := gb146) (o := .cells #[.int .i64 (wrap64 (Int.tdiv x147000_1 2)), .int .i64 x147001_1] 24 (0, 0)) (by (with_reducible repeat (first | refine blk_drewN ?_ _ | refine blk_drew ?_ | refine blk_alloc ?_ _)); exact BK146.out) hg (Kd.R_ne HO_11.out BK146.out (by decide)))
                        have n3_ := Aside0.mk (blk_grown (g := gb166) (o := .cells #[.bool true, .int .i64 (wrap64 (Int.tdiv x147000_1 2)), .bool ((bt a3 x30_1) == 84)] 56 (0, 0)) (by (with_reducible repeat (first | refine blk_drewN ?_ _ | refine blk_drew ?_ | refine blk_alloc ?_ _)); exact BK166.out) hg (Kd.R_away HO_11.out (fun _ hk => hk.1)))
                        have n4_ := Aside0.mk (Kd.R_over' (by (with_reducible repeat (first | apply Kd.R_alloc | apply Kd.R_drewN | apply Kd.R_drew)); exact HO175.out) (Kd.R_typed (by (with_reducible repeat (first | apply Kd.R_alloc | apply Kd.R_drewN | apply Kd.R_drew)); exact HO_11.out)) (by decide) hg)
                        have n5_ := Aside0.mk (Kd.R_after (ok := (fun k_ => k_ ≠ gb166)) (by (with_reducible repeat (first | apply Kd.R_alloc | apply Kd.R_drewN | apply Kd.R_drew)); exact Kd.R_mono HO169.out (fun _ hk => ⟨hk.2, hk.1.2⟩)) hg hat)
                        have n6_ := Aside0.mk (hb)
                        have n7_ := Aside0.mk (ho)
                        clear HO_12
                        clear BK145
                        clear BK146
                        clear BK166
                        clear HO175
                        clear HO169
                        clear HB
                        clear HO_11
                        have HO_12 := n0_
                        have BK145 := n1_
                        have BK146 := n2_
                        have BK166 := n3_
                        have HO175 := n4_
                        have HO169 := n5_
                        have HB := n6_
                        have HO172 := n7_
                        clear n0_ n1_ n2_ n3_ n4_ n5_ n6_ n7_
                        clear ho hb hg hat
                        refine hK.out _ _ ⟨(blk_cell BK166.out 0).trans rfl, (blk_cell BK166.out 1).trans rfl, (blk_cell BK166.out 2).trans rfl, (blk_cell BK146.out 0).trans rfl, (blk_cell BK146.out 1).trans rfl⟩ (fun hHeld => ?_)
                        clear hK K
                        refine norm_ (a' := ?_) ?_ ?_
                        rotate_left
                        · show Act.put _ (some 68) _ = _
                          simp only [Act.put, List.setIfInBounds_toArray, List.set_cons_zero, List.set_cons_succ, i64_w, i32_w]
                          rfl
                        exact norm_ (by simp only [putAll, Act.put, List.setIfInBounds_toArray, List.set_cons_zero, List.set_cons_succ]) (hCont (.slice Ao61 y167.length co61, v171, v174) _ ⟨hHeld, (by (with_reducible repeat (first | apply Kd.R_alloc | apply Kd.R_drewN | apply Kd.R_drew)); exact Kd.R_mono HO169.out (fun _ hk => ⟨hk.2, hk.1⟩)), (by (with_reducible repeat (first | apply Kd.R_alloc | apply Kd.R_drewN | apply Kd.R_drew)); exact HO172.out), (by (with_reducible repeat (first | apply Kd.R_alloc | apply Kd.R_drewN | apply Kd.R_drew)); exact Kd.R_mono HO175.out (fun _ hk => ⟨hk.1.1.2, ⟨hk.1.2, hk.2⟩⟩)), (by (with_reducible repeat (first | apply Kd.R_alloc | apply Kd.R_drewN | apply Kd.R_drew)); exact Kd.R_mono HO_12.out (fun _ hk => ⟨hk.2, ⟨hk.1.1, hk.1.2⟩⟩)), (by (with_reducible repeat (first | refine blk_drewN ?_ _ | refine blk_drew ?_ | refine blk_alloc ?_ _)); exact BK145.out), (by (with_reducible repeat (first | refine blk_drewN ?_ _ | refine blk_drew ?_ | refine blk_alloc ?_ _)); exact BK146.out), (by (with_reducible repeat (first | refine blk_drewN ?_ _ | refine blk_drew ?_ | refine blk_alloc ?_ _)); exact BK166.out), (by repeat (first | (with_reducible first | exact HB.out | apply below_alloc | apply pw_below_drewN | apply below_drew1 | refine below_set ?_ GE145.out | refine below_set ?_ GE146.out | refine below_set ?_ GE166.out) | exact HB.out))⟩)
                    rintro ⟨v168, v171, v174⟩ w62 ⟨hS_, h0_, h1_, h2_, h3_, h4_, h5_, h6_, h7_⟩
                    have n0_ : Aside0 (Kd.R k56 56 w62 w.heap.size (fun k_ => some k_ ≠ (v171 : Value).ownBlock ∧ k_ ≠ gb166) v168 y167) := ⟨h0_⟩
                    have n1_ : Aside0 (Kd.R k56 56 w62 w.heap.size (fun k_ => some k_ ≠ (v168 : Value).ownBlock ∧ k_ ≠ gb166) v171 y170) := ⟨h1_⟩
                    have n2_ : Aside0 (Kd.R k24 24 w62 w.heap.size (fun k_ => some k_ ≠ (.slice Ao53 x12_1.length co53 : Value).ownBlock ∧ k_ ≠ gb145 ∧ k_ ≠ gb146) v174 y173) := ⟨h2_⟩
                    have n3_ : Aside0 (Kd.R k24 24 w62 w.heap.size (fun k_ => some k_ ≠ (v174 : Value).ownBlock ∧ k_ ≠ gb145 ∧ k_ ≠ gb146) (.slice Ao53 x12_1.length co53) x12_1) := ⟨h3_⟩
                    have n4_ : Aside0 (w62.heap[gb145]? = some (.cells #[.int .i64 a2_0, .int .i64 a2_1] 24 (0, 0))) := ⟨h4_⟩
                    have n5_ : Aside0 (w62.heap[gb146]? = some (.cells #[.int .i64 (wrap64 (Int.tdiv x147000_1 2)), .int .i64 x147001_1] 24 (0, 0))) := ⟨h5_⟩
                    have n6_ : Aside0 (w62.heap[gb166]? = some (.cells #[.bool true, .int .i64 (wrap64 (Int.tdiv x147000_1 2)), .bool ((bt a3 x30_1) == 84)] 56 (0, 0))) := ⟨h6_⟩
                    have n7_ : Aside0 (Below w.heap.size w w62) := ⟨h7_⟩
                    clear HO_11
                    clear HO_12
                    clear BK145
                    clear BK146
                    clear BK166
                    clear HB
                    clear h0_ h1_ h2_ h3_ h4_ h5_ h6_ h7_
                    have HO169 := n0_
                    have HO172 := n1_
                    have HO175 := n2_
                    have HO_12 := n3_
                    have BK145 := n4_
                    have BK146 := n5_
                    have BK166 := n6_
                    have HB := n7_
                    clear n0_ n1_ n2_ n3_ n4_ n5_ n6_ n7_
                    have hHeld : w62.cell? ⟨gb166, 0, none⟩ = some (.bool true) ∧ w62.cell? ⟨gb166, 1, none⟩ = some (.int .i64 (wrap64 (Int.tdiv x147000_1 2))) ∧ w62.cell? ⟨gb166, 2, none⟩ = some (.bool ((bt a3 x30_1) == 84)) ∧ w62.cell? ⟨gb146, 0, none⟩ = some (.int .i64 (wrap64 (Int.tdiv x147000_1 2))) ∧ w62.cell? ⟨gb146, 1, none⟩ = some (.int .i64 x147001_1) := hS_
                    obtain ⟨Ao64, co64, eo64⟩ := Kd.R_slice HO175.out
                    (first | subst eo64 | (injection eo64 with f1_ f2_ f3_; have f4_ := f1_.symm; have f5_ := f3_.symm; clear f1_ f2_ f3_; subst f4_; subst f5_))
                    refine norm_ (a' := ?_) ?_ ?_
                    rotate_left
                    · simp only [putAll, Act.put, List.setIfInBounds_toArray, List.set_cons_zero, List.set_cons_succ]
                      rfl
                    refine one_ (i := 7) (N := some 72) #[true, true, true, true, true, true, true, true, false, false] rfl rfl (one_of HT_.out (by kernel_rfl)) (by decide) (fun K hK => ?_)
                    refine Kd.R_append_rows_step k24 (w0 := w) w.heap.size (by rfl) (.tmp 69) (.tmp 71) 51 24 (.agg #[(.int .i64 0), (.int .i64 0)]) 16 rfl Tryd.underlying51 info24 rfl (by decide) (by omega) (.slice Ao53 x12_1.length co53) x12_1 y173 _ _ _ (fun k_ => some k_ ≠ (.slice Ao64 y173.length co64 : Value).ownBlock ∧ k_ ≠ gb145 ∧ k_ ≠ gb146) (fun _ => False) rfl rfl ?aO ?aR (fun _ _ h => h) (fun _ h => h.elim) ?aF ?aB ?aS ?aL ?_
                    (case aR => repeat (first | exact (Kd.R_reads' HO175.out).2.2 | (with_reducible refine Kd.C_alloc ?_ _) | (with_reducible refine Kd.C_drewN ?_ _) | (with_reducible refine Kd.C_drew ?_)))
                    (case aB => exact (by repeat (first | (with_reducible first | exact HB.out | apply below_alloc | apply pw_below_drewN | apply below_drew1 | refine below_set ?_ GE145.out | refine below_set ?_ GE146.out | refine below_set ?_ GE166.out) | exact HB.out)))
                    (case aF => exact (fun k_ hk => ⟨Kd.fresh' (Kd.R_lt (by (with_reducible repeat (first | apply Kd.R_alloc | apply Kd.R_drewN | apply Kd.R_drew)); exact HO175.out)) k_ hk, Kd.freshB (g := gb145) (o := .cells #[.int .i64 a2_0, .int .i64 a2_1] 24 (0, 0)) (by (with_reducible repeat (first | refine blk_drewN ?_ _ | refine blk_drew ?_ | refine blk_alloc ?_ _)); exact BK145.out) k_ hk, Kd.freshB (g := gb146) (o := .cells #[.int .i64 (wrap64 (Int.tdiv x147000_1 2)), .int .i64 x147001_1] 24 (0, 0)) (by (with_reducible repeat (first | refine blk_drewN ?_ _ | refine blk_drew ?_ | refine blk_alloc ?_ _)); exact BK146.out) k_ hk⟩))
                    (case aO => exact (by (with_reducible repeat (first | apply Kd.R_alloc | apply Kd.R_drewN | apply Kd.R_drew)); exact HO_12.out))
                    (case aS => exact (below_size (by repeat (first | (with_reducible first | exact HB.out | apply below_alloc | apply pw_below_drewN | apply below_drew1 | refine below_set ?_ GE145.out | refine below_set ?_ GE146.out | refine below_set ?_ GE166.out) | exact HB.out))))
                    (case aL => have := LMc45.out; omega)
                    intro v177 w63 ho hb hg hat
                    rw [← Ny176.out] at ho
                    have n0_ := Aside0.mk (blk_grown (g := gb145) (o := .cells #[.int .i64 a2_0, .int .i64 a2_1] 24 (0, 0)) (by (with_reducible repeat (first | refine blk_drewN ?_ _ | refine blk_drew ?_ | refine blk_alloc ?_ _)); exact BK145.out) hg (Kd.R_away HO_12.out (fun _ hk => hk.2.1)))
                    have n1_ := Aside0.mk (blk_grown (g := gb146) (o := .cells #[.int .i64 (wrap64 (Int.tdiv x147000_1 2)), .int .i64 x147001_1] 24 (0, 0)) (by (with_reducible repeat (first | refine blk_drewN ?_ _ | refine blk_drew ?_ | refine blk_alloc ?_ _)); exact BK146.out) hg (Kd.R_away HO_12.out (fun _ hk => hk.2.2)))
                    have n2_ := Aside0.mk (blk_grown (g := gb166) (o := .cells #[.bool true, .int .i64 (wrap64 (Int.tdiv x147000_1 2)), .bool ((bt a3 x30_1) == 84)] 56 (0, 0)) (by (with_reducible repeat (first | refine blk_drewN ?_ _ | refine blk_drew ?_ | refine blk_alloc ?_ _)); exact BK166.out) hg (Kd.R_ne HO_12.out BK166.out (by decide)))
                    have n3_ := Aside0.mk (Kd.R_over' (by (with_reducible repeat (first | apply Kd.R_alloc | apply Kd.R_drewN | apply Kd.R_drew)); exact HO169.out) (Kd.R_typed (by (with_reducible repeat (first | apply Kd.R_alloc | apply Kd.R_drewN | apply Kd.R_drew)); exact HO_12.out)) (by decide) hg)
                    have n4_ := Aside0.mk (Kd.R_over' (by (with_reducible repeat (first | apply Kd.R_alloc | apply Kd.R_drewN | apply Kd.R_drew)); exact HO172.out) (Kd.R_typed (by (with_reducible repeat (first | apply Kd.R_alloc | apply Kd.R_drewN | apply Kd.R_drew)); exact HO_12.out)) (by decide) hg)
                    have n5_ := Aside0.mk (Kd.R_after (ok := (fun k_ => k_ ≠ gb145 ∧ k_ ≠ gb146)) (by (with_reducible repeat (first | apply Kd.R_alloc | apply Kd.R_drewN | apply Kd.R_drew)); exact Kd.R_mono HO175.out (fun _ hk => ⟨⟨hk.2.1, hk.2.2⟩, hk.1⟩)) hg hat)
                    have n6_ := Aside0.mk (hb)
                    have n7_ := Aside0.mk (ho)
                    clear BK145
                    clear BK146
                    clear BK166
                    clear HO169
                    clear HO172
                    clear HO175
                    clear HB
                    clear HO_12
                    have BK145 := n0_
                    have BK146 := n1_
                    have BK166 := n2_
                    have HO169 := n3_
                    have HO172 := n4_
                    have HO175 := n5_
                    have HB := n6_
                    have HO178 := n7_
                    clear n0_ n1_ n2_ n3_ n4_ n5_ n6_ n7_
                    clear ho hb hg hat
                    refine hK.out _ _ ⟨(blk_cell BK166.out 0).trans rfl, (blk_cell BK166.out 1).trans rfl, (blk_cell BK166.out 2).trans rfl, (blk_cell BK146.out 0).trans rfl, (blk_cell BK146.out 1).trans rfl⟩ (fun hHeld => ?_)
                    clear hK K
                    refine norm_ (a' := ?_) ?_ ?_
                    rotate_left
                    · show Act.put _ (some 72) _ = _
                      simp only [Act.put, List.setIfInBounds_toArray, List.set_cons_zero, List.set_cons_succ, i64_w, i32_w]
                      rfl
                    refine pure_ (i := 8) (N := some 11) (v := ?_) (a' := ?_) #[true, true, true, true, true, true, true, true, true, false] rfl rfl (any_of HT_.out (by kernel_rfl)) (fun _ _ _ h => h) (Or.inl ⟨by rfl, ?_⟩) ?_ ?_
                    rotate_left
                    · intro w'
                      go_simp
                      with_reducible rfl
                    rotate_left
                    · simp only [Act.put, List.setIfInBounds_toArray, List.set_cons_zero, List.set_cons_succ, i64_w, i32_w]
                      rfl
                    refine pure_ (i := 9) (N := some 12) (v := ?_) (a' := ?_) #[true, true, true, true, true, true, true, true, true, true] rfl rfl (any_of HT_.out (by kernel_rfl)) (fun _ _ _ h => h) (Or.inl ⟨by rfl, ?_⟩) ?_ ?_
                    rotate_left
                    · intro w'
                      go_simp
                      with_reducible rfl
                    rotate_left
                    · simp only [Act.put, List.setIfInBounds_toArray, List.set_cons_zero, List.set_cons_succ, i64_w, i32_w]
                      rfl
                    refine done_ (done_of HT_.out (by kernel_rfl)) ?_
                    try go_wp2
                    go_roundg k1
                    case measure => have := HK1.out; omega
                    case rel => exact ⟨(y170), (y176), (wrap64 (x30_1 + 1)), (wrap64 (Int.tdiv x147000_1 2)), (x147001_1), (by first | rfl | (simp; done) | (simp [*]; done)), H', ⟨by have := HK1.out; omega⟩, ⟨by (with_reducible repeat (first | apply Kd.R_alloc | apply Kd.R_drewN | apply Kd.R_drew)); exact Kd.R_mono HO172.out (fun _ hk => trivial)⟩, ⟨by (with_reducible repeat (first | apply Kd.R_alloc | apply Kd.R_drewN | apply Kd.R_drew)); exact Kd.R_mono HO178.out (fun _ hk => ⟨hk.2.1, hk.2.2⟩)⟩, ⟨by (with_reducible repeat (first | refine blk_drewN ?_ _ | refine blk_drew ?_ | refine blk_alloc ?_ _)); exact BK145.out⟩, ⟨by (with_reducible repeat (first | refine blk_drewN ?_ _ | refine blk_drew ?_ | refine blk_alloc ?_ _)); exact BK146.out⟩, ⟨by repeat (first | (with_reducible first | exact HB.out | apply below_alloc | apply pw_below_drewN | apply below_drew1 | refine below_set ?_ GE145.out | refine below_set ?_ GE146.out | refine below_set ?_ GE166.out) | exact HB.out)⟩⟩
                  · rw [if_neg c45] at H
                    exact absurd H (by simp)
                · rw [if_neg c44] at H
                  exact absurd H (by simp)
              · rw [if_neg c43] at H
                have c43b0 : ((bt a3 x30_1) == 82) = false := beq_eq_false_iff_ne.mpr c43
                have c43b1 : ((bt a3 x30_1) != 82) = true := bne_iff_ne.mpr c43
                obtain ⟨y179, hy179⟩ : ∃ y_ : List (S56), y_ = (([(⟨false, wrap64 (Int.tdiv x147001_1 2), ((bt a3 x30_1) == 84)⟩ : S56)] : List (S56))) := ⟨_, rfl⟩
                replace H : (if x11_1.length + y179.length < 5864062014805 then ((some (([(⟨x147000_1, wrap64 (Int.tdiv x147001_1 2)⟩ : S24)] : List (S24)) : List (S24))).bind fun y185 => (if x12_1.length + y185.length < 8796093022208 then (impl_setupOf.l0 k1 a3 (x11_1 ++ y179) (x12_1 ++ y185) (a3.size : Int) (wrap64 (x30_1 + 1)) x147000_1 (wrap64 (Int.tdiv x147001_1 2))) else (none))) else (none)) = some (r1, r2) := by first | (rw [hy179]; with_reducible exact H) | (have H2_ := (Option.bind_some _ _).symm.trans H; rw [hy179]; with_reducible exact H2_) | (have H2_ := (Option.bind_some _ _).symm.trans H; with_reducible exact H2_) | with_reducible exact H | (rw [hy179]; exact H) | exact H
                have Ny179 := Aside0.mk hy179
                clear hy179
                by_cases c65 : x11_1.length + y179.length < 5864062014805
                · rw [if_pos c65] at H
                  have LMc65 := Aside0.mk c65
                  clear c65
                  obtain ⟨y182, hy182⟩ : ∃ y_ : List (S56), y_ = (x11_1 ++ y179) := ⟨_, rfl⟩
                  replace H : ((some (([(⟨x147000_1, wrap64 (Int.tdiv x147001_1 2)⟩ : S24)] : List (S24)) : List (S24))).bind fun y185 => (if x12_1.length + y185.length < 8796093022208 then (impl_setupOf.l0 k1 a3 y182 (x12_1 ++ y185) (a3.size : Int) (wrap64 (x30_1 + 1)) x147000_1 (wrap64 (Int.tdiv x147001_1 2))) else (none))) = some (r1, r2) := by first | (rw [hy182]; with_reducible exact H) | (have H2_ := (Option.bind_some _ _).symm.trans H; rw [hy182]; with_reducible exact H2_) | (have H2_ := (Option.bind_some _ _).symm.trans H; with_reducible exact H2_) | with_reducible exact H | (rw [hy182]; exact H) | exact H
                  have Ny182 := Aside0.mk hy182
                  clear hy182
                  obtain ⟨y185, hy185⟩ : ∃ y_ : List (S24), y_ = (([(⟨x147000_1, wrap64 (Int.tdiv x147001_1 2)⟩ : S24)] : List (S24))) := ⟨_, rfl⟩
                  replace H : (if x12_1.length + y185.length < 8796093022208 then (impl_setupOf.l0 k1 a3 y182 (x12_1 ++ y185) (a3.size : Int) (wrap64 (x30_1 + 1)) x147000_1 (wrap64 (Int.tdiv x147001_1 2))) else (none)) = some (r1, r2) := by first | (rw [hy185]; with_reducible exact H) | (have H2_ := (Option.bind_some _ _).symm.trans H; rw [hy185]; with_reducible exact H2_) | (have H2_ := (Option.bind_some _ _).symm.trans H; with_reducible exact H2_) | with_reducible exact H | (rw [hy185]; exact H) | exact H
                  have Ny185 := Aside0.mk hy185
                  clear hy185
                  by_cases c66 : x12_1.length + y185.length < 8796093022208
                  · rw [if_pos c66] at H
                    have LMc66 := Aside0.mk c66
                    clear c66
                    obtain ⟨y188, hy188⟩ : ∃ y_ : List (S24), y_ = (x12_1 ++ y185) := ⟨_, rfl⟩
                    replace H : (impl_setupOf.l0 k1 a3 y182 y188 (a3.size : Int) (wrap64 (x30_1 + 1)) x147000_1 (wrap64 (Int.tdiv x147001_1 2))) = some (r1, r2) := by first | (rw [hy188]; with_reducible exact H) | (have H2_ := (Option.bind_some _ _).symm.trans H; rw [hy188]; with_reducible exact H2_) | (have H2_ := (Option.bind_some _ _).symm.trans H; with_reducible exact H2_) | with_reducible exact H | (rw [hy188]; exact H) | exact H
                    have Ny188 := Aside0.mk hy188
                    clear hy188
                    have H' := Aside0.mk H
                    clear H
                    have p20 : 0 ≤ (x30_1 : Int) := of_decide_eq_true (by first | (with_reducible assumption) | assumption)
                    have q20 : x30_1 < (a3.size : Int) := of_decide_eq_true (by first | (with_reducible assumption) | assumption)
                    have hx20 := bt_at a3 x30_1
                    replace p20 := eq_true p20
                    replace q20 := eq_true q20
                    try go_wp2_with (first | ((with_reducible refine gate_dst (N := 15) rfl ?_); refine box_event ?hg (N := 15) ?hd (cs := #[.bool false, .int .i64 0, .bool false]) (t := 56) ?hr ?_; (case hd => rfl); (case hg => rfl); (case hr => first | (go_simp; done) | (go_simp; rfl)); intro gb166 hg w67 hbox hb; have n0_ := Aside0.mk (Kd.R_below (Kd.R_elderB (by (with_reducible repeat (first | apply Kd.R_alloc | apply Kd.R_drewN | apply Kd.R_drew)); exact HO_11.out) gb166 (Nat.le_of_eq hg.symm)) hb); have n1_ := Aside0.mk (Kd.R_below (by (with_reducible repeat (first | apply Kd.R_alloc | apply Kd.R_drewN | apply Kd.R_drew)); exact HO_12.out) hb); have n2_ := Aside0.mk (blk_below (g := gb145) (o := .cells #[.int .i64 a2_0, .int .i64 a2_1] 24 (0, 0)) (by (with_reducible repeat (first | refine blk_drewN ?_ _ | refine blk_drew ?_ | refine blk_alloc ?_ _)); exact BK145.out) hb); have n3_ := Aside0.mk (blk_below (g := gb146) (o := .cells #[.int .i64 x147000_1, .int .i64 x147001_1] 24 (0, 0)) (by (with_reducible repeat (first | refine blk_drewN ?_ _ | refine blk_drew ?_ | refine blk_alloc ?_ _)); exact BK146.out) hb); have n4_ := Aside0.mk (below_step (by repeat (first | (with_reducible first | exact HB.out | apply below_alloc | apply pw_below_drewN | apply below_drew1 | refine below_set ?_ GE145.out | refine below_set ?_ GE146.out) | exact HB.out)) hb); have n5_ := Aside0.mk (hbox); have n6_ := Aside0.mk ((by rw [hg]; exact (below_size (by repeat (first | (with_reducible first | exact HB.out | apply below_alloc | apply pw_below_drewN | apply below_drew1 | refine below_set ?_ GE145.out | refine below_set ?_ GE146.out) | exact HB.out))) : w.heap.size ≤ gb166)); have n7_ := Aside0.mk ((by rw [hg]; exact (below_size (by repeat (first | (with_reducible first | exact HB.out | apply below_alloc | apply pw_below_drewN | apply below_drew1 | refine below_set ?_ GE145.out | refine below_set ?_ GE146.out) | exact HB.out))) : w.heap.size ≤ gb166)); have n8_ := Aside0.mk ((by rw [hg]; exact Nat.ne_of_lt (blk_lt (g := gb145) (o := .cells #[.int .i64 a2_0, .int .i64 a2_1] 24 (0, 0)) (by (with_reducible repeat (first | refine blk_drewN ?_ _ | refine blk_drew ?_ | refine blk_alloc ?_ _)); exact BK145.out)) : gb145 ≠ gb166)); have n9_ := Aside0.mk ((by rw [hg]; exact Nat.ne_of_gt (blk_lt (g := gb145) (o := .cells #[.int .i64 a2_0, .int .i64 a2_1] 24 (0, 0)) (by (with_reducible repeat (first | refine blk_drewN ?_ _ | refine blk_drew ?_ | refine blk_alloc ?_ _)); exact BK145.out)) : gb166 ≠ gb145)); have n10_ := Aside0.mk ((by rw [hg]; exact Nat.ne_of_lt (blk_lt (g := gb146) (o := .cells #[.int .i64 x147000_1, .int .i64 x147001_1] 24 (0, 0)) (by (with_reducible repeat (first | refine blk_drewN ?_ _ | refine blk_drew ?_ | refine blk_alloc ?_ _)); exact BK146.out)) : gb146 ≠ gb166)); have n11_ := Aside0.mk ((by rw [hg]; exact Nat.ne_of_gt (blk_lt (g := gb146) (o := .cells #[.int .i64 x147000_1, .int .i64 x147001_1] 24 (0, 0)) (by (with_reducible repeat (first | refine blk_drewN ?_ _ | refine blk_drew ?_ | refine blk_alloc ?_ _)); exact BK146.out)) : gb166 ≠ gb146)); clear HO_11; clear HO_12; clear BK145; clear BK146; clear HB; have HO_11 := n0_; have HO_12 := n1_; have BK145 := n2_; have BK146 := n3_; have HB := n4_; have BK166 := n5_; have GW166 := n6_; have GE166 := n7_; have NB145_166 := n8_; have NB166_145 := n9_; have NB146_166 := n10_; have NB166_146 := n11_; clear n0_ n1_ n2_ n3_ n4_ n5_ n6_ n7_ n8_ n9_ n10_ n11_; clear hb hbox hg; have hnb68 := NB166_145.out; have hnc68 := NB145_166.out; have hnb69 := NB166_146.out; have hnc69 := NB146_166.out; have hcz70_0 : w67.cell? ⟨gb166, 0, none⟩ = some (.bool false) := (blk_cell BK166.out 0).trans rfl; have hcz70_1 : w67.cell? ⟨gb166, 1, none⟩ = some (.int .i64 0) := (blk_cell BK166.out 1).trans rfl; have hcz70_2 : w67.cell? ⟨gb166, 2, none⟩ = some (.bool false) := (blk_cell BK166.out 2).trans rfl; have hfz70_0 := blk_frozen BK166.out 0; have hfz70_1 := blk_frozen BK166.out 1; have hfz70_2 := blk_frozen BK166.out 2; have hnb71 := NB146_145.out; have hnc71 := NB145_146.out; have hcz72_0 : w67.cell? ⟨gb146, 0, none⟩ = some (.int .i64 x147000_1) := (blk_cell BK146.out 0).trans rfl; have hcz72_1 : w67.cell? ⟨gb146, 1, none⟩ = some (.int .i64 x147001_1) := (blk_cell BK146.out 1).trans rfl; have hfz72_0 := blk_frozen BK146.out 0; have hfz72_1 := blk_frozen BK146.out 1; obtain ⟨Ao73, co73, eo73⟩ := Kd.R_slice HO_11.out; subst eo73; obtain ⟨Ao74, co74, eo74⟩ := Kd.R_slice HO_12.out; subst eo74))
                    have n0_ : Aside0 (Kd.R k56 56 (((((w67.setCell ⟨gb166, 0, none⟩ (.bool false)).setCell ⟨gb166, 1, none⟩ (.int .i64 0)).setCell ⟨gb166, 2, none⟩ (.bool ((bt a3 x30_1) == 84))).setCell ⟨gb146, 1, none⟩ (.int .i64 (wrap64 (Int.tdiv x147001_1 2)))).setCell ⟨gb166, 1, none⟩ (.int .i64 (wrap64 (Int.tdiv x147001_1 2)))) w.heap.size (fun k_ => k_ ≠ gb166) (.slice Ao73 x11_1.length co73) x11_1) := ⟨by (with_reducible repeat (first | apply Kd.R_alloc | apply Kd.R_drewN | apply Kd.R_drew)); exact Kd.R_mono (Kd.R_far (p := ⟨gb166, 1, none⟩) (Kd.R_far (p := ⟨gb146, 1, none⟩) (Kd.R_far (p := ⟨gb166, 2, none⟩) (Kd.R_far (p := ⟨gb166, 1, none⟩) (Kd.R_far (p := ⟨gb166, 0, none⟩) (Kd.R_types (Kd.R_mono HO_11.out (fun k_ hk => (⟨hk, hk.2⟩ : _ ∧ k_ ≠ gb166))) BK146.out (by decide)) (fun _ hk => hk.1.2) (.bool false)) (fun _ hk => hk.1.2) (.int .i64 0)) (fun _ hk => hk.1.2) (.bool ((bt a3 x30_1) == 84))) (fun _ hk => hk.2) (.int .i64 (wrap64 (Int.tdiv x147001_1 2)))) (fun _ hk => hk.1.2) (.int .i64 (wrap64 (Int.tdiv x147001_1 2)))) (fun _ hk => hk.1.1.2)⟩
                    have n1_ : Aside0 (Kd.R k24 24 (((((w67.setCell ⟨gb166, 0, none⟩ (.bool false)).setCell ⟨gb166, 1, none⟩ (.int .i64 0)).setCell ⟨gb166, 2, none⟩ (.bool ((bt a3 x30_1) == 84))).setCell ⟨gb146, 1, none⟩ (.int .i64 (wrap64 (Int.tdiv x147001_1 2)))).setCell ⟨gb166, 1, none⟩ (.int .i64 (wrap64 (Int.tdiv x147001_1 2)))) w.heap.size (fun k_ => k_ ≠ gb145 ∧ k_ ≠ gb146) (.slice Ao74 x12_1.length co74) x12_1) := ⟨by (with_reducible repeat (first | apply Kd.R_alloc | apply Kd.R_drewN | apply Kd.R_drew)); exact Kd.R_mono (Kd.R_far (p := ⟨gb166, 1, none⟩) (Kd.R_far (p := ⟨gb146, 1, none⟩) (Kd.R_far (p := ⟨gb166, 2, none⟩) (Kd.R_far (p := ⟨gb166, 1, none⟩) (Kd.R_far (p := ⟨gb166, 0, none⟩) (Kd.R_mono (Kd.R_types HO_12.out BK166.out (by decide)) (fun k_ hk => (⟨hk, hk.1.2⟩ : _ ∧ k_ ≠ gb146))) (fun _ hk => hk.1.2) (.bool false)) (fun _ hk => hk.1.2) (.int .i64 0)) (fun _ hk => hk.1.2) (.bool ((bt a3 x30_1) == 84))) (fun _ hk => hk.2) (.int .i64 (wrap64 (Int.tdiv x147001_1 2)))) (fun _ hk => hk.1.2) (.int .i64 (wrap64 (Int.tdiv x147001_1 2)))) (fun _ hk => ⟨hk.1.1.1, hk.1.1.2⟩)⟩
                    have n2_ : Aside0 ((((((w67.setCell ⟨gb166, 0, none⟩ (.bool false)).setCell ⟨gb166, 1, none⟩ (.int .i64 0)).setCell ⟨gb166, 2, none⟩ (.bool ((bt a3 x30_1) == 84))).setCell ⟨gb146, 1, none⟩ (.int .i64 (wrap64 (Int.tdiv x147001_1 2)))).setCell ⟨gb166, 1, none⟩ (.int .i64 (wrap64 (Int.tdiv x147001_1 2)))).heap[gb145]? = some (.cells #[.int .i64 a2_0, .int .i64 a2_1] 24 (0, 0))) := ⟨by (with_reducible repeat (first | refine blk_drewN ?_ _ | refine blk_drew ?_ | refine blk_alloc ?_ _)); refine blk_far ?_ NB145_166.out _; (with_reducible repeat (first | refine blk_drewN ?_ _ | refine blk_drew ?_ | refine blk_alloc ?_ _)); refine blk_far ?_ NB145_146.out _; (with_reducible repeat (first | refine blk_drewN ?_ _ | refine blk_drew ?_ | refine blk_alloc ?_ _)); refine blk_far ?_ NB145_166.out _; (with_reducible repeat (first | refine blk_drewN ?_ _ | refine blk_drew ?_ | refine blk_alloc ?_ _)); refine blk_far ?_ NB145_166.out _; (with_reducible repeat (first | refine blk_drewN ?_ _ | refine blk_drew ?_ | refine blk_alloc ?_ _)); refine blk_far ?_ NB145_166.out _; (with_reducible repeat (first | refine blk_drewN ?_ _ | refine blk_drew ?_ | refine blk_alloc ?_ _)); exact BK145.out⟩
                    have n3_ : Aside0 ((((((w67.setCell ⟨gb166, 0, none⟩ (.bool false)).setCell ⟨gb166, 1, none⟩ (.int .i64 0)).setCell ⟨gb166, 2, none⟩ (.bool ((bt a3 x30_1) == 84))).setCell ⟨gb146, 1, none⟩ (.int .i64 (wrap64 (Int.tdiv x147001_1 2)))).setCell ⟨gb166, 1, none⟩ (.int .i64 (wrap64 (Int.tdiv x147001_1 2)))).heap[gb146]? = some (.cells #[.int .i64 x147000_1, .int .i64 (wrap64 (Int.tdiv x147001_1 2))] 24 (0, 0))) := ⟨by (with_reducible repeat (first | refine blk_drewN ?_ _ | refine blk_drew ?_ | refine blk_alloc ?_ _)); refine blk_far ?_ NB146_166.out _; (with_reducible repeat (first | refine blk_drewN ?_ _ | refine blk_drew ?_ | refine blk_alloc ?_ _)); refine blk_put (cs := #[.int .i64 x147000_1, .int .i64 x147001_1]) ?_ 1 _ rfl; (with_reducible repeat (first | refine blk_drewN ?_ _ | refine blk_drew ?_ | refine blk_alloc ?_ _)); refine blk_far ?_ NB146_166.out _; (with_reducible repeat (first | refine blk_drewN ?_ _ | refine blk_drew ?_ | refine blk_alloc ?_ _)); refine blk_far ?_ NB146_166.out _; (with_reducible repeat (first | refine blk_drewN ?_ _ | refine blk_drew ?_ | refine blk_alloc ?_ _)); refine blk_far ?_ NB146_166.out _; (with_reducible repeat (first | refine blk_drewN ?_ _ | refine blk_drew ?_ | refine blk_alloc ?_ _)); exact BK146.out⟩
                    have n4_ : Aside0 ((((((w67.setCell ⟨gb166, 0, none⟩ (.bool false)).setCell ⟨gb166, 1, none⟩ (.int .i64 0)).setCell ⟨gb166, 2, none⟩ (.bool ((bt a3 x30_1) == 84))).setCell ⟨gb146, 1, none⟩ (.int .i64 (wrap64 (Int.tdiv x147001_1 2)))).setCell ⟨gb166, 1, none⟩ (.int .i64 (wrap64 (Int.tdiv x147001_1 2)))).heap[gb166]? = some (.cells #[.bool false, .int .i64 (wrap64 (Int.tdiv x147001_1 2)), .bool ((bt a3 x30_1) == 84)] 56 (0, 0))) := ⟨by (with_reducible repeat (first | refine blk_drewN ?_ _ | refine blk_drew ?_ | refine blk_alloc ?_ _)); refine blk_put (cs := #[.bool false, .int .i64 0, .bool ((bt a3 x30_1) == 84)]) ?_ 1 _ rfl; (with_reducible repeat (first | refine blk_drewN ?_ _ | refine blk_drew ?_ | refine blk_alloc ?_ _)); refine blk_far ?_ NB166_146.out _; (with_reducible repeat (first | refine blk_drewN ?_ _ | refine blk_drew ?_ | refine blk_alloc ?_ _)); refine blk_put (cs := #[.bool false, .int .i64 0, .bool false]) ?_ 2 _ rfl; (with_reducible repeat (first | refine blk_drewN ?_ _ | refine blk_drew ?_ | refine blk_alloc ?_ _)); refine blk_put (cs := #[.bool false, .int .i64 0, .bool false]) ?_ 1 _ rfl; (with_reducible repeat (first | refine blk_drewN ?_ _ | refine blk_drew ?_ | refine blk_alloc ?_ _)); refine blk_put (cs := #[.bool false, .int .i64 0, .bool false]) ?_ 0 _ rfl; (with_reducible repeat (first | refine blk_drewN ?_ _ | refine blk_drew ?_ | refine blk_alloc ?_ _)); exact BK166.out⟩
                    have n5_ : Aside0 (Below w.heap.size w (((((w67.setCell ⟨gb166, 0, none⟩ (.bool false)).setCell ⟨gb166, 1, none⟩ (.int .i64 0)).setCell ⟨gb166, 2, none⟩ (.bool ((bt a3 x30_1) == 84))).setCell ⟨gb146, 1, none⟩ (.int .i64 (wrap64 (Int.tdiv x147001_1 2)))).setCell ⟨gb166, 1, none⟩ (.int .i64 (wrap64 (Int.tdiv x147001_1 2))))) := ⟨by repeat (first | (with_reducible first | exact HB.out | apply below_alloc | apply pw_below_drewN | apply below_drew1 | refine below_set ?_ GE145.out | refine below_set ?_ GE146.out | refine below_set ?_ GE166.out) | exact HB.out)⟩
                    (try clear HO_11)
                    (try clear HO_12)
                    (try clear BK145)
                    (try clear BK146)
                    (try clear BK166)
                    (try clear HB)
                    generalize (((((w67.setCell ⟨gb166, 0, none⟩ (.bool false)).setCell ⟨gb166, 1, none⟩ (.int .i64 0)).setCell ⟨gb166, 2, none⟩ (.bool ((bt a3 x30_1) == 84))).setCell ⟨gb146, 1, none⟩ (.int .i64 (wrap64 (Int.tdiv x147001_1 2)))).setCell ⟨gb166, 1, none⟩ (.int .i64 (wrap64 (Int.tdiv x147001_1 2)))) = w75 at n0_ n1_ n2_ n3_ n4_ n5_ ⊢
                    have HO_11 := n0_
                    have HO_12 := n1_
                    have BK145 := n2_
                    have BK146 := n3_
                    have BK166 := n4_
                    have HB := n5_
                    clear n0_ n1_ n2_ n3_ n4_ n5_
                    have n0_ := Aside0.mk (Kd.R_drew HO_11.out)
                    have n1_ := Aside0.mk (Kd.R_drew HO_12.out)
                    have n2_ := Aside0.mk (blk_drew BK145.out)
                    have n3_ := Aside0.mk (blk_drew BK146.out)
                    have n4_ := Aside0.mk (blk_drew BK166.out)
                    have n5_ := Aside0.mk (below_drew1 HB.out)
                    clear HO_11
                    clear HO_12
                    clear BK145
                    clear BK146
                    clear BK166
                    clear HB
                    have HO_11 := n0_
                    have HO_12 := n1_
                    have BK145 := n2_
                    have BK146 := n3_
                    have BK166 := n4_
                    have HB := n5_
                    clear n0_ n1_ n2_ n3_ n4_ n5_
                    refine start_ (n := 10) (S := fun w' => w'.cell? ⟨gb166, 0, none⟩ = some (.bool false) ∧ w'.cell? ⟨gb166, 1, none⟩ = some (.int .i64 (wrap64 (Int.tdiv x147001_1 2))) ∧ w'.cell? ⟨gb166, 2, none⟩ = some (.bool ((bt a3 x30_1) == 84)) ∧ w'.cell? ⟨gb146, 0, none⟩ = some (.int .i64 x147000_1) ∧ w'.cell? ⟨gb146, 1, none⟩ = some (.int .i64 (wrap64 (Int.tdiv x147001_1 2)))) (ds := []) #[false, false, false, false, false, false, false, false, false, false] (by kernel_rfl) rfl rfl ⟨(blk_cell BK166.out 0).trans rfl, (blk_cell BK166.out 1).trans rfl, (blk_cell BK166.out 2).trans rfl, (blk_cell BK146.out 0).trans rfl, (blk_cell BK146.out 1).trans rfl⟩ (fun hHeld => ?_); refine with_tabW impl_setupOf.tab13 impl_setupOf.bits13 (fun HT_ HW_ => ?_)
                    generalize w75.drew = w76 at HO_11 HO_12 BK145 BK146 BK166 HB hHeld ⊢
                    refine pure_ (i := 0) (N := some 65) (v := ?_) (a' := ?_) #[true, false, false, false, false, false, false, false, false, false] rfl rfl (any_of HT_.out (by kernel_rfl)) (fun _ _ _ h => h) (Or.inl ⟨by rfl, ?_⟩) ?_ ?_
                    rotate_left
                    · intro w'
                      go_simp
                      with_reducible rfl
                    rotate_left
                    · simp only [Act.put, List.setIfInBounds_toArray, List.set_cons_zero, List.set_cons_succ, i64_w, i32_w]
                      rfl
                    refine pure_ (i := 4) (N := some 69) (v := ?_) (a' := ?_) #[true, false, false, false, true, false, false, false, false, false] rfl rfl (any_of HT_.out (by kernel_rfl)) (fun _ _ _ h => h) (Or.inl ⟨by rfl, ?_⟩) ?_ ?_
                    rotate_left
                    · intro w'
                      go_simp
                      with_reducible rfl
                    rotate_left
                    · simp only [Act.put, List.setIfInBounds_toArray, List.set_cons_zero, List.set_cons_succ, i64_w, i32_w]
                      rfl
                    refine take_ (i := 1) (N := some 66) (v := ?_) (a' := ?_) #[true, true, false, false, true, false, false, false, false, false] rfl rfl (take_ofW HT_.out HW_.out (by kernel_rfl)) (fun _ _ _ h => h) (Or.inl ⟨by rfl, ?_⟩) hHeld ?_ ?_
                    rotate_left
                    · rintro w' ⟨s0, s1, s2, s3, s4⟩
                      go_simp
                      with_reducible rfl
                    rotate_left
                    · simp only [Act.put, List.setIfInBounds_toArray, List.set_cons_zero, List.set_cons_succ, i64_w, i32_w]
                      rfl
                    refine take_ (i := 5) (N := some 70) (v := ?_) (a' := ?_) #[true, true, false, false, true, true, false, false, false, false] rfl rfl (take_ofW HT_.out HW_.out (by kernel_rfl)) (fun _ _ _ h => h) (Or.inl ⟨by rfl, ?_⟩) hHeld ?_ ?_
                    rotate_left
                    · rintro w' ⟨s0, s1, s2, s3, s4⟩
                      go_simp
                      with_reducible rfl
                    rotate_left
                    · simp only [Act.put, List.setIfInBounds_toArray, List.set_cons_zero, List.set_cons_succ, i64_w, i32_w]
                      rfl
                    refine join_ (σ := Value × Value × Value) 3 #[true, true, true, true, true, true, true, false, false, false] (fun s_ => [(67, s_.1), (68, s_.2.1), (71, s_.2.2)]) (fun s_ w' => (w'.cell? ⟨gb166, 0, none⟩ = some (.bool false) ∧ w'.cell? ⟨gb166, 1, none⟩ = some (.int .i64 (wrap64 (Int.tdiv x147001_1 2))) ∧ w'.cell? ⟨gb166, 2, none⟩ = some (.bool ((bt a3 x30_1) == 84)) ∧ w'.cell? ⟨gb146, 0, none⟩ = some (.int .i64 x147000_1) ∧ w'.cell? ⟨gb146, 1, none⟩ = some (.int .i64 (wrap64 (Int.tdiv x147001_1 2)))) ∧ (Kd.R k56 56 w' w.heap.size (fun k_ => some k_ ≠ (s_.2.1 : Value).ownBlock ∧ k_ ≠ gb166) s_.1 y179) ∧ (Kd.R k56 56 w' w.heap.size (fun k_ => some k_ ≠ (s_.1 : Value).ownBlock ∧ k_ ≠ gb166) s_.2.1 y182) ∧ (Kd.R k24 24 w' w.heap.size (fun k_ => some k_ ≠ (.slice Ao74 x12_1.length co74 : Value).ownBlock ∧ k_ ≠ gb145 ∧ k_ ≠ gb146) s_.2.2 y185) ∧ (Kd.R k24 24 w' w.heap.size (fun k_ => some k_ ≠ (s_.2.2 : Value).ownBlock ∧ k_ ≠ gb145 ∧ k_ ≠ gb146) (.slice Ao74 x12_1.length co74) x12_1) ∧ (w'.heap[gb145]? = some (.cells #[.int .i64 a2_0, .int .i64 a2_1] 24 (0, 0))) ∧ (w'.heap[gb146]? = some (.cells #[.int .i64 x147000_1, .int .i64 (wrap64 (Int.tdiv x147001_1 2))] 24 (0, 0))) ∧ (w'.heap[gb166]? = some (.cells #[.bool false, .int .i64 (wrap64 (Int.tdiv x147001_1 2)), .bool ((bt a3 x30_1) == 84)] 56 (0, 0))) ∧ (Below w.heap.size w w')) ?_ ?_
                    rotate_left
                    · intro hCont
                      refine two_ (i := 2) (j := 6) (Ni := some 67) (Nj := some 71) #[true, true, true, false, true, true, false, false, false, false] #[true, true, false, false, true, true, true, false, false, false] rfl rfl rfl rfl (two_of HT_.out (by kernel_rfl)) (by decide) (by decide) (fun K hK => ?_) (fun K hK => ?_)
                      · skip
                        refine Kd.R_lit_step k56 _ 56 ?hg (N := 67) ?hd (xs := ([(⟨false, wrap64 (Int.tdiv x147001_1 2), ((bt a3 x30_1) == 84)⟩ : S56)] : List (S56))) (inner := [.bool false, .int .i64 (wrap64 (Int.tdiv x147001_1 2)), .bool ((bt a3 x30_1) == 84)]) (ok := fun _ => True) (okp := fun _ => True) ?hr ?hp (fun _ hk => hk) trivial (Below.refl _ _) (Nat.le_refl _) (by simp) ?_; (case hd => rfl); (case hg => rfl); (case hr => first | (go_simp; done) | (go_simp; rfl)); (case hp => exact (Reps.c3 (show Kd.M k56 _ _ _ (⟨false, wrap64 (Int.tdiv x147001_1 2), ((bt a3 x30_1) == 84)⟩ : S56) [.bool false, .int .i64 (wrap64 (Int.tdiv x147001_1 2)), .bool ((bt a3 x30_1) == 84)] from (k56_mkM _ _ _ (⟨false, wrap64 (Int.tdiv x147001_1 2), ((bt a3 x30_1) == 84)⟩ : S56) )) (Reps.none _ _)))
                        intro v180 w77 ho78 hb hg_ hnew_
                        clear hg_ hnew_
                        (first | rw [← Ny179.out] at ho78 | (simp only [Int.reduceToNat] at ho78; rw [← Ny179.out] at ho78))
                        have n0_ := Aside0.mk (Kd.R_elder' (by (with_reducible repeat (first | apply Kd.R_alloc | apply Kd.R_drewN | apply Kd.R_drew)); exact HO_11.out) (Kd.R_base ho78) hb)
                        have n1_ := Aside0.mk (Kd.R_below (by (with_reducible repeat (first | apply Kd.R_alloc | apply Kd.R_drewN | apply Kd.R_drew)); exact HO_12.out) hb)
                        have n2_ := Aside0.mk (Kd.R_lower (Kd.R_newB (Kd.R_new' ho78 (Kd.R_lt (by (with_reducible repeat (first | apply Kd.R_alloc | apply Kd.R_drewN | apply Kd.R_drew)); exact HO_11.out))) (g := gb166) (o := .cells #[.bool false, .int .i64 (wrap64 (Int.tdiv x147001_1 2)), .bool ((bt a3 x30_1) == 84)] 56 (0, 0)) (by (with_reducible repeat (first | refine blk_drewN ?_ _ | refine blk_drew ?_ | refine blk_alloc ?_ _)); exact BK166.out)) (below_size (by repeat (first | (with_reducible first | exact HB.out | apply below_alloc | apply pw_below_drewN | apply below_drew1 | refine below_set ?_ GE145.out | refine below_set ?_ GE146.out | refine below_set ?_ GE166.out) | exact HB.out))))
                        have n3_ := Aside0.mk (blk_below (g := gb145) (o := .cells #[.int .i64 a2_0, .int .i64 a2_1] 24 (0, 0)) (by (with_reducible repeat (first | refine blk_drewN ?_ _ | refine blk_drew ?_ | refine blk_alloc ?_ _)); exact BK145.out) hb)
                        have n4_ := Aside0.mk (blk_below (g := gb146) (o := .cells #[.int .i64 x147000_1, .int .i64 (wrap64 (Int.tdiv x147001_1 2))] 24 (0, 0)) (by (with_reducible repeat (first | refine blk_drewN ?_ _ | refine blk_drew ?_ | refine blk_alloc ?_ _)); exact BK146.out) hb)
                        have n5_ := Aside0.mk (blk_below (g := gb166) (o := .cells #[.bool false, .int .i64 (wrap64 (Int.tdiv x147001_1 2)), .bool ((bt a3 x30_1) == 84)] 56 (0, 0)) (by (with_reducible repeat (first | refine blk_drewN ?_ _ | refine blk_drew ?_ | refine blk_alloc ?_ _)); exact BK166.out) hb)
                        have n6_ := Aside0.mk (below_step (by repeat (first | (with_reducible first | exact HB.out | apply below_alloc | apply pw_below_drewN | apply below_drew1 | refine below_set ?_ GE145.out | refine below_set ?_ GE146.out | refine below_set ?_ GE166.out) | exact HB.out)) hb)
                        clear HO_11
                        clear HO_12
                        clear BK145
                        clear BK146
                        clear BK166
                        clear HB
                        have HO_11 := n0_
                        have HO_12 := n1_
                        have HO181 := n2_
                        have BK145 := n3_
                        have BK146 := n4_
                        have BK166 := n5_
                        have HB := n6_
                        clear n0_ n1_ n2_ n3_ n4_ n5_ n6_
                        clear hb ho78
                        obtain ⟨Ao80, co80, eo80⟩ := Kd.R_slice HO181.out
                        (first | subst eo80 | (injection eo80 with f1_ f2_ f3_; have f4_ := f1_.symm; have f5_ := f3_.symm; clear f1_ f2_ f3_; subst f4_; subst f5_))
                        refine hK.out _ _ ⟨(blk_cell BK166.out 0).trans rfl, (blk_cell BK166.out 1).trans rfl, (blk_cell BK166.out 2).trans rfl, (blk_cell BK146.out 0).trans rfl, (blk_cell BK146.out 1).trans rfl⟩ (fun hHeld => ?_)
                        clear hK K
                        refine norm_ (a' := ?_) ?_ ?_
                        rotate_left
                        · show Act.put _ (some 67) _ = _
                          simp only [Act.put, List.setIfInBounds_toArray, List.set_cons_zero, List.set_cons_succ, i64_w, i32_w]
                          rfl
                        refine two_ (i := 3) (j := 6) (Ni := some 68) (Nj := some 71) #[true, true, true, true, true, true, false, false, false, false] #[true, true, true, false, true, true, true, false, false, false] rfl rfl rfl rfl (two_of HT_.out (by kernel_rfl)) (by decide) (by decide) (fun K hK => ?_) (fun K hK => ?_)
                        · skip
                          refine Kd.R_append_rows_step k56 (w0 := w) w.heap.size (by rfl) (.tmp 65) (.tmp 67) 30 56 (.agg #[(.bool false), (.int .i64 0), (.bool false)]) 24 rfl Tryd.underlying30 info56 rfl (by decide) (by omega) (.slice Ao73 x11_1.length co73) x11_1 y179 _ _ _ (fun k_ => some k_ ≠ (.slice Ao80 y179.length co80 : Value).ownBlock ∧ k_ ≠ gb166) (fun _ => False) rfl rfl ?aO ?aR (fun _ _ h => h) (fun _ h => h.elim) ?aF ?aB ?aS ?aL ?_
                          (case aR => repeat (first | exact (Kd.R_reads' HO181.out).2.2 | (with_reducible refine Kd.C_alloc ?_ _) | (with_reducible refine Kd.C_drewN ?_ _) | (with_reducible refine Kd.C_drew ?_)))
                          (case aB => exact (by repeat (first | (with_reducible first | exact HB.out | apply below_alloc | apply pw_below_drewN | apply below_drew1 | refine below_set ?_ GE145.out | refine below_set ?_ GE146.out | refine below_set ?_ GE166.out) | exact HB.out)))
                          (case aF => exact (fun k_ hk => ⟨Kd.fresh' (Kd.R_lt (by (with_reducible repeat (first | apply Kd.R_alloc | apply Kd.R_drewN | apply Kd.R_drew)); exact HO181.out)) k_ hk, Kd.freshB (g := gb166) (o := .cells #[.bool false, .int .i64 (wrap64 (Int.tdiv x147001_1 2)), .bool ((bt a3 x30_1) == 84)] 56 (0, 0)) (by (with_reducible repeat (first | refine blk_drewN ?_ _ | refine blk_drew ?_ | refine blk_alloc ?_ _)); exact BK166.out) k_ hk⟩))
                          (case aO => exact (by (with_reducible repeat (first | apply Kd.R_alloc | apply Kd.R_drewN | apply Kd.R_drew)); exact Kd.R_mono HO_11.out (fun _ hk => ⟨hk.2, hk.1⟩)))
                          (case aS => exact (below_size (by repeat (first | (with_reducible first | exact HB.out | apply below_alloc | apply pw_below_drewN | apply below_drew1 | refine below_set ?_ GE145.out | refine below_set ?_ GE146.out | refine below_set ?_ GE166.out) | exact HB.out))))
                          (case aL => have := LMc65.out; omega)
                          intro v183 w79 ho hb hg hat
                          rw [← Ny182.out] at ho
                          have n0_ := Aside0.mk (Kd.R_over' (by (with_reducible repeat (first | apply Kd.R_alloc | apply Kd.R_drewN | apply Kd.R_drew)); exact HO_12.out) (Kd.R_typed (by (with_reducible repeat (first | apply Kd.R_alloc | apply Kd.R_drewN | apply Kd.R_drew)); exact HO_11.out)) (by decide) hg)
                          have n1_ := Aside0.mk (blk_grown (g := gb145) (o := .cells #[.int .i64 a2_0, .int .i64 a2_1] 24 (0, 0)) (by (with_reducible repeat (first | refine blk_drewN ?_ _ | refine blk_drew ?_ | refine blk_alloc ?_ _)); exact BK145.out) hg (Kd.R_ne HO_11.out BK145.out (by decide)))
                          have n2_ := Aside0.mk (blk_grown (g := gb146) (o := .cells #[.int .i64 x147000_1, .int .i64 (wrap64 (Int.tdiv x147001_1 2))] 24 (0, 0)) (by (with_reducible repeat (first | refine blk_drewN ?_ _ | refine blk_drew ?_ | refine blk_alloc ?_ _)); exact BK146.out) hg (Kd.R_ne HO_11.out BK146.out (by decide)))
                          have n3_ := Aside0.mk (blk_grown (g := gb166) (o := .cells #[.bool false, .int .i64 (wrap64 (Int.tdiv x147001_1 2)), .bool ((bt a3 x30_1) == 84)] 56 (0, 0)) (by (with_reducible repeat (first | refine blk_drewN ?_ _ | refine blk_drew ?_ | refine blk_alloc ?_ _)); exact BK166.out) hg (Kd.R_away HO_11.out (fun _ hk => hk.1)))
                          have n4_ := Aside0.mk (Kd.R_after (ok := (fun k_ => k_ ≠ gb166)) (by (with_reducible repeat (first | apply Kd.R_alloc | apply Kd.R_drewN | apply Kd.R_drew)); exact Kd.R_mono HO181.out (fun _ hk => ⟨hk.2, hk.1.2⟩)) hg hat)
                          have n5_ := Aside0.mk (hb)
                          have n6_ := Aside0.mk (ho)
                          clear HO_12
                          clear BK145
                          clear BK146
                          clear BK166
                          clear HO181
                          clear HB
                          clear HO_11
                          have HO_12 := n0_
                          have BK145 := n1_
                          have BK146 := n2_
                          have BK166 := n3_
                          have HO181 := n4_
                          have HB := n5_
                          have HO184 := n6_
                          clear n0_ n1_ n2_ n3_ n4_ n5_ n6_
                          clear ho hb hg hat
                          refine hK.out _ _ ⟨(blk_cell BK166.out 0).trans rfl, (blk_cell BK166.out 1).trans rfl, (blk_cell BK166.out 2).trans rfl, (blk_cell BK146.out 0).trans rfl, (blk_cell BK146.out 1).trans rfl⟩ (fun hHeld => ?_)
                          clear hK K
                          refine norm_ (a' := ?_) ?_ ?_
                          rotate_left
                          · show Act.put _ (some 68) _ = _
                            simp only [Act.put, List.setIfInBounds_toArray, List.set_cons_zero, List.set_cons_succ, i64_w, i32_w]
                            rfl
                          refine one_ (i := 6) (N := some 71) #[true, true, true, true, true, true, true, false, false, false] rfl rfl (one_of HT_.out (by kernel_rfl)) (by decide) (fun K hK => ?_)
                          refine Kd.R_lit_step k24 _ 24 ?hg (N := 71) ?hd (xs := ([(⟨x147000_1, wrap64 (Int.tdiv x147001_1 2)⟩ : S24)] : List (S24))) (inner := [.int .i64 x147000_1, .int .i64 (wrap64 (Int.tdiv x147001_1 2))]) (ok := fun _ => True) (okp := fun _ => True) ?hr ?hp (fun _ hk => hk) trivial (Below.refl _ _) (Nat.le_refl _) (by simp) ?_; (case hd => rfl); (case hg => rfl); (case hr => first | (go_simp; done) | (go_simp; rfl)); (case hp => exact (Reps.c2 (show Kd.M k24 _ _ _ (⟨x147000_1, wrap64 (Int.tdiv x147001_1 2)⟩ : S24) [.int .i64 x147000_1, .int .i64 (wrap64 (Int.tdiv x147001_1 2))] from (k24_mkM _ _ _ (⟨x147000_1, wrap64 (Int.tdiv x147001_1 2)⟩ : S24) )) (Reps.none _ _)))
                          intro v186 w81 ho82 hb hg_ hnew_
                          clear hg_ hnew_
                          (first | rw [← Ny185.out] at ho82 | (simp only [Int.reduceToNat] at ho82; rw [← Ny185.out] at ho82))
                          have n0_ := Aside0.mk (Kd.R_elder' (by (with_reducible repeat (first | apply Kd.R_alloc | apply Kd.R_drewN | apply Kd.R_drew)); exact HO_12.out) (Kd.R_base ho82) hb)
                          have n1_ := Aside0.mk (Kd.R_below (by (with_reducible repeat (first | apply Kd.R_alloc | apply Kd.R_drewN | apply Kd.R_drew)); exact HO181.out) hb)
                          have n2_ := Aside0.mk (Kd.R_below (by (with_reducible repeat (first | apply Kd.R_alloc | apply Kd.R_drewN | apply Kd.R_drew)); exact HO184.out) hb)
                          have n3_ := Aside0.mk (Kd.R_lower (Kd.R_newB (Kd.R_newB (Kd.R_new' ho82 (Kd.R_lt (by (with_reducible repeat (first | apply Kd.R_alloc | apply Kd.R_drewN | apply Kd.R_drew)); exact HO_12.out))) (g := gb145) (o := .cells #[.int .i64 a2_0, .int .i64 a2_1] 24 (0, 0)) (by (with_reducible repeat (first | refine blk_drewN ?_ _ | refine blk_drew ?_ | refine blk_alloc ?_ _)); exact BK145.out)) (g := gb146) (o := .cells #[.int .i64 x147000_1, .int .i64 (wrap64 (Int.tdiv x147001_1 2))] 24 (0, 0)) (by (with_reducible repeat (first | refine blk_drewN ?_ _ | refine blk_drew ?_ | refine blk_alloc ?_ _)); exact BK146.out)) (below_size (by repeat (first | (with_reducible first | exact HB.out | apply below_alloc | apply pw_below_drewN | apply below_drew1 | refine below_set ?_ GE145.out | refine below_set ?_ GE146.out | refine below_set ?_ GE166.out) | exact HB.out))))
                          have n4_ := Aside0.mk (blk_below (g := gb145) (o := .cells #[.int .i64 a2_0, .int .i64 a2_1] 24 (0, 0)) (by (with_reducible repeat (first | refine blk_drewN ?_ _ | refine blk_drew ?_ | refine blk_alloc ?_ _)); exact BK145.out) hb)
                          have n5_ := Aside0.mk (blk_below (g := gb146) (o := .cells #[.int .i64 x147000_1, .int .i64 (wrap64 (Int.tdiv x147001_1 2))] 24 (0, 0)) (by (with_reducible repeat (first | refine blk_drewN ?_ _ | refine blk_drew ?_ | refine blk_alloc ?_ _)); exact BK146.out) hb)
                          have n6_ := Aside0.mk (blk_below (g := gb166) (o := .cells #[.bool false, .int .i64 (wrap64 (Int.tdiv x147001_1 2)), .bool ((bt a3 x30_1) == 84)] 56 (0, 0)) (by (with_reducible repeat (first | refine blk_drewN ?_ _ | refine blk_drew ?_ | refine blk_alloc ?_ _)); exact BK166.out) hb)
                          have n7_ := Aside0.mk (below_step (by repeat (first | (with_reducible first | exact HB.out | apply below_alloc | apply pw_below_drewN | apply below_drew1 | refine below_set ?_ GE145.out | refine below_set ?_ GE146.out | refine below_set ?_ GE166.out) | exact HB.out)) hb)
                          clear HO_12
                          clear HO181
                          clear HO184
                          clear BK145
                          clear BK146
                          clear BK166
                          clear HB
                          have HO_12 := n0_
                          have HO181 := n1_
                          have HO184 := n2_
                          have HO187 := n3_
                          have BK145 := n4_
                          have BK146 := n5_
                          have BK166 := n6_
                          have HB := n7_
                          clear n0_ n1_ n2_ n3_ n4_ n5_ n6_ n7_
                          clear hb ho82
                          refine hK.out _ _ ⟨(blk_cell BK166.out 0).trans rfl, (blk_cell BK166.out 1).trans rfl, (blk_cell BK166.out 2).trans rfl, (blk_cell BK146.out 0).trans rfl, (blk_cell BK146.out 1).trans rfl⟩ (fun hHeld => ?_)
                          clear hK K
                          refine norm_ (a' := ?_) ?_ ?_
                          rotate_left
                          · show Act.put _ (some 71) _ = _
                            simp only [Act.put, List.setIfInBounds_toArray, List.set_cons_zero, List.set_cons_succ, i64_w, i32_w]
                            rfl
                          exact norm_ (by simp only [putAll, Act.put, List.setIfInBounds_toArray, List.set_cons_zero, List.set_cons_succ]) (hCont (.slice Ao80 y179.length co80, v183, v186) _ ⟨hHeld, (by (with_reducible repeat (first | apply Kd.R_alloc | apply Kd.R_drewN | apply Kd.R_drew)); exact Kd.R_mono HO181.out (fun _ hk => ⟨hk.2, hk.1⟩)), (by (with_reducible repeat (first | apply Kd.R_alloc | apply Kd.R_drewN | apply Kd.R_drew)); exact HO184.out), (by (with_reducible repeat (first | apply Kd.R_alloc | apply Kd.R_drewN | apply Kd.R_drew)); exact Kd.R_mono HO187.out (fun _ hk => ⟨hk.1.1.2, ⟨hk.1.2, hk.2⟩⟩)), (by (with_reducible repeat (first | apply Kd.R_alloc | apply Kd.R_drewN | apply Kd.R_drew)); exact Kd.R_mono HO_12.out (fun _ hk => ⟨hk.2, ⟨hk.1.1, hk.1.2⟩⟩)), (by (with_reducible repeat (first | refine blk_drewN ?_ _ | refine blk_drew ?_ | refine blk_alloc ?_ _)); exact BK145.out), (by (with_reducible repeat (first | refine blk_drewN ?_ _ | refine blk_drew ?_ | refine blk_alloc ?_ _)); exact BK146.out), (by (with_reducible repeat (first | refine blk_drewN ?_ _ | refine blk_drew ?_ | refine blk_alloc ?_ _)); exact BK166.out), (by repeat (first | (with_reducible first | exact HB.out | apply below_alloc | apply pw_below_drewN | apply below_drew1 | refine below_set ?_ GE145.out | refine below_set ?_ GE146.out | refine below_set ?_ GE166.out) | exact HB.out))⟩)
                        · skip
                          refine Kd.R_lit_step k24 _ 24 ?hg (N := 71) ?hd (xs := ([(⟨x147000_1, wrap64 (Int.tdiv x147001_1 2)⟩ : S24)] : List (S24))) (inner := [.int .i64 x147000_1, .int .i64 (wrap64 (Int.tdiv x147001_1 2))]) (ok := fun _ => True) (okp := fun _ => True) ?hr ?hp (fun _ hk => hk) trivial (Below.refl _ _) (Nat.le_refl _) (by simp) ?_; (case hd => rfl); (case hg => rfl); (case hr => first | (go_simp; done) | (go_simp; rfl)); (case hp => exact (Reps.c2 (show Kd.M k24 _ _ _ (⟨x147000_1, wrap64 (Int.tdiv x147001_1 2)⟩ : S24) [.int .i64 x147000_1, .int .i64 (wrap64 (Int.tdiv x147001_1 2))] from (k24_mkM _ _ _ (⟨x147000_1, wrap64 (Int.tdiv x147001_1 2)⟩ : S24) )) (Reps.none _ _)))
                          intro v186 w79 ho80 hb hg_ hnew_
                          clear hg_ hnew_
                          (first | rw [← Ny185.out] at ho80 | (simp only [Int.reduceToNat] at ho80; rw [← Ny185.out] at ho80))
                          have n0_ := Aside0.mk (Kd.R_below (by (with_reducible repeat (first | apply Kd.R_alloc | apply Kd.R_drewN | apply Kd.R_drew)); exact HO_11.out) hb)
                          have n1_ := Aside0.mk (Kd.R_elder' (by (with_reducible repeat (first | apply Kd.R_alloc | apply Kd.R_drewN | apply Kd.R_drew)); exact HO_12.out) (Kd.R_base ho80) hb)
                          have n2_ := Aside0.mk (Kd.R_below (by (with_reducible repeat (first | apply Kd.R_alloc | apply Kd.R_drewN | apply Kd.R_drew)); exact HO181.out) hb)
                          have n3_ := Aside0.mk (Kd.R_lower (Kd.R_newB (Kd.R_newB (Kd.R_new' ho80 (Kd.R_lt (by (with_reducible repeat (first | apply Kd.R_alloc | apply Kd.R_drewN | apply Kd.R_drew)); exact HO_12.out))) (g := gb145) (o := .cells #[.int .i64 a2_0, .int .i64 a2_1] 24 (0, 0)) (by (with_reducible repeat (first | refine blk_drewN ?_ _ | refine blk_drew ?_ | refine blk_alloc ?_ _)); exact BK145.out)) (g := gb146) (o := .cells #[.int .i64 x147000_1, .int .i64 (wrap64 (Int.tdiv x147001_1 2))] 24 (0, 0)) (by (with_reducible repeat (first | refine blk_drewN ?_ _ | refine blk_drew ?_ | refine blk_alloc ?_ _)); exact BK146.out)) (below_size (by repeat (first | (with_reducible first | exact HB.out | apply below_alloc | apply pw_below_drewN | apply below_drew1 | refine below_set ?_ GE145.out | refine below_set ?_ GE146.out | refine below_set ?_ GE166.out) | exact HB.out))))
                          have n4_ := Aside0.mk (blk_below (g := gb145) (o := .cells #[.int .i64 a2_0, .int .i64 a2_1] 24 (0, 0)) (by (with_reducible repeat (first | refine blk_drewN ?_ _ | refine blk_drew ?_ | refine blk_alloc ?_ _)); exact BK145.out) hb)
                          have n5_ := Aside0.mk (blk_below (g := gb146) (o := .cells #[.int .i64 x147000_1, .int .i64 (wrap64 (Int.tdiv x147001_1 2))] 24 (0, 0)) (by (with_reducible repeat (first | refine blk_drewN ?_ _ | refine blk_drew ?_ | refine blk_alloc ?_ _)); exact BK146.out) hb)
                          have n6_ := Aside0.mk (blk_below (g := gb166) (o := .cells #[.bool false, .int .i64 (wrap64 (Int.tdiv x147001_1 2)), .bool ((bt a3 x30_1) == 84)] 56 (0, 0)) (by (with_reducible repeat (first | refine blk_drewN ?_ _ | refine blk_drew ?_ | refine blk_alloc ?_ _)); exact BK166.out) hb)
                          have n7_ := Aside0.mk (below_step (by repeat (first | (with_reducible first | exact HB.out | apply below_alloc | apply pw_below_drewN | apply below_drew1 | refine below_set ?_ GE145.out | refine below_set ?_ GE146.out | refine below_set ?_ GE166.out) | exact HB.out)) hb)
                          clear HO_11
                          clear HO_12
                          clear HO181
                          clear BK145
                          clear BK146
                          clear BK166
                          clear HB
                          have HO_11 := n0_
                          have HO_12 := n1_
                          have HO181 := n2_
                          have HO187 := n3_
                          have BK145 := n4_
                          have BK146 := n5_
                          have BK166 := n6_
                          have HB := n7_
                          clear n0_ n1_ n2_ n3_ n4_ n5_ n6_ n7_
                          clear hb ho80
                          obtain ⟨Ao82, co82, eo82⟩ := Kd.R_slice HO181.out
                          (first | subst eo82 | (injection eo82 with f1_ f2_ f3_; have f4_ := f1_.symm; have f5_ := f3_.symm; clear f1_ f2_ f3_; subst f4_; subst f5_))
                          refine hK.out _ _ ⟨(blk_cell BK166.out 0).trans rfl, (blk_cell BK166.out 1).trans rfl, (blk_cell BK166.out 2).trans rfl, (blk_cell BK146.out 0).trans rfl, (blk_cell BK146.out 1).trans rfl⟩ (fun hHeld => ?_)
                          clear hK K
                          refine norm_ (a' := ?_) ?_ ?_
                          rotate_left
                          · show Act.put _ (some 71) _ = _
                            simp only [Act.put, List.setIfInBounds_toArray, List.set_cons_zero, List.set_cons_succ, i64_w, i32_w]
                            rfl
                          refine one_ (i := 3) (N := some 68) #[true, true, true, true, true, true, true, false, false, false] rfl rfl (one_of HT_.out (by kernel_rfl)) (by decide) (fun K hK => ?_)
                          refine Kd.R_append_rows_step k56 (w0 := w) w.heap.size (by rfl) (.tmp 65) (.tmp 67) 30 56 (.agg #[(.bool false), (.int .i64 0), (.bool false)]) 24 rfl Tryd.underlying30 info56 rfl (by decide) (by omega) (.slice Ao73 x11_1.length co73) x11_1 y179 _ _ _ (fun k_ => some k_ ≠ (.slice Ao82 y179.length co82 : Value).ownBlock ∧ k_ ≠ gb166) (fun _ => False) rfl rfl ?aO ?aR (fun _ _ h => h) (fun _ h => h.elim) ?aF ?aB ?aS ?aL ?_
                          (case aR => repeat (first | exact (Kd.R_reads' HO181.out).2.2 | (with_reducible refine Kd.C_alloc ?_ _) | (with_reducible refine Kd.C_drewN ?_ _) | (with_reducible refine Kd.C_drew ?_)))
                          (case aB => exact (by repeat (first | (with_reducible first | exact HB.out | apply below_alloc | apply pw_below_drewN | apply below_drew1 | refine below_set ?_ GE145.out | refine below_set ?_ GE146.out | refine below_set ?_ GE166.out) | exact HB.out)))
                          (case aF => exact (fun k_ hk => ⟨Kd.fresh' (Kd.R_lt (by (with_reducible repeat (first | apply Kd.R_alloc | apply Kd.R_drewN | apply Kd.R_drew)); exact HO181.out)) k_ hk, Kd.freshB (g := gb166) (o := .cells #[.bool false, .int .i64 (wrap64 (Int.tdiv x147001_1 2)), .bool ((bt a3 x30_1) == 84)] 56 (0, 0)) (by (with_reducible repeat (first | refine blk_drewN ?_ _ | refine blk_drew ?_ | refine blk_alloc ?_ _)); exact BK166.out) k_ hk⟩))
                          (case aO => exact (by (with_reducible repeat (first | apply Kd.R_alloc | apply Kd.R_drewN | apply Kd.R_drew)); exact Kd.R_mono HO_11.out (fun _ hk => ⟨hk.2, hk.1⟩)))
                          (case aS => exact (below_size (by repeat (first | (with_reducible first | exact HB.out | apply below_alloc | apply pw_below_drewN | apply below_drew1 | refine below_set ?_ GE145.out | refine below_set ?_ GE146.out | refine below_set ?_ GE166.out) | exact HB.out))))
                          (case aL => have := LMc65.out; omega)
                          intro v183 w81 ho hb hg hat
                          rw [← Ny182.out] at ho
                          have n0_ := Aside0.mk (Kd.R_over' (by (with_reducible repeat (first | apply Kd.R_alloc | apply Kd.R_drewN | apply Kd.R_drew)); exact HO_12.out) (Kd.R_typed (by (with_reducible repeat (first | apply Kd.R_alloc | apply Kd.R_drewN | apply Kd.R_drew)); exact HO_11.out)) (by decide) hg)
                          have n1_ := Aside0.mk (blk_grown (g := gb145) (o := .cells #[.int .i64 a2_0, .int .i64 a2_1] 24 (0, 0)) (by (with_reducible repeat (first | refine blk_drewN ?_ _ | refine blk_drew ?_ | refine blk_alloc ?_ _)); exact BK145.out) hg (Kd.R_ne HO_11.out BK145.out (by decide)))
                          have n2_ := Aside0.mk (blk_grown (g := gb146) (o := .cells #[.int .i64 x147000_1, .int .i64 (wrap64 (Int.tdiv x147001_1 2))] 24 (0, 0)) (by (with_reducible repeat (first | refine blk_drewN ?_ _ | refine blk_drew ?_ | refine blk_alloc ?_ _)); exact BK146.out) hg (Kd.R_ne HO_11.out BK146.out (by decide)))
                          have n3_ := Aside0.mk (blk_grown (g := gb166) (o := .cells #[.bool false, .int .i64 (wrap64 (Int.tdiv x147001_1 2)), .bool ((bt a3 x30_1) == 84)] 56 (0, 0)) (by (with_reducible repeat (first | refine blk_drewN ?_ _ | refine blk_drew ?_ | refine blk_alloc ?_ _)); exact BK166.out) hg (Kd.R_away HO_11.out (fun _ hk => hk.1)))
                          have n4_ := Aside0.mk (Kd.R_after (ok := (fun k_ => k_ ≠ gb166)) (by (with_reducible repeat (first | apply Kd.R_alloc | apply Kd.R_drewN | apply Kd.R_drew)); exact Kd.R_mono HO181.out (fun _ hk => ⟨hk.2, hk.1.2⟩)) hg hat)
                          have n5_ := Aside0.mk (Kd.R_over' (by (with_reducible repeat (first | apply Kd.R_alloc | apply Kd.R_drewN | apply Kd.R_drew)); exact HO187.out) (Kd.R_typed (by (with_reducible repeat (first | apply Kd.R_alloc | apply Kd.R_drewN | apply Kd.R_drew)); exact HO_11.out)) (by decide) hg)
                          have n6_ := Aside0.mk (hb)
                          have n7_ := Aside0.mk (ho)
                          clear HO_12
                          clear BK145
                          clear BK146
                          clear BK166
                          clear HO181
                          clear HO187
                          clear HB
                          clear HO_11
                          have HO_12 := n0_
                          have BK145 := n1_
                          have BK146 := n2_
                          have BK166 := n3_
                          have HO181 := n4_
                          have HO187 := n5_
                          have HB := n6_
                          have HO184 := n7_
                          clear n0_ n1_ n2_ n3_ n4_ n5_ n6_ n7_
                          clear ho hb hg hat
                          refine hK.out _ _ ⟨(blk_cell BK166.out 0).trans rfl, (blk_cell BK166.out 1).trans rfl, (blk_cell BK166.out 2).trans rfl, (blk_cell BK146.out 0).trans rfl, (blk_cell BK146.out 1).trans rfl⟩ (fun hHeld => ?_)
                          clear hK K
                          refine norm_ (a' := ?_) ?_ ?_
                          rotate_left
                          · show Act.put _ (some 68) _ = _
                            simp only [Act.put, List.setIfInBounds_toArray, List.set_cons_zero, List.set_cons_succ, i64_w, i32_w]
                            rfl
                          exact norm_ (by simp only [putAll, Act.put, List.setIfInBounds_toArray, List.set_cons_zero, List.set_cons_succ]) (hCont (.slice Ao82 y179.length co82, v183, v186) _ ⟨hHeld, (by (with_reducible repeat (first | apply Kd.R_alloc | apply Kd.R_drewN | apply Kd.R_drew)); exact Kd.R_mono HO181.out (fun _ hk => ⟨hk.2, hk.1⟩)), (by (with_reducible repeat (first | apply Kd.R_alloc | apply Kd.R_drewN | apply Kd.R_drew)); exact HO184.out), (by (with_reducible repeat (first | apply Kd.R_alloc | apply Kd.R_drewN | apply Kd.R_drew)); exact Kd.R_mono HO187.out (fun _ hk => ⟨hk.1.1.2, ⟨hk.1.2, hk.2⟩⟩)), (by (with_reducible repeat (first | apply Kd.R_alloc | apply Kd.R_drewN | apply Kd.R_drew)); exact Kd.R_mono HO_12.out (fun _ hk => ⟨hk.2, ⟨hk.1.1, hk.1.2⟩⟩)), (by (with_reducible repeat (first | refine blk_drewN ?_ _ | refine blk_drew ?_ | refine blk_alloc ?_ _)); exact BK145.out), (by (with_reducible repeat (first | refine blk_drewN ?_ _ | refine blk_drew ?_ | refine blk_alloc ?_ _)); exact BK146.out), (by (with_reducible repeat (first | refine blk_drewN ?_ _ | refine blk_drew ?_ | refine blk_alloc ?_ _)); exact BK166.out), (by repeat (first | (with_reducible first | exact HB.out | apply below_alloc | apply pw_below_drewN | apply below_drew1 | refine below_set ?_ GE145.out | refine below_set ?_ GE146.out | refine below_set ?_ GE166.out) | exact HB.out))⟩)
                      · skip
                        refine Kd.R_lit_step k24 _ 24 ?hg (N := 71) ?hd (xs := ([(⟨x147000_1, wrap64 (Int.tdiv x147001_1 2)⟩ : S24)] : List (S24))) (inner := [.int .i64 x147000_1, .int .i64 (wrap64 (Int.tdiv x147001_1 2))]) (ok := fun _ => True) (okp := fun _ => True) ?hr ?hp (fun _ hk => hk) trivial (Below.refl _ _) (Nat.le_refl _) (by simp) ?_; (case hd => rfl); (case hg => rfl); (case hr => first | (go_simp; done) | (go_simp; rfl)); (case hp => exact (Reps.c2 (show Kd.M k24 _ _ _ (⟨x147000_1, wrap64 (Int.tdiv x147001_1 2)⟩ : S24) [.int .i64 x147000_1, .int .i64 (wrap64 (Int.tdiv x147001_1 2))] from (k24_mkM _ _ _ (⟨x147000_1, wrap64 (Int.tdiv x147001_1 2)⟩ : S24) )) (Reps.none _ _)))
                        intro v186 w77 ho78 hb hg_ hnew_
                        clear hg_ hnew_
                        (first | rw [← Ny185.out] at ho78 | (simp only [Int.reduceToNat] at ho78; rw [← Ny185.out] at ho78))
                        have n0_ := Aside0.mk (Kd.R_below (by (with_reducible repeat (first | apply Kd.R_alloc | apply Kd.R_drewN | apply Kd.R_drew)); exact HO_11.out) hb)
                        have n1_ := Aside0.mk (Kd.R_elder' (by (with_reducible repeat (first | apply Kd.R_alloc | apply Kd.R_drewN | apply Kd.R_drew)); exact HO_12.out) (Kd.R_base ho78) hb)
                        have n2_ := Aside0.mk (Kd.R_lower (Kd.R_newB (Kd.R_newB (Kd.R_new' ho78 (Kd.R_lt (by (with_reducible repeat (first | apply Kd.R_alloc | apply Kd.R_drewN | apply Kd.R_drew)); exact HO_12.out))) (g := gb145) (o := .cells #[.int .i64 a2_0, .int .i64 a2_1] 24 (0, 0)) (by (with_reducible repeat (first | refine blk_drewN ?_ _ | refine blk_drew ?_ | refine blk_alloc ?_ _)); exact BK145.out)) (g := gb146) (o := .cells #[.int .i64 x147000_1, .int .i64 (wrap64 (Int.tdiv x147001_1 2))] 24 (0, 0)) (by (with_reducible repeat (first | refine blk_drewN ?_ _ | refine blk_drew ?_ | refine blk_alloc ?_ _)); exact BK146.out)) (below_size (by repeat (first | (with_reducible first | exact HB.out | apply below_alloc | apply pw_below_drewN | apply below_drew1 | refine below_set ?_ GE145.out | refine below_set ?_ GE146.out | refine below_set ?_ GE166.out) | exact HB.out))))
                        have n3_ := Aside0.mk (blk_below (g := gb145) (o := .cells #[.int .i64 a2_0, .int .i64 a2_1] 24 (0, 0)) (by (with_reducible repeat (first | refine blk_drewN ?_ _ | refine blk_drew ?_ | refine blk_alloc ?_ _)); exact BK145.out) hb)
                        have n4_ := Aside0.mk (blk_below (g := gb146) (o := .cells #[.int .i64 x147000_1, .int .i64 (wrap64 (Int.tdiv x147001_1 2))] 24 (0, 0)) (by (with_reducible repeat (first | refine blk_drewN ?_ _ | refine blk_drew ?_ | refine blk_alloc ?_ _)); exact BK146.out) hb)
                        have n5_ := Aside0.mk (blk_below (g := gb166) (o := .cells #[.bool false, .int .i64 (wrap64 (Int.tdiv x147001_1 2)), .bool ((bt a3 x30_1) == 84)] 56 (0, 0)) (by (with_reducible repeat (first | refine blk_drewN ?_ _ | refine blk_drew ?_ | refine blk_alloc ?_ _)); exact BK166.out) hb)
                        have n6_ := Aside0.mk (below_step (by repeat (first | (with_reducible first | exact HB.out | apply below_alloc | apply pw_below_drewN | apply below_drew1 | refine below_set ?_ GE145.out | refine below_set ?_ GE146.out | refine below_set ?_ GE166.out) | exact HB.out)) hb)
                        clear HO_11
                        clear HO_12
                        clear BK145
                        clear BK146
                        clear BK166
                        clear HB
                        have HO_11 := n0_
                        have HO_12 := n1_
                        have HO187 := n2_
                        have BK145 := n3_
                        have BK146 := n4_
                        have BK166 := n5_
                        have HB := n6_
                        clear n0_ n1_ n2_ n3_ n4_ n5_ n6_
                        clear hb ho78
                        refine hK.out _ _ ⟨(blk_cell BK166.out 0).trans rfl, (blk_cell BK166.out 1).trans rfl, (blk_cell BK166.out 2).trans rfl, (blk_cell BK146.out 0).trans rfl, (blk_cell BK146.out 1).trans rfl⟩ (fun hHeld => ?_)
                        clear hK K
                        refine norm_ (a' := ?_) ?_ ?_
                        rotate_left
                        · show Act.put _ (some 71) _ = _
                          simp only [Act.put, List.setIfInBounds_toArray, List.set_cons_zero, List.set_cons_succ, i64_w, i32_w]
                          rfl
                        refine one_ (i := 2) (N := some 67) #[true, true, true, false, true, true, true, false, false, false] rfl rfl (one_of HT_.out (by kernel_rfl)) (by decide) (fun K hK => ?_)
                        refine Kd.R_lit_step k56 _ 56 ?hg (N := 67) ?hd (xs := ([(⟨false, wrap64 (Int.tdiv x147001_1 2), ((bt a3 x30_1) == 84)⟩ : S56)] : List (S56))) (inner := [.bool false, .int .i64 (wrap64 (Int.tdiv x147001_1 2)), .bool ((bt a3 x30_1) == 84)]) (ok := fun _ => True) (okp := fun _ => True) ?hr ?hp (fun _ hk => hk) trivial (Below.refl _ _) (Nat.le_refl _) (by simp) ?_; (case hd => rfl); (case hg => rfl); (case hr => first | (go_simp; done) | (go_simp; rfl)); (case hp => exact (Reps.c3 (show Kd.M k56 _ _ _ (⟨false, wrap64 (Int.tdiv x147001_1 2), ((bt a3 x30_1) == 84)⟩ : S56) [.bool false, .int .i64 (wrap64 (Int.tdiv x147001_1 2)), .bool ((bt a3 x30_1) == 84)] from (k56_mkM _ _ _ (⟨false, wrap64 (Int.tdiv x147001_1 2), ((bt a3 x30_1) == 84)⟩ : S56) )) (Reps.none _ _)))
                        intro v180 w79 ho80 hb hg_ hnew_
                        clear hg_ hnew_
                        (first | rw [← Ny179.out] at ho80 | (simp only [Int.reduceToNat] at ho80; rw [← Ny179.out] at ho80))
                        have n0_ := Aside0.mk (Kd.R_elder' (by (with_reducible repeat (first | apply Kd.R_alloc | apply Kd.R_drewN | apply Kd.R_drew)); exact HO_11.out) (Kd.R_base ho80) hb)
                        have n1_ := Aside0.mk (Kd.R_below (by (with_reducible repeat (first | apply Kd.R_alloc | apply Kd.R_drewN | apply Kd.R_drew)); exact HO_12.out) hb)
                        have n2_ := Aside0.mk (Kd.R_below (by (with_reducible repeat (first | apply Kd.R_alloc | apply Kd.R_drewN | apply Kd.R_drew)); exact HO187.out) hb)
                        have n3_ := Aside0.mk (Kd.R_lower (Kd.R_newB (Kd.R_new' ho80 (Kd.R_lt (by (with_reducible repeat (first | apply Kd.R_alloc | apply Kd.R_drewN | apply Kd.R_drew)); exact HO_11.out))) (g := gb166) (o := .cells #[.bool false, .int .i64 (wrap64 (Int.tdiv x147001_1 2)), .bool ((bt a3 x30_1) == 84)] 56 (0, 0)) (by (with_reducible repeat (first | refine blk_drewN ?_ _ | refine blk_drew ?_ | refine blk_alloc ?_ _)); exact BK166.out)) (below_size (by repeat (first | (with_reducible first | exact HB.out | apply below_alloc | apply pw_below_drewN | apply below_drew1 | refine below_set ?_ GE145.out | refine below_set ?_ GE146.out | refine below_set ?_ GE166.out) | exact HB.out))))
                        have n4_ := Aside0.mk (blk_below (g := gb145) (o := .cells #[.int .i64 a2_0, .int .i64 a2_1] 24 (0, 0)) (by (with_reducible repeat (first | refine blk_drewN ?_ _ | refine blk_drew ?_ | refine blk_alloc ?_ _)); exact BK145.out) hb)
                        have n5_ := Aside0.mk (blk_below (g := gb146) (o := .cells #[.int .i64 x147000_1, .int .i64 (wrap64 (Int.tdiv x147001_1 2))] 24 (0, 0)) (by (with_reducible repeat (first | refine blk_drewN ?_ _ | refine blk_drew ?_ | refine blk_alloc ?_ _)); exact BK146.out) hb)
                        have n6_ := Aside0.mk (blk_below (g := gb166) (o := .cells #[.bool false, .int .i64 (wrap64 (Int.tdiv x147001_1 2)), .bool ((bt a3 x30_1) == 84)] 56 (0, 0)) (by (with_reducible repeat (first | refine blk_drewN ?_ _ | refine blk_drew ?_ | refine blk_alloc ?_ _)); exact BK166.out) hb)
                        have n7_ := Aside0.mk (below_step (by repeat (first | (with_reducible first | exact HB.out | apply below_alloc | apply pw_below_drewN | apply below_drew1 | refine below_set ?_ GE145.out | refine below_set ?_ GE146.out | refine below_set ?_ GE166.out) | exact HB.out)) hb)
                        clear HO_11
                        clear HO_12
                        clear HO187
                        clear BK145
                        clear BK146
                        clear BK166
                        clear HB
                        have HO_11 := n0_
                        have HO_12 := n1_
                        have HO187 := n2_
                        have HO181 := n3_
                        have BK145 := n4_
                        have BK146 := n5_
                        have BK166 := n6_
                        have HB := n7_
                        clear n0_ n1_ n2_ n3_ n4_ n5_ n6_ n7_
                        clear hb ho80
                        obtain ⟨Ao82, co82, eo82⟩ := Kd.R_slice HO181.out
                        (first | subst eo82 | (injection eo82 with f1_ f2_ f3_; have f4_ := f1_.symm; have f5_ := f3_.symm; clear f1_ f2_ f3_; subst f4_; subst f5_))
                        refine hK.out _ _ ⟨(blk_cell BK166.out 0).trans rfl, (blk_cell BK166.out 1).trans rfl, (blk_cell BK166.out 2).trans rfl, (blk_cell BK146.out 0).trans rfl, (blk_cell BK146.out 1).trans rfl⟩ (fun hHeld => ?_)
                        clear hK K
                        refine norm_ (a' := ?_) ?_ ?_
                        rotate_left
                        · show Act.put _ (some 67) _ = _
                          simp only [Act.put, List.setIfInBounds_toArray, List.set_cons_zero, List.set_cons_succ, i64_w, i32_w]
                          rfl
                        refine one_ (i := 3) (N := some 68) #[true, true, true, true, true, true, true, false, false, false] rfl rfl (one_of HT_.out (by kernel_rfl)) (by decide) (fun K hK => ?_)
                        refine Kd.R_append_rows_step k56 (w0 := w) w.heap.size (by rfl) (.tmp 65) (.tmp 67) 30 56 (.agg #[(.bool false), (.int .i64 0), (.bool false)]) 24 rfl Tryd.underlying30 info56 rfl (by decide) (by omega) (.slice Ao73 x11_1.length co73) x11_1 y179 _ _ _ (fun k_ => some k_ ≠ (.slice Ao82 y179.length co82 : Value).ownBlock ∧ k_ ≠ gb166) (fun _ => False) rfl rfl ?aO ?aR (fun _ _ h => h) (fun _ h => h.elim) ?aF ?aB ?aS ?aL ?_
                        (case aR => repeat (first | exact (Kd.R_reads' HO181.out).2.2 | (with_reducible refine Kd.C_alloc ?_ _) | (with_reducible refine Kd.C_drewN ?_ _) | (with_reducible refine Kd.C_drew ?_)))
                        (case aB => exact (by repeat (first | (with_reducible first | exact HB.out | apply below_alloc | apply pw_below_drewN | apply below_drew1 | refine below_set ?_ GE145.out | refine below_set ?_ GE146.out | refine below_set ?_ GE166.out) | exact HB.out)))
                        (case aF => exact (fun k_ hk => ⟨Kd.fresh' (Kd.R_lt (by (with_reducible repeat (first | apply Kd.R_alloc | apply Kd.R_drewN | apply Kd.R_drew)); exact HO181.out)) k_ hk, Kd.freshB (g := gb166) (o := .cells #[.bool false, .int .i64 (wrap64 (Int.tdiv x147001_1 2)), .bool ((bt a3 x30_1) == 84)] 56 (0, 0)) (by (with_reducible repeat (first | refine blk_drewN ?_ _ | refine blk_drew ?_ | refine blk_alloc ?_ _)); exact BK166.out) k_ hk⟩))
                        (case aO => exact (by (with_reducible repeat (first | apply Kd.R_alloc | apply Kd.R_drewN | apply Kd.R_drew)); exact Kd.R_mono HO_11.out (fun _ hk => ⟨hk.2, hk.1⟩)))
                        (case aS => exact (below_size (by repeat (first | (with_reducible first | exact HB.out | apply below_alloc | apply pw_below_drewN | apply below_drew1 | refine below_set ?_ GE145.out | refine below_set ?_ GE146.out | refine below_set ?_ GE166.out) | exact HB.out))))
                        (case aL => have := LMc65.out; omega)
                        intro v183 w81 ho hb hg hat
                        rw [← Ny182.out] at ho
                        have n0_ := Aside0.mk (Kd.R_over' (by (with_reducible repeat (first | apply Kd.R_alloc | apply Kd.R_drewN | apply Kd.R_drew)); exact HO_12.out) (Kd.R_typed (by (with_reducible repeat (first | apply Kd.R_alloc | apply Kd.R_drewN | apply Kd.R_drew)); exact HO_11.out)) (by decide) hg)
                        have n1_ := Aside0.mk (blk_grown (g := gb145) (o := .cells #[.int .i64 a2_0, .int .i64 a2_1] 24 (0, 0)) (by (with_reducible repeat (first | refine blk_drewN ?_ _ | refine blk_drew ?_ | refine blk_alloc ?_ _)); exact BK145.out) hg (Kd.R_ne HO_11.out BK145.out (by decide)))
                        have n2_ := Aside0.mk (blk_grown (g := gb146) (o := .cells #[.int .i64 x147000_1, .int .i64 (wrap64 (Int.tdiv x147001_1 2))] 24 (0, 0)) (by (with_reducible repeat (first | refine blk_drewN ?_ _ | refine blk_drew ?_ | refine blk_alloc ?_ _)); exact BK146.out) hg (Kd.R_ne HO_11.out BK146.out (by decide)))
                        have n3_ := Aside0.mk (blk_grown (g := gb166) (o := .cells #[.bool false, .int .i64 (wrap64 (Int.tdiv x147001_1 2)), .bool ((bt a3 x30_1) == 84)] 56 (0, 0)) (by (with_reducible repeat (first | refine blk_drewN ?_ _ | refine blk_drew ?_ | refine blk_alloc ?_ _)); exact BK166.out) hg (Kd.R_away HO_11.out (fun _ hk => hk.1)))
                        have n4_ := Aside0.mk (Kd.R_over' (by (with_reducible repeat (first | apply Kd.R_alloc | apply Kd.R_drewN | apply Kd.R_drew)); exact HO187.out) (Kd.R_typed (by (with_reducible repeat (first | apply Kd.R_alloc | apply Kd.R_drewN | apply Kd.R_drew)); exact HO_11.out)) (by decide) hg)
                        have n5_ := Aside0.mk (Kd.R_after (ok := (fun k_ => k_ ≠ gb166)) (by (with_reducible repeat (first | apply Kd.R_alloc | apply Kd.R_drewN | apply Kd.R_drew)); exact Kd.R_mono HO181.out (fun _ hk => ⟨hk.2, hk.1.2⟩)) hg hat)
                        have n6_ := Aside0.mk (hb)
                        have n7_ := Aside0.mk (ho)
                        clear HO_12
                        clear BK145
                        clear BK146
                        clear BK166
                        clear HO187
                        clear HO181
                        clear HB
                        clear HO_11
                        have HO_12 := n0_
                        have BK145 := n1_
                        have BK146 := n2_
                        have BK166 := n3_
                        have HO187 := n4_
                        have HO181 := n5_
                        have HB := n6_
                        have HO184 := n7_
                        clear n0_ n1_ n2_ n3_ n4_ n5_ n6_ n7_
                        clear ho hb hg hat
                        refine hK.out _ _ ⟨(blk_cell BK166.out 0).trans rfl, (blk_cell BK166.out 1).trans rfl, (blk_cell BK166.out 2).trans rfl, (blk_cell BK146.out 0).trans rfl, (blk_cell BK146.out 1).trans rfl⟩ (fun hHeld => ?_)
                        clear hK K
                        refine norm_ (a' := ?_) ?_ ?_
                        rotate_left
                        · show Act.put _ (some 68) _ = _
                          simp only [Act.put, List.setIfInBounds_toArray, List.set_cons_zero, List.set_cons_succ, i64_w, i32_w]
                          rfl
                        exact norm_ (by simp only [putAll, Act.put, List.setIfInBounds_toArray, List.set_cons_zero, List.set_cons_succ]) (hCont (.slice Ao82 y179.length co82, v183, v186) _ ⟨hHeld, (by (with_reducible repeat (first | apply Kd.R_alloc | apply Kd.R_drewN | apply Kd.R_drew)); exact Kd.R_mono HO181.out (fun _ hk => ⟨hk.2, hk.1⟩)), (by (with_reducible repeat (first | apply Kd.R_alloc | apply Kd.R_drewN | apply Kd.R_drew)); exact HO184.out), (by (with_reducible repeat (first | apply Kd.R_alloc | apply Kd.R_drewN | apply Kd.R_drew)); exact Kd.R_mono HO187.out (fun _ hk => ⟨hk.1.1.2, ⟨hk.1.2, hk.2⟩⟩)), (by (with_reducible repeat (first | apply Kd.R_alloc | apply Kd.R_drewN | apply Kd.R_drew)); exact Kd.R_mono HO_12.out (fun _ hk => ⟨hk.2, ⟨hk.1.1, hk.1.2⟩⟩)), (by (with_reducible repeat (first | refine blk_drewN ?_ _ | refine blk_drew ?_ | refine blk_alloc ?_ _)); exact BK145.out), (by (with_reducible repeat (first | refine blk_drewN ?_ _ | refine blk_drew ?_ | refine blk_alloc ?_ _)); exact BK146.out), (by (with_reducible repeat (first | refine blk_drewN ?_ _ | refine blk_drew ?_ | refine blk_alloc ?_ _)); exact BK166.out), (by repeat (first | (with_reducible first | exact HB.out | apply below_alloc | apply pw_below_drewN | apply below_drew1 | refine below_set ?_ GE145.out | refine below_set ?_ GE146.out | refine below_set ?_ GE166.out) | exact HB.out))⟩)
                    rintro ⟨v180, v183, v186⟩ w83 ⟨hS_, h0_, h1_, h2_, h3_, h4_, h5_, h6_, h7_⟩
                    have n0_ : Aside0 (Kd.R k56 56 w83 w.heap.size (fun k_ => some k_ ≠ (v183 : Value).ownBlock ∧ k_ ≠ gb166) v180 y179) := ⟨h0_⟩
                    have n1_ : Aside0 (Kd.R k56 56 w83 w.heap.size (fun k_ => some k_ ≠ (v180 : Value).ownBlock ∧ k_ ≠ gb166) v183 y182) := ⟨h1_⟩
                    have n2_ : Aside0 (Kd.R k24 24 w83 w.heap.size (fun k_ => some k_ ≠ (.slice Ao74 x12_1.length co74 : Value).ownBlock ∧ k_ ≠ gb145 ∧ k_ ≠ gb146) v186 y185) := ⟨h2_⟩
                    have n3_ : Aside0 (Kd.R k24 24 w83 w.heap.size (fun k_ => some k_ ≠ (v186 : Value).ownBlock ∧ k_ ≠ gb145 ∧ k_ ≠ gb146) (.slice Ao74 x12_1.length co74) x12_1) := ⟨h3_⟩
                    have n4_ : Aside0 (w83.heap[gb145]? = some (.cells #[.int .i64 a2_0, .int .i64 a2_1] 24 (0, 0))) := ⟨h4_⟩
                    have n5_ : Aside0 (w83.heap[gb146]? = some (.cells #[.int .i64 x147000_1, .int .i64 (wrap64 (Int.tdiv x147001_1 2))] 24 (0, 0))) := ⟨h5_⟩
                    have n6_ : Aside0 (w83.heap[gb166]? = some (.cells #[.bool false, .int .i64 (wrap64 (Int.tdiv x147001_1 2)), .bool ((bt a3 x30_1) == 84)] 56 (0, 0))) := ⟨h6_⟩
                    have n7_ : Aside0 (Below w.heap.size w w83) := ⟨h7_⟩
                    clear HO_11
                    clear HO_12
                    clear BK145
                    clear BK146
                    clear BK166
                    clear HB
                    clear h0_ h1_ h2_ h3_ h4_ h5_ h6_ h7_
                    have HO181 := n0_
                    have HO184 := n1_
                    have HO187 := n2_
                    have HO_12 := n3_
                    have BK145 := n4_
                    have BK146 := n5_
                    have BK166 := n6_
                    have HB := n7_
                    clear n0_ n1_ n2_ n3_ n4_ n5_ n6_ n7_
                    have hHeld : w83.cell? ⟨gb166, 0, none⟩ = some (.bool false) ∧ w83.cell? ⟨gb166, 1, none⟩ = some (.int .i64 (wrap64 (Int.tdiv x147001_1 2))) ∧ w83.cell? ⟨gb166, 2, none⟩ = some (.bool ((bt a3 x30_1) == 84)) ∧ w83.cell? ⟨gb146, 0, none⟩ = some (.int .i64 x147000_1) ∧ w83.cell? ⟨gb146, 1, none⟩ = some (.int .i64 (wrap64 (Int.tdiv x147001_1 2))) := hS_
                    obtain ⟨Ao85, co85, eo85⟩ := Kd.R_slice HO187.out
                    (first | subst eo85 | (injection eo85 with f1_ f2_ f3_; have f4_ := f1_.symm; have f5_ := f3_.symm; clear f1_ f2_ f3_; subst f4_; subst f5_))
                    refine norm_ (a' := ?_) ?_ ?_
                    rotate_left
                    · simp only [putAll, Act.put, List.setIfInBounds_toArray, List.set_cons_zero, List.set_cons_succ]
                      rfl
                    refine one_ (i := 7) (N := some 72) #[true, true, true, true, true, true, true, true, false, false] rfl rfl (one_of HT_.out (by kernel_rfl)) (by decide) (fun K hK => ?_)
                    refine Kd.R_append_rows_step k24 (w0 := w) w.heap.size (by rfl) (.tmp 69) (.tmp 71) 51 24 (.agg #[(.int .i64 0), (.int .i64 0)]) 16 rfl Tryd.underlying51 info24 rfl (by decide) (by omega) (.slice Ao74 x12_1.length co74) x12_1 y185 _ _ _ (fun k_ => some k_ ≠ (.slice Ao85 y185.length co85 : Value).ownBlock ∧ k_ ≠ gb145 ∧ k_ ≠ gb146) (fun _ => False) rfl rfl ?aO ?aR (fun _ _ h => h) (fun _ h => h.elim) ?aF ?aB ?aS ?aL ?_
                    (case aR => repeat (first | exact (Kd.R_reads' HO187.out).2.2 | (with_reducible refine Kd.C_alloc ?_ _) | (with_reducible refine Kd.C_drewN ?_ _) | (with_reducible refine Kd.C_drew ?_)))
                    (case aB => exact (by repeat (first | (with_reducible first | exact HB.out | apply below_alloc | apply pw_below_drewN | apply below_drew1 | refine below_set ?_ GE145.out | refine below_set ?_ GE146.out | refine below_set ?_ GE166.out) | exact HB.out)))
                    (case aF => exact (fun k_ hk => ⟨Kd.fresh' (Kd.R_lt (by (with_reducible repeat (first | apply Kd.R_alloc | apply Kd.R_drewN | apply Kd.R_drew)); exact HO187.out)) k_ hk, Kd.freshB (g := gb145) (o := .cells #[.int .i64 a2_0, .int .i64 a2_1] 24 (0, 0)) (by (with_reducible repeat (first | refine blk_drewN ?_ _ | refine blk_drew ?_ | refine blk_alloc ?_ _)); exact BK145.out) k_ hk, Kd.freshB (g := gb146) (o := .cells #[.int .i64 x147000_1, .int .i64 (wrap64 (Int.tdiv x147001_1 2))] 24 (0, 0)) (by (with_reducible repeat (first | refine blk_drewN ?_ _ | refine blk_drew ?_ | refine blk_alloc ?_ _)); exact BK146.out) k_ hk⟩))
                    (case aO => exact (by (with_reducible repeat (first | apply Kd.R_alloc | apply Kd.R_drewN | apply Kd.R_drew)); exact HO_12.out))
                    (case aS => exact (below_size (by repeat (first | (with_reducible first | exact HB.out | apply below_alloc | apply pw_below_drewN | apply below_drew1 | refine below_set ?_ GE145.out | refine below_set ?_ GE146.out | refine below_set ?_ GE166.out) | exact HB.out))))
                    (case aL => have := LMc66.out; omega)
                    intro v189 w84 ho hb hg hat
                    rw [← Ny188.out] at ho
                    have n0_ := Aside0.mk (blk_grown (g := gb145) (o := .cells #[.int .i64 a2_0, .int .i64 a2_1] 24 (0, 0)) (by (with_reducible repeat (first | refine blk_drewN ?_ _ | refine blk_drew ?_ | refine blk_alloc ?_ _)); exact BK145.out) hg (Kd.R_away HO_12.out (fun _ hk => hk.2.1)))
                    have n1_ := Aside0.mk (blk_grown (g := gb146) (o := .cells #[.int .i64 x147000_1, .int .i64 (wrap64 (Int.tdiv x147001_1 2))] 24 (0, 0)) (by (with_reducible repeat (first | refine blk_drewN ?_ _ | refine blk_drew ?_ | refine blk_alloc ?_ _)); exact BK146.out) hg (Kd.R_away HO_12.out (fun _ hk => hk.2.2)))
                    have n2_ := Aside0.mk (blk_grown (g := gb166) (o := .cells #[.bool false, .int .i64 (wrap64 (Int.tdiv x147001_1 2)), .bool ((bt a3 x30_1) == 84)] 56 (0, 0)) (by (with_reducible repeat (first | refine blk_drewN ?_ _ | refine blk_drew ?_ | refine blk_alloc ?_ _)); exact BK166.out) hg (Kd.R_ne HO_12.out BK166.out (by decide)))
                    have n3_ := Aside0.mk (Kd.R_over' (by (with_reducible repeat (first | apply Kd.R_alloc | apply Kd.R_drewN | apply Kd.R_drew)); exact HO181.out) (Kd.R_typed (by (with_reducible repeat (first | apply Kd.R_alloc | apply Kd.R_drewN | apply Kd.R_drew)); exact HO_12.out)) (by decide) hg)
                    have n4_ := Aside0.mk (Kd.R_over' (by (with_reducible repeat (first | apply Kd.R_alloc | apply Kd.R_drewN | apply Kd.R_drew)); exact HO184.out) (Kd.R_typed (by (with_reducible repeat (first | apply Kd.R_alloc | apply Kd.R_drewN | apply Kd.R_drew)); exact HO_12.out)) (by decide) hg)
                    have n5_ := Aside0.mk (Kd.R_after (ok := (fun k_ => k_ ≠ gb145 ∧ k_ ≠ gb146)) (by (with_reducible repeat (first | apply Kd.R_alloc | apply Kd.R_drewN | apply Kd.R_drew)); exact Kd.R_mono HO187.out (fun _ hk => ⟨⟨hk.2.1, hk.2.2⟩, hk.1⟩)) hg hat)
                    have n6_ := Aside0.mk (hb)
                    have n7_ := Aside0.mk (ho)
                    clear BK145
                    clear BK146
                    clear BK166
                    clear HO181
                    clear HO184
                    clear HO187
                    clear HB
                    clear HO_12
                    have BK145 := n0_
                    have BK146 := n1_
                    have BK166 := n2_
                    have HO181 := n3_
                    have HO184 := n4_
                    have HO187 := n5_
                    have HB := n6_
                    have HO190 := n7_
                    clear n0_ n1_ n2_ n3_ n4_ n5_ n6_ n7_
                    clear ho hb hg hat
                    refine hK.out _ _ ⟨(blk_cell BK166.out 0).trans rfl, (blk_cell BK166.out 1).trans rfl, (blk_cell BK166.out 2).trans rfl, (blk_cell BK146.out 0).trans rfl, (blk_cell BK146.out 1).trans rfl⟩ (fun hHeld => ?_)
                    clear hK K
                    refine norm_ (a' := ?_) ?_ ?_
                    rotate_left
                    · show Act.put _ (some 72) _ = _
                      simp only [Act.put, List.setIfInBounds_toArray, List.set_cons_zero, List.set_cons_succ, i64_w, i32_w]
                      rfl
                    refine pure_ (i := 8) (N := some 11) (v := ?_) (a' := ?_) #[true, true, true, true, true, true, true, true, true, false] rfl rfl (any_of HT_.out (by kernel_rfl)) (fun _ _ _ h => h) (Or.inl ⟨by rfl, ?_⟩) ?_ ?_
                    rotate_left
                    · intro w'
                      go_simp
                      with_reducible rfl
                    rotate_left
                    · simp only [Act.put, List.setIfInBounds_toArray, List.set_cons_zero, List.set_cons_succ, i64_w, i32_w]
                      rfl
                    refine pure_ (i := 9) (N := some 12) (v := ?_) (a' := ?_) #[true, true, true, true, true, true, true, true, true, true] rfl rfl (any_of HT_.out (by kernel_rfl)) (fun _ _ _ h => h) (Or.inl ⟨by rfl, ?_⟩) ?_ ?_
                    rotate_left
                    · intro w'
                      go_simp
                      with_reducible rfl
                    rotate_left
                    · simp only [Act.put, List.setIfInBounds_toArray, List.set_cons_zero, List.set_cons_succ, i64_w, i32_w]
                      rfl
                    refine done_ (done_of HT_.out (by kernel_rfl)) ?_
                    try go_wp2
                    go_roundg k1
                    case measure => have := HK1.out; omega
                    case rel => exact ⟨(y182), (y188), (wrap64 (x30_1 + 1)), (x147000_1), (wrap64 (Int.tdiv x147001_1 2)), (by first | rfl | (simp; done) | (simp [*]; done)), H', ⟨by have := HK1.out; omega⟩, ⟨by (with_reducible repeat (first | apply Kd.R_alloc | apply Kd.R_drewN | apply Kd.R_drew)); exact Kd.R_mono HO184.out (fun _ hk => trivial)⟩, ⟨by (with_reducible repeat (first | apply Kd.R_alloc | apply Kd.R_drewN | apply Kd.R_drew)); exact Kd.R_mono HO190.out (fun _ hk => ⟨hk.2.1, hk.2.2⟩)⟩, ⟨by (with_reducible repeat (first | refine blk_drewN ?_ _ | refine blk_drew ?_ | refine blk_alloc ?_ _)); exact BK145.out⟩, ⟨by (with_reducible repeat (first | refine blk_drewN ?_ _ | refine blk_drew ?_ | refine blk_alloc ?_ _)); exact BK146.out⟩, ⟨by repeat (first | (with_reducible first | exact HB.out | apply below_alloc | apply pw_below_drewN | apply below_drew1 | refine below_set ?_ GE145.out | refine below_set ?_ GE146.out | refine below_set ?_ GE166.out) | exact HB.out)⟩⟩
                  · rw [if_neg c66] at H
                    exact absurd H (by simp)
                · rw [if_neg c65] at H
                  exact absurd H (by simp)
          · rw [if_neg c19] at H
            exact absurd H (by simp)
        · rw [if_neg c18] at H
          exact absurd H (by simp)
      · rw [if_neg c17] at H
        have c17b0 : decide (x30_1 < (a3.size : Int)) = false := decide_eq_false c17
        clear c17
        simp only [Option.some.injEq, Prod.mk.injEq] at H
        obtain ⟨rfl, rfl⟩ := H
        go_wp2
        go_ret2
        exact ⟨_, _, by first | rfl | (simp [errW_none, errW_some] <;> rfl) | (simp [*, errW_none, errW_some] <;> rfl), by (with_reducible repeat (first | apply Kd.R_alloc | apply Kd.R_drewN | apply Kd.R_drew)); exact HO_11.out, by (with_reducible repeat (first | apply Kd.R_alloc | apply Kd.R_drewN | apply Kd.R_drew)); exact Kd.R_mono HO_12.out (fun _ hk => trivial), by repeat (first | (with_reducible first | exact HB.out | apply below_alloc | apply pw_below_drewN | apply below_drew1 | refine below_set ?_ GE145.out | refine below_set ?_ GE146.out) | exact HB.out)⟩

end Go.Proofs.YtpndkekgoadjkaaDoor.PFnSetups
