-- Written by a program of this session.
import Derived.Test.YtpndkekgoadjkaaDoorPFnExactSetupOfx0
namespace Go.Proofs.YtpndkekgoadjkaaDoor.PFnExactSetupOf
open Go.RowKit Go.Proofs.YtpndkekgoadjkaaDoorW.PrintWords Go.Proofs.YtpndkekgoadjkaaDoorW.PrintLast Go.Proofs.YtpndkekgoadjkaaDoorW.PrintMore
attribute [local go_sem] max2_int min2_int max_two min_two max_three min_three max_four min_four   -- for this text's walks alone
set_option linter.unusedVariables false
set_option linter.unusedSimpArgs false

/-! ### impl_setupOf: function 30 -/
def impl_setupOf.l0 : Nat → ByteArray → List (S56) → List (S24) → Int → Int → Int → Int → Option ((List (S56)) × (List (S24)))
  | 0, _, _, _, _, _, _, _ => none
  | k + 1, x3, x11, x12, x29, x30, x165000, x165001 => if x30 < x29 then (if 0 ≤ x30 then (if x30 < (x3.size : Int) then (if (bt x3 x30) = 76 then ((some (([(⟨true, wrap64 (Int.tdiv x165000 2), true⟩ : S56)] : List (S56)) : List (S56))).bind fun y172 => (if x11.length + y172.length < 5864062014805 then ((some (([(⟨wrap64 (Int.tdiv x165000 2), x165001⟩ : S24)] : List (S24)) : List (S24))).bind fun y178 => (if x12.length + y178.length < 8796093022208 then (impl_setupOf.l0 k x3 (x11 ++ y172) (x12 ++ y178) x29 (wrap64 (x30 + 1)) (wrap64 (Int.tdiv x165000 2)) x165001) else (none))) else (none))) else (if (bt x3 x30) = 82 then ((some (([(⟨true, wrap64 (Int.tdiv x165000 2), ((bt x3 x30) == 84)⟩ : S56)] : List (S56)) : List (S56))).bind fun y185 => (if x11.length + y185.length < 5864062014805 then ((some (([(⟨wrap64 (Int.tdiv x165000 2), x165001⟩ : S24)] : List (S24)) : List (S24))).bind fun y191 => (if x12.length + y191.length < 8796093022208 then (impl_setupOf.l0 k x3 (x11 ++ y185) (x12 ++ y191) x29 (wrap64 (x30 + 1)) (wrap64 (Int.tdiv x165000 2)) x165001) else (none))) else (none))) else ((some (([(⟨false, wrap64 (Int.tdiv x165001 2), ((bt x3 x30) == 84)⟩ : S56)] : List (S56)) : List (S56))).bind fun y197 => (if x11.length + y197.length < 5864062014805 then ((some (([(⟨x165000, wrap64 (Int.tdiv x165001 2)⟩ : S24)] : List (S24)) : List (S24))).bind fun y203 => (if x12.length + y203.length < 8796093022208 then (impl_setupOf.l0 k x3 (x11 ++ y197) (x12 ++ y203) x29 (wrap64 (x30 + 1)) x165000 (wrap64 (Int.tdiv x165001 2))) else (none))) else (none))))) else (none)) else (none)) else (some (x11, x12))
def impl_setupOf.f (k : Nat) (a0 : Int) (a1 : Int) (a2_0 : Int) (a2_1 : Int) (a3 : ByteArray) : Option ((List (S56)) × (List (S24))) := impl_setupOf.l0 k a3 (([] : List (S56))) (([(⟨wrap64 (a0 * a2_0), wrap64 (a1 * a2_1)⟩ : S24)] : List (S24))) (a3.size : Int) 0 (wrap64 (a0 * a2_0)) (wrap64 (a1 * a2_1))
theorem impl_setupOf.mono_l : ∀ k, (∀ y0 y1 y2 y3 y4 y5 y6, LeO (impl_setupOf.l0 k y0 y1 y2 y3 y4 y5 y6) (impl_setupOf.l0 (k + 1) y0 y1 y2 y3 y4 y5 y6))
  | 0 => fun _ _ _ _ _ _ _ r h => by simp [impl_setupOf.l0] at h
  | k + 1 => by
    have ih0 := impl_setupOf.mono_l k
    · intro y0 y1 y2 y3 y4 y5 y6
      unfold impl_setupOf.l0
      repeat' first
      | (with_reducible exact ih0 _ _ _ _ _ _ _)
      | (with_reducible exact LeO.refl _)
      | (with_reducible exact LeO.none _)
      | (with_reducible refine LeO.ite ?_ ?_)
      | (with_reducible refine LeO.bind ?_ (fun _ => ?_))
      | exact ih0 _ _ _ _ _ _ _
      | exact LeO.none _
      | refine LeO.ite ?_ ?_
      | refine LeO.bind ?_ (fun _ => ?_)
theorem impl_setupOf.mono : ∀ a0 a1 a2 a3 a4 k, LeO (impl_setupOf.f k a0 a1 a2 a3 a4) (impl_setupOf.f (k + 1) a0 a1 a2 a3 a4) := by
  intro a0 a1 a2 a3 a4 k
  have ih0 := impl_setupOf.mono_l k
  unfold impl_setupOf.f
  repeat' first
      | (with_reducible exact ih0 _ _ _ _ _ _ _)
      | (with_reducible exact LeO.refl _)
      | (with_reducible exact LeO.none _)
      | (with_reducible refine LeO.ite ?_ ?_)
      | (with_reducible refine LeO.bind ?_ (fun _ => ?_))
      | exact ih0 _ _ _ _ _ _ _
      | exact LeO.none _
      | refine LeO.ite ?_ ?_
      | refine LeO.bind ?_ (fun _ => ?_)
def impl_setupOf.T2 : Bool × List (List Nat × List Nat) := (true, [([], []), ([], []), ([1], [1]), ([0, 0], [0]), ([2, 3, 0, 1, 2, 3], [2])])
def impl_setupOf.B2 : List Nat := [0, 0, 2, 1, 15]
theorem impl_setupOf.tab2 : rtab .any (opsOf Tryd.f30 2) = impl_setupOf.T2 := by kernel_rfl
theorem impl_setupOf.bits2 : waitsOk impl_setupOf.T2.2 impl_setupOf.B2 = true := by kernel_rfl
def impl_setupOf.T13 : Bool × List (List Nat × List Nat) := (true, [([], []), ([], []), ([1], [1]), ([0, 2], [0, 2]), ([], []), ([], []), ([5], [5]), ([4, 6, 3], [4, 6]), ([3, 7, 0, 1, 2, 3], [0, 3]), ([7, 8, 0, 1, 2, 3, 4, 5, 6, 7, 8], [4, 7])])
def impl_setupOf.B13 : List Nat := [0, 0, 2, 7, 0, 0, 32, 127, 255, 511]
theorem impl_setupOf.tab13 : rtab .any (opsOf Tryd.f30 13) = impl_setupOf.T13 := by kernel_rfl
theorem impl_setupOf.bits13 : waitsOk impl_setupOf.T13.2 impl_setupOf.B13 = true := by kernel_rfl
set_option maxHeartbeats 8000000 in
set_option maxRecDepth 100000 in
theorem impl_setupOf.calls (k : Nat) (a0 : Int) (a1 : Int) (a2_0 : Int) (a2_1 : Int) (a3 : ByteArray) (r1 : List (S56)) (r2 : List (S24)) (w : World) (h : impl_setupOf.f k a0 a1 a2_0 a2_1 a3 = some (r1, r2)) :
    Calls Tryd.prog 30 #[.int .i64 a0, .int .i64 a1, .agg #[.int .i64 a2_0, .int .i64 a2_1], .string a3] w fun e w' => ∃ v0_ v1_ : Value, e = .returned (.tuple #[v0_, v1_]) ∧ Kd.R k56 56 w' w.heap.size (fun _ => True) v0_ r1 ∧ Kd.R k24 24 w' w.heap.size (fun _ => True) v1_ r2 ∧ Below w.heap.size w w' := by
  have hu24 := Tryd.underlying24
  have hu56 := Tryd.underlying56
  have HB := Aside0.mk (Below.refl w.heap.size w)
  have H : (impl_setupOf.l0 k a3 (([] : List (S56))) (([(⟨wrap64 (a0 * a2_0), wrap64 (a1 * a2_1)⟩ : S24)] : List (S24))) (a3.size : Int) 0 (wrap64 (a0 * a2_0)) (wrap64 (a1 * a2_1))) = some (r1, r2) := h
  clear h
  obtain ⟨y165, hy165⟩ : ∃ y_ : List (S56), y_ = (([] : List (S56))) := ⟨_, rfl⟩
  replace H : (impl_setupOf.l0 k a3 y165 (([(⟨wrap64 (a0 * a2_0), wrap64 (a1 * a2_1)⟩ : S24)] : List (S24))) (a3.size : Int) 0 (wrap64 (a0 * a2_0)) (wrap64 (a1 * a2_1))) = some (r1, r2) := by first | (rw [hy165]; with_reducible exact H) | (have H2_ := (Option.bind_some _ _).symm.trans H; rw [hy165]; with_reducible exact H2_) | (have H2_ := (Option.bind_some _ _).symm.trans H; with_reducible exact H2_) | with_reducible exact H | (rw [hy165]; exact H) | exact H
  have Ny165 := Aside0.mk hy165
  clear hy165
  obtain ⟨y168, hy168⟩ : ∃ y_ : List (S24), y_ = (([(⟨wrap64 (a0 * a2_0), wrap64 (a1 * a2_1)⟩ : S24)] : List (S24))) := ⟨_, rfl⟩
  replace H : (impl_setupOf.l0 k a3 y165 y168 (a3.size : Int) 0 (wrap64 (a0 * a2_0)) (wrap64 (a1 * a2_1))) = some (r1, r2) := by first | (rw [hy168]; with_reducible exact H) | (have H2_ := (Option.bind_some _ _).symm.trans H; rw [hy168]; with_reducible exact H2_) | (have H2_ := (Option.bind_some _ _).symm.trans H; with_reducible exact H2_) | with_reducible exact H | (rw [hy168]; exact H) | exact H
  have Ny168 := Aside0.mk hy168
  clear hy168
  have H' := Aside0.mk H
  clear H
  go_enter Tryd.func30, Tryd.ntmps30
  try go_wp2_with (first | ((with_reducible refine gate_dst (N := 6) rfl ?_); refine box_event ?hg (N := 6) ?hd (cs := #[.int .i64 a2_0, .int .i64 a2_1]) (t := 24) ?hr ?_; (case hd => rfl); (case hg => rfl); (case hr => first | (go_simp; done) | (go_simp; rfl)); intro gb163 hg w5 hbox hb; have n0_ := Aside0.mk (below_step (by repeat (first | (with_reducible first | exact HB.out | apply below_alloc | apply pw_below_drewN | apply below_drew1) | exact HB.out)) hb); have n1_ := Aside0.mk (hbox); have n2_ := Aside0.mk ((by rw [hg]; exact (below_size (by repeat (first | (with_reducible first | exact HB.out | apply below_alloc | apply pw_below_drewN | apply below_drew1) | exact HB.out))) : w.heap.size ≤ gb163)); have n3_ := Aside0.mk ((by rw [hg]; exact (below_size (by repeat (first | (with_reducible first | exact HB.out | apply below_alloc | apply pw_below_drewN | apply below_drew1) | exact HB.out))) : w.heap.size ≤ gb163)); clear HB; have HB := n0_; have BK163 := n1_; have GW163 := n2_; have GE163 := n3_; clear n0_ n1_ n2_ n3_; clear hb hbox hg; have hcz6_0 : w5.cell? ⟨gb163, 0, none⟩ = some (.int .i64 a2_0) := (blk_cell BK163.out 0).trans rfl; have hcz6_1 : w5.cell? ⟨gb163, 1, none⟩ = some (.int .i64 a2_1) := (blk_cell BK163.out 1).trans rfl; have hfz6_0 := blk_frozen BK163.out 0; have hfz6_1 := blk_frozen BK163.out 1) | ((with_reducible refine gate_dst (N := 10) rfl ?_); refine box_event ?hg (N := 10) ?hd (cs := #[.int .i64 0, .int .i64 0]) (t := 24) ?hr ?_; (case hd => rfl); (case hg => rfl); (case hr => first | (go_simp; done) | (go_simp; rfl)); intro gb164 hg w7 hbox hb; have n0_ := Aside0.mk (blk_below (g := gb163) (o := .cells #[.int .i64 a2_0, .int .i64 a2_1] 24 (0, 0)) (by (with_reducible repeat (first | refine blk_drewN ?_ _ | refine blk_drew ?_ | refine blk_alloc ?_ _)); exact BK163.out) hb); have n1_ := Aside0.mk (below_step (by repeat (first | (with_reducible first | exact HB.out | apply below_alloc | apply pw_below_drewN | apply below_drew1 | refine below_set ?_ GE163.out) | exact HB.out)) hb); have n2_ := Aside0.mk (hbox); have n3_ := Aside0.mk ((by rw [hg]; exact (below_size (by repeat (first | (with_reducible first | exact HB.out | apply below_alloc | apply pw_below_drewN | apply below_drew1 | refine below_set ?_ GE163.out) | exact HB.out))) : w.heap.size ≤ gb164)); have n4_ := Aside0.mk ((by rw [hg]; exact (below_size (by repeat (first | (with_reducible first | exact HB.out | apply below_alloc | apply pw_below_drewN | apply below_drew1 | refine below_set ?_ GE163.out) | exact HB.out))) : w.heap.size ≤ gb164)); have n5_ := Aside0.mk ((by rw [hg]; exact Nat.ne_of_lt (blk_lt (g := gb163) (o := .cells #[.int .i64 a2_0, .int .i64 a2_1] 24 (0, 0)) (by (with_reducible repeat (first | refine blk_drewN ?_ _ | refine blk_drew ?_ | refine blk_alloc ?_ _)); exact BK163.out)) : gb163 ≠ gb164)); have n6_ := Aside0.mk ((by rw [hg]; exact Nat.ne_of_gt (blk_lt (g := gb163) (o := .cells #[.int .i64 a2_0, .int .i64 a2_1] 24 (0, 0)) (by (with_reducible repeat (first | refine blk_drewN ?_ _ | refine blk_drew ?_ | refine blk_alloc ?_ _)); exact BK163.out)) : gb164 ≠ gb163)); clear BK163; clear HB; have BK163 := n0_; have HB := n1_; have BK164 := n2_; have GW164 := n3_; have GE164 := n4_; have NB163_164 := n5_; have NB164_163 := n6_; clear n0_ n1_ n2_ n3_ n4_ n5_ n6_; clear hb hbox hg; have hnb8 := NB164_163.out; have hnc8 := NB163_164.out; have hcz9_0 : w7.cell? ⟨gb164, 0, none⟩ = some (.int .i64 0) := (blk_cell BK164.out 0).trans rfl; have hcz9_1 : w7.cell? ⟨gb164, 1, none⟩ = some (.int .i64 0) := (blk_cell BK164.out 1).trans rfl; have hfz9_0 := blk_frozen BK164.out 0; have hfz9_1 := blk_frozen BK164.out 1))
  have n0_ : Aside0 (((w7.setCell ⟨gb164, 0, none⟩ (.int .i64 (wrap64 (a0 * a2_0)))).setCell ⟨gb164, 1, none⟩ (.int .i64 (wrap64 (a1 * a2_1)))).heap[gb163]? = some (.cells #[.int .i64 a2_0, .int .i64 a2_1] 24 (0, 0))) := ⟨by (with_reducible repeat (first | refine blk_drewN ?_ _ | refine blk_drew ?_ | refine blk_alloc ?_ _)); refine blk_far ?_ NB163_164.out _; (with_reducible repeat (first | refine blk_drewN ?_ _ | refine blk_drew ?_ | refine blk_alloc ?_ _)); refine blk_far ?_ NB163_164.out _; (with_reducible repeat (first | refine blk_drewN ?_ _ | refine blk_drew ?_ | refine blk_alloc ?_ _)); exact BK163.out⟩
  have n1_ : Aside0 (((w7.setCell ⟨gb164, 0, none⟩ (.int .i64 (wrap64 (a0 * a2_0)))).setCell ⟨gb164, 1, none⟩ (.int .i64 (wrap64 (a1 * a2_1)))).heap[gb164]? = some (.cells #[.int .i64 (wrap64 (a0 * a2_0)), .int .i64 (wrap64 (a1 * a2_1))] 24 (0, 0))) := ⟨by (with_reducible repeat (first | refine blk_drewN ?_ _ | refine blk_drew ?_ | refine blk_alloc ?_ _)); refine blk_put (cs := #[.int .i64 (wrap64 (a0 * a2_0)), .int .i64 0]) ?_ 1 _ rfl; (with_reducible repeat (first | refine blk_drewN ?_ _ | refine blk_drew ?_ | refine blk_alloc ?_ _)); refine blk_put (cs := #[.int .i64 0, .int .i64 0]) ?_ 0 _ rfl; (with_reducible repeat (first | refine blk_drewN ?_ _ | refine blk_drew ?_ | refine blk_alloc ?_ _)); exact BK164.out⟩
  have n2_ : Aside0 (Below w.heap.size w ((w7.setCell ⟨gb164, 0, none⟩ (.int .i64 (wrap64 (a0 * a2_0)))).setCell ⟨gb164, 1, none⟩ (.int .i64 (wrap64 (a1 * a2_1))))) := ⟨by repeat (first | (with_reducible first | exact HB.out | apply below_alloc | apply pw_below_drewN | apply below_drew1 | refine below_set ?_ GE163.out | refine below_set ?_ GE164.out) | exact HB.out)⟩
  (try clear BK163)
  (try clear BK164)
  (try clear HB)
  generalize ((w7.setCell ⟨gb164, 0, none⟩ (.int .i64 (wrap64 (a0 * a2_0)))).setCell ⟨gb164, 1, none⟩ (.int .i64 (wrap64 (a1 * a2_1)))) = w10 at n0_ n1_ n2_ ⊢
  have BK163 := n0_
  have BK164 := n1_
  have HB := n2_
  clear n0_ n1_ n2_
  have n0_ := Aside0.mk (blk_drew BK163.out)
  have n1_ := Aside0.mk (blk_drew BK164.out)
  have n2_ := Aside0.mk (below_drew1 HB.out)
  clear BK163
  clear BK164
  clear HB
  have BK163 := n0_
  have BK164 := n1_
  have HB := n2_
  clear n0_ n1_ n2_
  refine start_ (n := 5) (S := fun w' => True) (ds := []) #[false, false, false, false, false] (by kernel_rfl) rfl rfl trivial (fun hHeld => ?_); refine with_tabW impl_setupOf.tab2 impl_setupOf.bits2 (fun HT_ HW_ => ?_)
  generalize w10.drew = w11 at BK163 BK164 HB hHeld ⊢
  refine inv_at [0, 1, 2, 3, 4] (fun a0_ b a w' => ∃ (v166 : Value) (v169 : Value) (m3_ : Value) (m4_ : Value), a = putSel a0_ b [(0, 25, v166), (1, 26, .agg #[.int .i64 (wrap64 (a0 * a2_0)), .int .i64 (wrap64 (a1 * a2_1))]), (2, 27, v169), (3, 11, m3_), (4, 12, m4_)] ∧ (w'.heap[gb163]? = some (.cells #[.int .i64 a2_0, .int .i64 a2_1] 24 (0, 0))) ∧ (w'.heap[gb164]? = some (.cells #[.int .i64 (wrap64 (a0 * a2_0)), .int .i64 (wrap64 (a1 * a2_1))] 24 (0, 0))) ∧ (Below w.heap.size w w') ∧ (b 0 = true → Kd.R k56 56 w' w.heap.size (fun _ => True) v166 y165) ∧ (b 2 = true → Kd.R k24 24 w' w.heap.size (fun k_ => k_ ≠ gb163 ∧ k_ ≠ gb164) v169 y168) ∧ (b 3 = true → (m3_ : Value) = v166) ∧ (b 4 = true → (m4_ : Value) = v169)) HT_.out HW_.out (by kernel_rfl) (by kernel_rfl) ?_ ?_ ?_
  · exact ⟨.bool false, .bool false, .bool false, .bool false, by simp only [putSel, Bool.false_eq_true, if_false], BK163.out, BK164.out, HB.out, fun h_ => absurd h_ (by decide), fun h_ => absurd h_ (by decide), fun h_ => absurd h_ (by decide), fun h_ => absurd h_ (by decide)⟩
  · skip
    clear BK163 BK164 HB
    refine steps_cons ?_ ?_
    · rintro b a w' ⟨v166, v169, m3_, m4_, ha, Q_BK163, Q_BK164, Q_HB, Q_HO167, Q_HO170, Q_X3_, Q_X4_⟩ hb_ hon hoff
      refine ⟨_, rfl, fun K hK => ?_⟩
      replace ha := Aside0.mk ha
      have BK163 := Aside0.mk Q_BK163
      have BK164 := Aside0.mk Q_BK164
      have HB := Aside0.mk Q_HB
      refine Kd.R_lit_step k56 _ 56 ?hg (N := 25) ?hd (xs := ([] : List (S56))) (inner := []) (ok := fun _ => True) (okp := fun _ => True) ?hr ?hp (fun _ hk => hk) trivial (Below.refl _ _) (Nat.le_refl _) (by simp) ?_; (case hd => rfl); (case hg => rfl); (case hr => first | (go_simp; done) | (go_simp; rfl)); (case hp => exact (Reps.none _ _))
      intro v166 w12 ho13 hb hg_ hnew_
      clear hg_ hnew_
      (first | rw [← Ny165.out] at ho13 | (simp only [Int.reduceToNat] at ho13; rw [← Ny165.out] at ho13))
      have n0_ := Aside0.mk (Kd.R_lower ho13 (below_size (by repeat (first | (with_reducible first | exact HB.out | apply below_alloc | apply pw_below_drewN | apply below_drew1 | refine below_set ?_ GE163.out | refine below_set ?_ GE164.out) | exact HB.out))))
      have n1_ := Aside0.mk (blk_below (g := gb163) (o := .cells #[.int .i64 a2_0, .int .i64 a2_1] 24 (0, 0)) (by (with_reducible repeat (first | refine blk_drewN ?_ _ | refine blk_drew ?_ | refine blk_alloc ?_ _)); exact BK163.out) hb)
      have n2_ := Aside0.mk (blk_below (g := gb164) (o := .cells #[.int .i64 (wrap64 (a0 * a2_0)), .int .i64 (wrap64 (a1 * a2_1))] 24 (0, 0)) (by (with_reducible repeat (first | refine blk_drewN ?_ _ | refine blk_drew ?_ | refine blk_alloc ?_ _)); exact BK164.out) hb)
      have n3_ := Aside0.mk (below_step (by repeat (first | (with_reducible first | exact HB.out | apply below_alloc | apply pw_below_drewN | apply below_drew1 | refine below_set ?_ GE163.out | refine below_set ?_ GE164.out) | exact HB.out)) hb)
      have z_HO170 := fun (h0_ : b 2 = true) => (show Kd.R k24 24 w12 w.heap.size (fun k_ => k_ ≠ gb163 ∧ k_ ≠ gb164) v169 y168 from by first | exact (Kd.R_below (by (with_reducible repeat (first | apply Kd.R_alloc | apply Kd.R_drewN | apply Kd.R_drew)); exact (Q_HO170 h0_)) hb) | exact Kd.R_mono (Kd.R_below (by (with_reducible repeat (first | apply Kd.R_alloc | apply Kd.R_drewN | apply Kd.R_drew)); exact (Q_HO170 h0_)) hb) (fun _ h_ => by first | trivial | exact h_ | exact h_.1))
      clear BK163
      clear BK164
      clear HB
      have HO167 := n0_
      have BK163 := n1_
      have BK164 := n2_
      have HB := n3_
      clear n0_ n1_ n2_ n3_
      clear hb ho13
      refine hK.out _ _ ⟨v166, v169, m3_, m4_, (by rw [ha.out]; exact putSel_upk 0 hb_ rfl rfl rfl), (by (with_reducible repeat (first | refine blk_drewN ?_ _ | refine blk_drew ?_ | refine blk_alloc ?_ _)); exact BK163.out), (by (with_reducible repeat (first | refine blk_drewN ?_ _ | refine blk_drew ?_ | refine blk_alloc ?_ _)); exact BK164.out), (by repeat (first | (with_reducible first | exact HB.out | apply below_alloc | apply pw_below_drewN | apply below_drew1 | refine below_set ?_ GE163.out | refine below_set ?_ GE164.out) | exact HB.out)), fun _ => (by (with_reducible repeat (first | apply Kd.R_alloc | apply Kd.R_drewN | apply Kd.R_drew)); exact HO167.out), z_HO170, fun h0_ => absurd ((hoff 3 (by kernel_rfl)).symm.trans h0_) (by decide), fun h0_ => absurd ((hoff 4 (by kernel_rfl)).symm.trans h0_) (by decide)⟩
    refine steps_cons ?_ ?_
    · rintro b a w' ⟨v166, v169, m3_, m4_, ha, Q_BK163, Q_BK164, Q_HB, Q_HO167, Q_HO170, Q_X3_, Q_X4_⟩ hb_ hon hoff
      refine ⟨_, rfl, fun K hK => ?_⟩
      have e10 : a.tmps[10]? = some (.pointer (some ⟨gb164, 0, none⟩)) := by rw [ha]; exact (putSel_off rfl).trans rfl
      replace ha := Aside0.mk ha
      have BK163 := Aside0.mk Q_BK163
      have BK164 := Aside0.mk Q_BK164
      have HB := Aside0.mk Q_HB
      have hc0_ : w'.cell? ⟨gb164, 0, none⟩ = some (.int .i64 (wrap64 (a0 * a2_0))) := (blk_cell BK164.out 0).trans rfl
      have hc1_ : w'.cell? ⟨gb164, 1, none⟩ = some (.int .i64 (wrap64 (a1 * a2_1))) := (blk_cell BK164.out 1).trans rfl
      refine value_ (w1 := w') (v := .agg #[.int .i64 (wrap64 (a0 * a2_0)), .int .i64 (wrap64 (a1 * a2_1))]) (by rfl) rfl ?_ ?_
      · go_simp
        (try simp only [i64_w])
        try rfl
      refine hK.out _ _ ⟨v166, v169, m3_, m4_, (by rw [ha.out]; exact putSel_upk 1 hb_ rfl rfl rfl), Q_BK163, Q_BK164, Q_HB, Q_HO167, fun h0_ => absurd ((hoff 2 (by kernel_rfl)).symm.trans h0_) (by decide), Q_X3_, fun h0_ => absurd ((hoff 4 (by kernel_rfl)).symm.trans h0_) (by decide)⟩
    refine steps_cons ?_ ?_
    · rintro b a w' ⟨v166, v169, m3_, m4_, ha, Q_BK163, Q_BK164, Q_HB, Q_HO167, Q_HO170, Q_X3_, Q_X4_⟩ hb_ hon hoff
      refine ⟨_, rfl, fun K hK => ?_⟩
      have e26 : a.tmps[26]? = some (.agg #[.int .i64 (wrap64 (a0 * a2_0)), .int .i64 (wrap64 (a1 * a2_1))]) := by rw [ha]; exact putSel_on (e := (1, 26, .agg #[.int .i64 (wrap64 (a0 * a2_0)), .int .i64 (wrap64 (a1 * a2_1))])) 1 rfl rfl (hon 1 (by kernel_rfl)) rfl
      replace ha := Aside0.mk ha
      have BK163 := Aside0.mk Q_BK163
      have BK164 := Aside0.mk Q_BK164
      have HB := Aside0.mk Q_HB
      refine Kd.R_lit_step k24 _ 24 ?hg (N := 27) ?hd (xs := ([(⟨wrap64 (a0 * a2_0), wrap64 (a1 * a2_1)⟩ : S24)] : List (S24))) (inner := [.int .i64 (wrap64 (a0 * a2_0)), .int .i64 (wrap64 (a1 * a2_1))]) (ok := fun _ => True) (okp := fun _ => True) ?hr ?hp (fun _ hk => hk) trivial (Below.refl _ _) (Nat.le_refl _) (by simp) ?_; (case hd => rfl); (case hg => rfl); (case hr => first | (go_simp; done) | (go_simp; rfl)); (case hp => exact (Reps.c2 (show Kd.M k24 _ _ _ (⟨wrap64 (a0 * a2_0), wrap64 (a1 * a2_1)⟩ : S24) [.int .i64 (wrap64 (a0 * a2_0)), .int .i64 (wrap64 (a1 * a2_1))] from (k24_mkM _ _ _ (⟨wrap64 (a0 * a2_0), wrap64 (a1 * a2_1)⟩ : S24) )) (Reps.none _ _)))
      intro v169 w12 ho13 hb hg_ hnew_
      clear hg_ hnew_
      (first | rw [← Ny168.out] at ho13 | (simp only [Int.reduceToNat] at ho13; rw [← Ny168.out] at ho13))
      have n0_ := Aside0.mk (Kd.R_lower (Kd.R_newB (Kd.R_newB ho13 (g := gb163) (o := .cells #[.int .i64 a2_0, .int .i64 a2_1] 24 (0, 0)) (by (with_reducible repeat (first | refine blk_drewN ?_ _ | refine blk_drew ?_ | refine blk_alloc ?_ _)); exact BK163.out)) (g := gb164) (o := .cells #[.int .i64 (wrap64 (a0 * a2_0)), .int .i64 (wrap64 (a1 * a2_1))] 24 (0, 0)) (by (with_reducible repeat (first | refine blk_drewN ?_ _ | refine blk_drew ?_ | refine blk_alloc ?_ _)); exact BK164.out)) (below_size (by repeat (first | (with_reducible first | exact HB.out | apply below_alloc | apply pw_below_drewN | apply below_drew1 | refine below_set ?_ GE163.out | refine below_set ?_ GE164.out) | exact HB.out))))
      have n1_ := Aside0.mk (blk_below (g := gb163) (o := .cells #[.int .i64 a2_0, .int .i64 a2_1] 24 (0, 0)) (by (with_reducible repeat (first | refine blk_drewN ?_ _ | refine blk_drew ?_ | refine blk_alloc ?_ _)); exact BK163.out) hb)
      have n2_ := Aside0.mk (blk_below (g := gb164) (o := .cells #[.int .i64 (wrap64 (a0 * a2_0)), .int .i64 (wrap64 (a1 * a2_1))] 24 (0, 0)) (by (with_reducible repeat (first | refine blk_drewN ?_ _ | refine blk_drew ?_ | refine blk_alloc ?_ _)); exact BK164.out) hb)
      have n3_ := Aside0.mk (below_step (by repeat (first | (with_reducible first | exact HB.out | apply below_alloc | apply pw_below_drewN | apply below_drew1 | refine below_set ?_ GE163.out | refine below_set ?_ GE164.out) | exact HB.out)) hb)
      have z_HO167 := fun (h0_ : b 0 = true) => (show Kd.R k56 56 w12 w.heap.size (fun _ => True) v166 y165 from by first | exact (Kd.R_below (by (with_reducible repeat (first | apply Kd.R_alloc | apply Kd.R_drewN | apply Kd.R_drew)); exact (Q_HO167 h0_)) hb) | exact Kd.R_mono (Kd.R_below (by (with_reducible repeat (first | apply Kd.R_alloc | apply Kd.R_drewN | apply Kd.R_drew)); exact (Q_HO167 h0_)) hb) (fun _ h_ => by first | trivial | exact h_ | exact h_.1))
      clear BK163
      clear BK164
      clear HB
      have HO170 := n0_
      have BK163 := n1_
      have BK164 := n2_
      have HB := n3_
      clear n0_ n1_ n2_ n3_
      clear hb ho13
      refine hK.out _ _ ⟨v166, v169, m3_, m4_, (by rw [ha.out]; exact putSel_upk 2 hb_ rfl rfl rfl), (by (with_reducible repeat (first | refine blk_drewN ?_ _ | refine blk_drew ?_ | refine blk_alloc ?_ _)); exact BK163.out), (by (with_reducible repeat (first | refine blk_drewN ?_ _ | refine blk_drew ?_ | refine blk_alloc ?_ _)); exact BK164.out), (by repeat (first | (with_reducible first | exact HB.out | apply below_alloc | apply pw_below_drewN | apply below_drew1 | refine below_set ?_ GE163.out | refine below_set ?_ GE164.out) | exact HB.out)), z_HO167, fun _ => (by (with_reducible repeat (first | apply Kd.R_alloc | apply Kd.R_drewN | apply Kd.R_drew)); exact Kd.R_mono HO170.out (fun _ hk => ⟨hk.1.2, hk.2⟩)), Q_X3_, fun h0_ => absurd ((hoff 4 (by kernel_rfl)).symm.trans h0_) (by decide)⟩
    refine steps_cons ?_ ?_
    · rintro b a w' ⟨v166, v169, m3_, m4_, ha, Q_BK163, Q_BK164, Q_HB, Q_HO167, Q_HO170, Q_X3_, Q_X4_⟩ hb_ hon hoff
      refine ⟨_, rfl, fun K hK => ?_⟩
      have e25 : a.tmps[25]? = some (v166) := by rw [ha]; exact putSel_on (e := (0, 25, v166)) 0 rfl rfl (hon 0 (by kernel_rfl)) rfl
      replace ha := Aside0.mk ha
      have BK163 := Aside0.mk Q_BK163
      have BK164 := Aside0.mk Q_BK164
      have HB := Aside0.mk Q_HB
      have HO167 := Aside0.mk (Q_HO167 (hon 0 (by kernel_rfl)))
      refine value_ (w1 := w') (v := v166) (by rfl) rfl ?_ ?_
      · go_simp
        (try simp only [i64_w])
        try rfl
      refine hK.out _ _ ⟨v166, v169, (v166), m4_, (by rw [ha.out]; exact putSel_upk 3 hb_ rfl rfl rfl), Q_BK163, Q_BK164, Q_HB, Q_HO167, Q_HO170, fun _ => rfl, fun h0_ => absurd ((hoff 4 (by kernel_rfl)).symm.trans h0_) (by decide)⟩
    refine steps_cons ?_ ?_
    · rintro b a w' ⟨v166, v169, m3_, m4_, ha, Q_BK163, Q_BK164, Q_HB, Q_HO167, Q_HO170, Q_X3_, Q_X4_⟩ hb_ hon hoff
      refine ⟨_, rfl, fun K hK => ?_⟩
      have e27 : a.tmps[27]? = some (v169) := by rw [ha]; exact putSel_on (e := (2, 27, v169)) 2 rfl rfl (hon 2 (by kernel_rfl)) rfl
      replace ha := Aside0.mk ha
      have BK163 := Aside0.mk Q_BK163
      have BK164 := Aside0.mk Q_BK164
      have HB := Aside0.mk Q_HB
      have HO167 := Aside0.mk (Q_HO167 (hon 0 (by kernel_rfl)))
      have HO170 := Aside0.mk (Q_HO170 (hon 2 (by kernel_rfl)))
      refine value_ (w1 := w') (v := v169) (by rfl) rfl ?_ ?_
      · go_simp
        (try simp only [i64_w])
        try rfl
      refine hK.out _ _ ⟨v166, v169, m3_, (v169), (by rw [ha.out]; exact putSel_upk 4 hb_ rfl rfl rfl), Q_BK163, Q_BK164, Q_HB, Q_HO167, Q_HO170, Q_X3_, fun _ => rfl⟩
    exact steps_nil
  rintro b a w16 hall ⟨v166, v169, m3_, m4_, ha, Q_BK163, Q_BK164, Q_HB, Q_HO167, Q_HO170, Q_X3_, Q_X4_⟩
  clear BK163 BK164 HB
  have hb0_ := hall 0 (by kernel_rfl)
  have hb1_ := hall 1 (by kernel_rfl)
  have hb2_ := hall 2 (by kernel_rfl)
  have hb3_ := hall 3 (by kernel_rfl)
  have hb4_ := hall 4 (by kernel_rfl)
  subst ha
  obtain rfl := Q_X3_ hb3_
  obtain rfl := Q_X4_ hb4_
  simp only [putSel, hb0_, hb1_, hb2_, hb3_, hb4_, if_true, Act.put, List.setIfInBounds_toArray, List.set_cons_zero, List.set_cons_succ]
  have BK163 := Aside0.mk Q_BK163
  clear Q_BK163
  have BK164 := Aside0.mk Q_BK164
  clear Q_BK164
  have HB := Aside0.mk Q_HB
  clear Q_HB
  have HO167 := Aside0.mk (Q_HO167 hb0_)
  clear Q_HO167
  have HO170 := Aside0.mk (Q_HO170 hb2_)
  clear Q_HO170
  clear hall hb0_ hb1_ hb2_ hb3_ hb4_
  try go_wp2
  go_loopg [11, 12, 30] k (fun kq v11 v12 v30 w' => ∃ (x11_1 : List (S56)) (x12_1 : List (S24)) (x30_1 : Int) (x165000_1 : Int) (x165001_1 : Int), v30 = .int .i64 x30_1 ∧ Aside0 (impl_setupOf.l0 kq a3 x11_1 x12_1 (a3.size : Int) x30_1 x165000_1 x165001_1 = some (r1, r2)) ∧ Aside0 (kq ≤ k) ∧ Aside0 (Kd.R k56 56 w' w.heap.size (fun _ => True) v11 x11_1) ∧ Aside0 (Kd.R k24 24 w' w.heap.size (fun k_ => k_ ≠ gb163 ∧ k_ ≠ gb164) v12 x12_1) ∧ Aside0 (w'.heap[gb163]? = some (.cells #[.int .i64 a2_0, .int .i64 a2_1] 24 (0, 0))) ∧ Aside0 (w'.heap[gb164]? = some (.cells #[.int .i64 x165000_1, .int .i64 x165001_1] 24 (0, 0))) ∧ Aside0 (Below w.heap.size w w'))
  case atStart => exact ⟨(y165), (y168), (0), (wrap64 (a0 * a2_0)), (wrap64 (a1 * a2_1)), (by first | rfl | (simp; done) | (simp [*]; done)), H', ⟨Nat.le_refl _⟩, ⟨by (with_reducible repeat (first | apply Kd.R_alloc | apply Kd.R_drewN | apply Kd.R_drew)); exact HO167.out⟩, ⟨by (with_reducible repeat (first | apply Kd.R_alloc | apply Kd.R_drewN | apply Kd.R_drew)); exact HO170.out⟩, ⟨by (with_reducible repeat (first | refine blk_drewN ?_ _ | refine blk_drew ?_ | refine blk_alloc ?_ _)); exact BK163.out⟩, ⟨by (with_reducible repeat (first | refine blk_drewN ?_ _ | refine blk_drew ?_ | refine blk_alloc ?_ _)); exact BK164.out⟩, ⟨by repeat (first | (with_reducible first | exact HB.out | apply below_alloc | apply pw_below_drewN | apply below_drew1 | refine below_set ?_ GE163.out | refine below_set ?_ GE164.out) | exact HB.out)⟩⟩
  case round =>
    clear H'
    try clear c1
    try clear c2
    try clear p2
    try clear c3
    try clear p6
    try clear c8
    try clear hcz6_0
    try clear hcz6_1
    try clear hcz9_0
    try clear hcz9_1
    try clear hfz6_0
    try clear hfz6_1
    try clear hfz9_0
    try clear hfz9_1
    obtain ⟨x11_1, x12_1, x30_1, x165000_1, x165001_1, rfl, HA, HK1, HO_11, HO_12, BK163, BK164, HB⟩ := hrel
    cases gk with
    | zero => exact absurd HA.out (by simp [impl_setupOf.l0])
    | succ k1 =>
      have H := HA.out
      clear HA
      simp only [impl_setupOf.l0] at H
      by_cases c17 : x30_1 < (a3.size : Int)
      · rw [if_pos c17] at H
        have c17b0 : decide (x30_1 < (a3.size : Int)) = true := decide_eq_true c17
        clear c17
        by_cases c18 : 0 ≤ x30_1
        · rw [if_pos c18] at H
          have c18b0 : decide (0 ≤ x30_1) = true := decide_eq_true c18
          clear c18
          by_cases c19 : x30_1 < (a3.size : Int)
          · rw [if_pos c19] at H
            have c19b0 : decide (x30_1 < (a3.size : Int)) = true := decide_eq_true c19
            clear c19
            by_cases c21 : (bt a3 x30_1) = 76
            · rw [if_pos c21] at H
              have c21b0 : ((bt a3 x30_1) == 76) = true := beq_iff_eq.mpr c21
              have c21b1 : ((bt a3 x30_1) != 76) = false := bne_eq_false_iff_eq.mpr c21
              clear c21
              obtain ⟨y172, hy172⟩ : ∃ y_ : List (S56), y_ = (([(⟨true, wrap64 (Int.tdiv x165000_1 2), true⟩ : S56)] : List (S56))) := ⟨_, rfl⟩
              replace H : (if x11_1.length + y172.length < 5864062014805 then ((some (([(⟨wrap64 (Int.tdiv x165000_1 2), x165001_1⟩ : S24)] : List (S24)) : List (S24))).bind fun y178 => (if x12_1.length + y178.length < 8796093022208 then (impl_setupOf.l0 k1 a3 (x11_1 ++ y172) (x12_1 ++ y178) (a3.size : Int) (wrap64 (x30_1 + 1)) (wrap64 (Int.tdiv x165000_1 2)) x165001_1) else (none))) else (none)) = some (r1, r2) := by first | (rw [hy172]; with_reducible exact H) | (have H2_ := (Option.bind_some _ _).symm.trans H; rw [hy172]; with_reducible exact H2_) | (have H2_ := (Option.bind_some _ _).symm.trans H; with_reducible exact H2_) | with_reducible exact H | (rw [hy172]; exact H) | exact H
              have Ny172 := Aside0.mk hy172
              clear hy172
              by_cases c22 : x11_1.length + y172.length < 5864062014805
              · rw [if_pos c22] at H
                have LMc22 := Aside0.mk c22
                clear c22
                obtain ⟨y175, hy175⟩ : ∃ y_ : List (S56), y_ = (x11_1 ++ y172) := ⟨_, rfl⟩
                replace H : ((some (([(⟨wrap64 (Int.tdiv x165000_1 2), x165001_1⟩ : S24)] : List (S24)) : List (S24))).bind fun y178 => (if x12_1.length + y178.length < 8796093022208 then (impl_setupOf.l0 k1 a3 y175 (x12_1 ++ y178) (a3.size : Int) (wrap64 (x30_1 + 1)) (wrap64 (Int.tdiv x165000_1 2)) x165001_1) else (none))) = some (r1, r2) := by first | (rw [hy175]; with_reducible exact H) | (have H2_ := (Option.bind_some _ _).symm.trans H; rw [hy175]; with_reducible exact H2_) | (have H2_ := (Option.bind_some _ _).symm.trans H; with_reducible exact H2_) | with_reducible exact H | (rw [hy175]; exact H) | exact H
                have Ny175 := Aside0.mk hy175
                clear hy175
                obtain ⟨y178, hy178⟩ : ∃ y_ : List (S24), y_ = (([(⟨wrap64 (Int.tdiv x165000_1 2), x165001_1⟩ : S24)] : List (S24))) := ⟨_, rfl⟩
                replace H : (if x12_1.length + y178.length < 8796093022208 then (impl_setupOf.l0 k1 a3 y175 (x12_1 ++ y178) (a3.size : Int) (wrap64 (x30_1 + 1)) (wrap64 (Int.tdiv x165000_1 2)) x165001_1) else (none)) = some (r1, r2) := by first | (rw [hy178]; with_reducible exact H) | (have H2_ := (Option.bind_some _ _).symm.trans H; rw [hy178]; with_reducible exact H2_) | (have H2_ := (Option.bind_some _ _).symm.trans H; with_reducible exact H2_) | with_reducible exact H | (rw [hy178]; exact H) | exact H
                have Ny178 := Aside0.mk hy178
                clear hy178
                by_cases c23 : x12_1.length + y178.length < 8796093022208
                · rw [if_pos c23] at H
                  have LMc23 := Aside0.mk c23
                  clear c23
                  obtain ⟨y181, hy181⟩ : ∃ y_ : List (S24), y_ = (x12_1 ++ y178) := ⟨_, rfl⟩
                  replace H : (impl_setupOf.l0 k1 a3 y175 y181 (a3.size : Int) (wrap64 (x30_1 + 1)) (wrap64 (Int.tdiv x165000_1 2)) x165001_1) = some (r1, r2) := by first | (rw [hy181]; with_reducible exact H) | (have H2_ := (Option.bind_some _ _).symm.trans H; rw [hy181]; with_reducible exact H2_) | (have H2_ := (Option.bind_some _ _).symm.trans H; with_reducible exact H2_) | with_reducible exact H | (rw [hy181]; exact H) | exact H
                  have Ny181 := Aside0.mk hy181
                  clear hy181
                  have H' := Aside0.mk H
                  clear H
                  have p20 : 0 ≤ (x30_1 : Int) := of_decide_eq_true (by first | (with_reducible assumption) | assumption)
                  have q20 : x30_1 < (a3.size : Int) := of_decide_eq_true (by first | (with_reducible assumption) | assumption)
                  have hx20 := bt_at a3 x30_1
                  replace p20 := eq_true p20
                  replace q20 := eq_true q20
                  try go_wp2_with (first | ((with_reducible refine gate_dst (N := 15) rfl ?_); refine box_event ?hg (N := 15) ?hd (cs := #[.bool false, .int .i64 0, .bool false]) (t := 56) ?hr ?_; (case hd => rfl); (case hg => rfl); (case hr => first | (go_simp; done) | (go_simp; rfl)); intro gb171 hg w24 hbox hb; have n0_ := Aside0.mk (Kd.R_below (Kd.R_elderB (by (with_reducible repeat (first | apply Kd.R_alloc | apply Kd.R_drewN | apply Kd.R_drew)); exact HO_11.out) gb171 (Nat.le_of_eq hg.symm)) hb); have n1_ := Aside0.mk (Kd.R_below (by (with_reducible repeat (first | apply Kd.R_alloc | apply Kd.R_drewN | apply Kd.R_drew)); exact HO_12.out) hb); have n2_ := Aside0.mk (blk_below (g := gb163) (o := .cells #[.int .i64 a2_0, .int .i64 a2_1] 24 (0, 0)) (by (with_reducible repeat (first | refine blk_drewN ?_ _ | refine blk_drew ?_ | refine blk_alloc ?_ _)); exact BK163.out) hb); have n3_ := Aside0.mk (blk_below (g := gb164) (o := .cells #[.int .i64 x165000_1, .int .i64 x165001_1] 24 (0, 0)) (by (with_reducible repeat (first | refine blk_drewN ?_ _ | refine blk_drew ?_ | refine blk_alloc ?_ _)); exact BK164.out) hb); have n4_ := Aside0.mk (below_step (by repeat (first | (with_reducible first | exact HB.out | apply below_alloc | apply pw_below_drewN | apply below_drew1 | refine below_set ?_ GE163.out | refine below_set ?_ GE164.out) | exact HB.out)) hb); have n5_ := Aside0.mk (hbox); have n6_ := Aside0.mk ((by rw [hg]; exact (below_size (by repeat (first | (with_reducible first | exact HB.out | apply below_alloc | apply pw_below_drewN | apply below_drew1 | refine below_set ?_ GE163.out | refine below_set ?_ GE164.out) | exact HB.out))) : w.heap.size ≤ gb171)); have n7_ := Aside0.mk ((by rw [hg]; exact (below_size (by repeat (first | (with_reducible first | exact HB.out | apply below_alloc | apply pw_below_drewN | apply below_drew1 | refine below_set ?_ GE163.out | refine below_set ?_ GE164.out) | exact HB.out))) : w.heap.size ≤ gb171)); have n8_ := Aside0.mk ((by rw [hg]; exact Nat.ne_of_lt (blk_lt (g := gb163) (o := .cells #[.int .i64 a2_0, .int .i64 a2_1] 24 (0, 0)) (by (with_reducible repeat (first | refine blk_drewN ?_ _ | refine blk_drew ?_ | refine blk_alloc ?_ _)); exact BK163.out)) : gb163 ≠ gb171)); have n9_ := Aside0.mk ((by rw [hg]; exact Nat.ne_of_gt (blk_lt (g := gb163) (o := .cells #[.int .i64 a2_0, .int .i64 a2_1] 24 (0, 0)) (by (with_reducible repeat (first | refine blk_drewN ?_ _ | refine blk_drew ?_ | refine blk_alloc ?_ _)); exact BK163.out)) : gb171 ≠ gb163)); have n10_ := Aside0.mk ((by rw [hg]; exact Nat.ne_of_lt (blk_lt (g := gb164) (o := .cells #[.int .i64 x165000_1, .int .i64 x165001_1] 24 (0, 0)) (by (with_reducible repeat (first | refine blk_drewN ?_ _ | refine blk_drew ?_ | refine blk_alloc ?_ _)); exact BK164.out)) : gb164 ≠ gb171)); have n11_ := Aside0.mk ((by rw [hg]; exact Nat.ne_of_gt (blk_lt (g := gb164) (o := .cells #[.int .i64 x165000_1, .int .i64 x165001_1] 24 (0, 0)) (by (with_reducible repeat (first | refine blk_drewN ?_ _ | refine blk_drew ?_ | refine blk_alloc ?_ _)); exact BK164.out)) : gb171 ≠ gb164)); clear HO_11; clear HO_12; clear BK163; clear BK164; clear HB; have HO_11 := n0_; have HO_12 := n1_; have BK163 := n2_; have BK164 := n3_; have HB := n4_; have BK171 := n5_; have GW171 := n6_; have GE171 := n7_; have NB163_171 := n8_; have NB171_163 := n9_; have NB164_171 := n10_; have NB171_164 := n11_; clear n0_ n1_ n2_ n3_ n4_ n5_ n6_ n7_ n8_ n9_ n10_ n11_; clear hb hbox hg; have hnb25 := NB171_163.out; have hnc25 := NB163_171.out; have hnb26 := NB171_164.out; have hnc26 := NB164_171.out; have hcz27_0 : w24.cell? ⟨gb171, 0, none⟩ = some (.bool false) := (blk_cell BK171.out 0).trans rfl; have hcz27_1 : w24.cell? ⟨gb171, 1, none⟩ = some (.int .i64 0) := (blk_cell BK171.out 1).trans rfl; have hcz27_2 : w24.cell? ⟨gb171, 2, none⟩ = some (.bool false) := (blk_cell BK171.out 2).trans rfl; have hfz27_0 := blk_frozen BK171.out 0; have hfz27_1 := blk_frozen BK171.out 1; have hfz27_2 := blk_frozen BK171.out 2; have hnb28 := NB164_163.out; have hnc28 := NB163_164.out; have hcz29_0 : w24.cell? ⟨gb164, 0, none⟩ = some (.int .i64 x165000_1) := (blk_cell BK164.out 0).trans rfl; have hcz29_1 : w24.cell? ⟨gb164, 1, none⟩ = some (.int .i64 x165001_1) := (blk_cell BK164.out 1).trans rfl; have hfz29_0 := blk_frozen BK164.out 0; have hfz29_1 := blk_frozen BK164.out 1; obtain ⟨Ao30, co30, eo30⟩ := Kd.R_slice HO_11.out; subst eo30; obtain ⟨Ao31, co31, eo31⟩ := Kd.R_slice HO_12.out; subst eo31))
                  have n0_ : Aside0 (Kd.R k56 56 (((((w24.setCell ⟨gb171, 0, none⟩ (.bool true)).setCell ⟨gb171, 1, none⟩ (.int .i64 0)).setCell ⟨gb171, 2, none⟩ (.bool true)).setCell ⟨gb164, 0, none⟩ (.int .i64 (wrap64 (Int.tdiv x165000_1 2)))).setCell ⟨gb171, 1, none⟩ (.int .i64 (wrap64 (Int.tdiv x165000_1 2)))) w.heap.size (fun k_ => k_ ≠ gb171) (.slice Ao30 x11_1.length co30) x11_1) := ⟨by (with_reducible repeat (first | apply Kd.R_alloc | apply Kd.R_drewN | apply Kd.R_drew)); exact Kd.R_mono (Kd.R_far (p := ⟨gb171, 1, none⟩) (Kd.R_far (p := ⟨gb164, 0, none⟩) (Kd.R_far (p := ⟨gb171, 2, none⟩) (Kd.R_far (p := ⟨gb171, 1, none⟩) (Kd.R_far (p := ⟨gb171, 0, none⟩) (Kd.R_types (Kd.R_mono HO_11.out (fun k_ hk => (⟨hk, hk.2⟩ : _ ∧ k_ ≠ gb171))) BK164.out (by decide)) (fun _ hk => hk.1.2) (.bool true)) (fun _ hk => hk.1.2) (.int .i64 0)) (fun _ hk => hk.1.2) (.bool true)) (fun _ hk => hk.2) (.int .i64 (wrap64 (Int.tdiv x165000_1 2)))) (fun _ hk => hk.1.2) (.int .i64 (wrap64 (Int.tdiv x165000_1 2)))) (fun _ hk => hk.1.1.2)⟩
                  have n1_ : Aside0 (Kd.R k24 24 (((((w24.setCell ⟨gb171, 0, none⟩ (.bool true)).setCell ⟨gb171, 1, none⟩ (.int .i64 0)).setCell ⟨gb171, 2, none⟩ (.bool true)).setCell ⟨gb164, 0, none⟩ (.int .i64 (wrap64 (Int.tdiv x165000_1 2)))).setCell ⟨gb171, 1, none⟩ (.int .i64 (wrap64 (Int.tdiv x165000_1 2)))) w.heap.size (fun k_ => k_ ≠ gb163 ∧ k_ ≠ gb164) (.slice Ao31 x12_1.length co31) x12_1) := ⟨by (with_reducible repeat (first | apply Kd.R_alloc | apply Kd.R_drewN | apply Kd.R_drew)); exact Kd.R_mono (Kd.R_far (p := ⟨gb171, 1, none⟩) (Kd.R_far (p := ⟨gb164, 0, none⟩) (Kd.R_far (p := ⟨gb171, 2, none⟩) (Kd.R_far (p := ⟨gb171, 1, none⟩) (Kd.R_far (p := ⟨gb171, 0, none⟩) (Kd.R_mono (Kd.R_types HO_12.out BK171.out (by decide)) (fun k_ hk => (⟨hk, hk.1.2⟩ : _ ∧ k_ ≠ gb164))) (fun _ hk => hk.1.2) (.bool true)) (fun _ hk => hk.1.2) (.int .i64 0)) (fun _ hk => hk.1.2) (.bool true)) (fun _ hk => hk.2) (.int .i64 (wrap64 (Int.tdiv x165000_1 2)))) (fun _ hk => hk.1.2) (.int .i64 (wrap64 (Int.tdiv x165000_1 2)))) (fun _ hk => ⟨hk.1.1.1, hk.1.1.2⟩)⟩
                  have n2_ : Aside0 ((((((w24.setCell ⟨gb171, 0, none⟩ (.bool true)).setCell ⟨gb171, 1, none⟩ (.int .i64 0)).setCell ⟨gb171, 2, none⟩ (.bool true)).setCell ⟨gb164, 0, none⟩ (.int .i64 (wrap64 (Int.tdiv x165000_1 2)))).setCell ⟨gb171, 1, none⟩ (.int .i64 (wrap64 (Int.tdiv x165000_1 2)))).heap[gb163]? = some (.cells #[.int .i64 a2_0, .int .i64 a2_1] 24 (0, 0))) := ⟨by (with_reducible repeat (first | refine blk_drewN ?_ _ | refine blk_drew ?_ | refine blk_alloc ?_ _)); refine blk_far ?_ NB163_171.out _; (with_reducible repeat (first | refine blk_drewN ?_ _ | refine blk_drew ?_ | refine blk_alloc ?_ _)); refine blk_far ?_ NB163_164.out _; (with_reducible repeat (first | refine blk_drewN ?_ _ | refine blk_drew ?_ | refine blk_alloc ?_ _)); refine blk_far ?_ NB163_171.out _; (with_reducible repeat (first | refine blk_drewN ?_ _ | refine blk_drew ?_ | refine blk_alloc ?_ _)); refine blk_far ?_ NB163_171.out _; (with_reducible repeat (first | refine blk_drewN ?_ _ | refine blk_drew ?_ | refine blk_alloc ?_ _)); refine blk_far ?_ NB163_171.out _; (with_reducible repeat (first | refine blk_drewN ?_ _ | refine blk_drew ?_ | refine blk_alloc ?_ _)); exact BK163.out⟩
                  have n3_ : Aside0 ((((((w24.setCell ⟨gb171, 0, none⟩ (.bool true)).setCell ⟨gb171, 1, none⟩ (.int .i64 0)).setCell ⟨gb171, 2, none⟩ (.bool true)).setCell ⟨gb164, 0, none⟩ (.int .i64 (wrap64 (Int.tdiv x165000_1 2)))).setCell ⟨gb171, 1, none⟩ (.int .i64 (wrap64 (Int.tdiv x165000_1 2)))).heap[gb164]? = some (.cells #[.int .i64 (wrap64 (Int.tdiv x165000_1 2)), .int .i64 x165001_1] 24 (0, 0))) := ⟨by (with_reducible repeat (first | refine blk_drewN ?_ _ | refine blk_drew ?_ | refine blk_alloc ?_ _)); refine blk_far ?_ NB164_171.out _; (with_reducible repeat (first | refine blk_drewN ?_ _ | refine blk_drew ?_ | refine blk_alloc ?_ _)); refine blk_put (cs := #[.int .i64 x165000_1, .int .i64 x165001_1]) ?_ 0 _ rfl; (with_reducible repeat (first | refine blk_drewN ?_ _ | refine blk_drew ?_ | refine blk_alloc ?_ _)); refine blk_far ?_ NB164_171.out _; (with_reducible repeat (first | refine blk_drewN ?_ _ | refine blk_drew ?_ | refine blk_alloc ?_ _)); refine blk_far ?_ NB164_171.out _; (with_reducible repeat (first | refine blk_drewN ?_ _ | refine blk_drew ?_ | refine blk_alloc ?_ _)); refine blk_far ?_ NB164_171.out _; (with_reducible repeat (first | refine blk_drewN ?_ _ | refine blk_drew ?_ | refine blk_alloc ?_ _)); exact BK164.out⟩
                  have n4_ : Aside0 ((((((w24.setCell ⟨gb171, 0, none⟩ (.bool true)).setCell ⟨gb171, 1, none⟩ (.int .i64 0)).setCell ⟨gb171, 2, none⟩ (.bool true)).setCell ⟨gb164, 0, none⟩ (.int .i64 (wrap64 (Int.tdiv x165000_1 2)))).setCell ⟨gb171, 1, none⟩ (.int .i64 (wrap64 (Int.tdiv x165000_1 2)))).heap[gb171]? = some (.cells #[.bool true, .int .i64 (wrap64 (Int.tdiv x165000_1 2)), .bool true] 56 (0, 0))) := ⟨by (with_reducible repeat (first | refine blk_drewN ?_ _ | refine blk_drew ?_ | refine blk_alloc ?_ _)); refine blk_put (cs := #[.bool true, .int .i64 0, .bool true]) ?_ 1 _ rfl; (with_reducible repeat (first | refine blk_drewN ?_ _ | refine blk_drew ?_ | refine blk_alloc ?_ _)); refine blk_far ?_ NB171_164.out _; (with_reducible repeat (first | refine blk_drewN ?_ _ | refine blk_drew ?_ | refine blk_alloc ?_ _)); refine blk_put (cs := #[.bool true, .int .i64 0, .bool false]) ?_ 2 _ rfl; (with_reducible repeat (first | refine blk_drewN ?_ _ | refine blk_drew ?_ | refine blk_alloc ?_ _)); refine blk_put (cs := #[.bool true, .int .i64 0, .bool false]) ?_ 1 _ rfl; (with_reducible repeat (first | refine blk_drewN ?_ _ | refine blk_drew ?_ | refine blk_alloc ?_ _)); refine blk_put (cs := #[.bool false, .int .i64 0, .bool false]) ?_ 0 _ rfl; (with_reducible repeat (first | refine blk_drewN ?_ _ | refine blk_drew ?_ | refine blk_alloc ?_ _)); exact BK171.out⟩
                  have n5_ : Aside0 (Below w.heap.size w (((((w24.setCell ⟨gb171, 0, none⟩ (.bool true)).setCell ⟨gb171, 1, none⟩ (.int .i64 0)).setCell ⟨gb171, 2, none⟩ (.bool true)).setCell ⟨gb164, 0, none⟩ (.int .i64 (wrap64 (Int.tdiv x165000_1 2)))).setCell ⟨gb171, 1, none⟩ (.int .i64 (wrap64 (Int.tdiv x165000_1 2))))) := ⟨by repeat (first | (with_reducible first | exact HB.out | apply below_alloc | apply pw_below_drewN | apply below_drew1 | refine below_set ?_ GE163.out | refine below_set ?_ GE164.out | refine below_set ?_ GE171.out) | exact HB.out)⟩
                  (try clear HO_11)
                  (try clear HO_12)
                  (try clear BK163)
                  (try clear BK164)
                  (try clear BK171)
                  (try clear HB)
                  generalize (((((w24.setCell ⟨gb171, 0, none⟩ (.bool true)).setCell ⟨gb171, 1, none⟩ (.int .i64 0)).setCell ⟨gb171, 2, none⟩ (.bool true)).setCell ⟨gb164, 0, none⟩ (.int .i64 (wrap64 (Int.tdiv x165000_1 2)))).setCell ⟨gb171, 1, none⟩ (.int .i64 (wrap64 (Int.tdiv x165000_1 2)))) = w32 at n0_ n1_ n2_ n3_ n4_ n5_ ⊢
                  have HO_11 := n0_
                  have HO_12 := n1_
                  have BK163 := n2_
                  have BK164 := n3_
                  have BK171 := n4_
                  have HB := n5_
                  clear n0_ n1_ n2_ n3_ n4_ n5_
                  have n0_ := Aside0.mk (Kd.R_drew HO_11.out)
                  have n1_ := Aside0.mk (Kd.R_drew HO_12.out)
                  have n2_ := Aside0.mk (blk_drew BK163.out)
                  have n3_ := Aside0.mk (blk_drew BK164.out)
                  have n4_ := Aside0.mk (blk_drew BK171.out)
                  have n5_ := Aside0.mk (below_drew1 HB.out)
                  clear HO_11
                  clear HO_12
                  clear BK163
                  clear BK164
                  clear BK171
                  clear HB
                  have HO_11 := n0_
                  have HO_12 := n1_
                  have BK163 := n2_
                  have BK164 := n3_
                  have BK171 := n4_
                  have HB := n5_
                  clear n0_ n1_ n2_ n3_ n4_ n5_
                  refine start_ (n := 10) (S := fun w' => w'.cell? ⟨gb171, 0, none⟩ = some (.bool true) ∧ w'.cell? ⟨gb171, 1, none⟩ = some (.int .i64 (wrap64 (Int.tdiv x165000_1 2))) ∧ w'.cell? ⟨gb171, 2, none⟩ = some (.bool true) ∧ w'.cell? ⟨gb164, 0, none⟩ = some (.int .i64 (wrap64 (Int.tdiv x165000_1 2))) ∧ w'.cell? ⟨gb164, 1, none⟩ = some (.int .i64 x165001_1)) (ds := []) #[false, false, false, false, false, false, false, false, false, false] (by kernel_rfl) rfl rfl ⟨(blk_cell BK171.out 0).trans rfl, (blk_cell BK171.out 1).trans rfl, (blk_cell BK171.out 2).trans rfl, (blk_cell BK164.out 0).trans rfl, (blk_cell BK164.out 1).trans rfl⟩ (fun hHeld => ?_); refine with_tabW impl_setupOf.tab13 impl_setupOf.bits13 (fun HT_ HW_ => ?_)
                  generalize w32.drew = w33 at HO_11 HO_12 BK163 BK164 BK171 HB hHeld ⊢
                  refine pure_ (i := 0) (N := some 65) (v := ?_) (a' := ?_) #[true, false, false, false, false, false, false, false, false, false] rfl rfl (any_of HT_.out (by kernel_rfl)) (fun _ _ _ h => h) (Or.inl ⟨by rfl, ?_⟩) ?_ ?_
                  rotate_left
                  · intro w'
                    go_simp
                    with_reducible rfl
                  rotate_left
                  · simp only [Act.put, List.setIfInBounds_toArray, List.set_cons_zero, List.set_cons_succ, i64_w, i32_w]
                    rfl
                  refine pure_ (i := 4) (N := some 69) (v := ?_) (a' := ?_) #[true, false, false, false, true, false, false, false, false, false] rfl rfl (any_of HT_.out (by kernel_rfl)) (fun _ _ _ h => h) (Or.inl ⟨by rfl, ?_⟩) ?_ ?_
                  rotate_left
                  · intro w'
                    go_simp
                    with_reducible rfl
                  rotate_left
                  · simp only [Act.put, List.setIfInBounds_toArray, List.set_cons_zero, List.set_cons_succ, i64_w, i32_w]
                    rfl
                  refine take_ (i := 1) (N := some 66) (v := ?_) (a' := ?_) #[true, true, false, false, true, false, false, false, false, false] rfl rfl (take_ofW HT_.out HW_.out (by kernel_rfl)) (fun _ _ _ h => h) (Or.inl ⟨by rfl, ?_⟩) hHeld ?_ ?_
                  rotate_left
                  · rintro w' ⟨s0, s1, s2, s3, s4⟩
                    go_simp
                    with_reducible rfl
                  rotate_left
                  · simp only [Act.put, List.setIfInBounds_toArray, List.set_cons_zero, List.set_cons_succ, i64_w, i32_w]
                    rfl
                  refine take_ (i := 5) (N := some 70) (v := ?_) (a' := ?_) #[true, true, false, false, true, true, false, false, false, false] rfl rfl (take_ofW HT_.out HW_.out (by kernel_rfl)) (fun _ _ _ h => h) (Or.inl ⟨by rfl, ?_⟩) hHeld ?_ ?_
                  rotate_left
                  · rintro w' ⟨s0, s1, s2, s3, s4⟩
                    go_simp
                    with_reducible rfl
                  rotate_left
                  · simp only [Act.put, List.setIfInBounds_toArray, List.set_cons_zero, List.set_cons_succ, i64_w, i32_w]
                    rfl
                  refine join_ (σ := Value × Value × Value) 3 #[true, true, true, true, true, true, true, false, false, false] (fun s_ => [(67, s_.1), (68, s_.2.1), (71, s_.2.2)]) (fun s_ w' => (w'.cell? ⟨gb171, 0, none⟩ = some (.bool true) ∧ w'.cell? ⟨gb171, 1, none⟩ = some (.int .i64 (wrap64 (Int.tdiv x165000_1 2))) ∧ w'.cell? ⟨gb171, 2, none⟩ = some (.bool true) ∧ w'.cell? ⟨gb164, 0, none⟩ = some (.int .i64 (wrap64 (Int.tdiv x165000_1 2))) ∧ w'.cell? ⟨gb164, 1, none⟩ = some (.int .i64 x165001_1)) ∧ (Kd.R k56 56 w' w.heap.size (fun k_ => some k_ ≠ (s_.2.1 : Value).ownBlock ∧ k_ ≠ gb171) s_.1 y172) ∧ (Kd.R k56 56 w' w.heap.size (fun k_ => some k_ ≠ (s_.1 : Value).ownBlock ∧ k_ ≠ gb171) s_.2.1 y175) ∧ (Kd.R k24 24 w' w.heap.size (fun k_ => some k_ ≠ (.slice Ao31 x12_1.length co31 : Value).ownBlock ∧ k_ ≠ gb163 ∧ k_ ≠ gb164) s_.2.2 y178) ∧ (Kd.R k24 24 w' w.heap.size (fun k_ => some k_ ≠ (s_.2.2 : Value).ownBlock ∧ k_ ≠ gb163 ∧ k_ ≠ gb164) (.slice Ao31 x12_1.length co31) x12_1) ∧ (w'.heap[gb163]? = some (.cells #[.int .i64 a2_0, .int .i64 a2_1] 24 (0, 0))) ∧ (w'.heap[gb164]? = some (.cells #[.int .i64 (wrap64 (Int.tdiv x165000_1 2)), .int .i64 x165001_1] 24 (0, 0))) ∧ (w'.heap[gb171]? = some (.cells #[.bool true, .int .i64 (wrap64 (Int.tdiv x165000_1 2)), .bool true] 56 (0, 0))) ∧ (Below w.heap.size w w')) ?_ ?_
                  rotate_left
                  · intro hCont
                    refine two_ (i := 2) (j := 6) (Ni := some 67) (Nj := some 71) #[true, true, true, false, true, true, false, false, false, false] #[true, true, false, false, true, true, true, false, false, false] rfl rfl rfl rfl (two_of HT_.out (by kernel_rfl)) (by decide) (by decide) (fun K hK => ?_) (fun K hK => ?_)
                    · skip
                      refine Kd.R_lit_step k56 _ 56 ?hg (N := 67) ?hd (xs := ([(⟨true, wrap64 (Int.tdiv x165000_1 2), true⟩ : S56)] : List (S56))) (inner := [.bool true, .int .i64 (wrap64 (Int.tdiv x165000_1 2)), .bool true]) (ok := fun _ => True) (okp := fun _ => True) ?hr ?hp (fun _ hk => hk) trivial (Below.refl _ _) (Nat.le_refl _) (by simp) ?_; (case hd => rfl); (case hg => rfl); (case hr => first | (go_simp; done) | (go_simp; rfl)); (case hp => exact (Reps.c3 (show Kd.M k56 _ _ _ (⟨true, wrap64 (Int.tdiv x165000_1 2), true⟩ : S56) [.bool true, .int .i64 (wrap64 (Int.tdiv x165000_1 2)), .bool true] from (k56_mkM _ _ _ (⟨true, wrap64 (Int.tdiv x165000_1 2), true⟩ : S56) )) (Reps.none _ _)))
                      intro v173 w34 ho35 hb hg_ hnew_
                      clear hg_ hnew_
                      (first | rw [← Ny172.out] at ho35 | (simp only [Int.reduceToNat] at ho35; rw [← Ny172.out] at ho35))
                      have n0_ := Aside0.mk (Kd.R_elder' (by (with_reducible repeat (first | apply Kd.R_alloc | apply Kd.R_drewN | apply Kd.R_drew)); exact HO_11.out) (Kd.R_base ho35) hb)
                      have n1_ := Aside0.mk (Kd.R_below (by (with_reducible repeat (first | apply Kd.R_alloc | apply Kd.R_drewN | apply Kd.R_drew)); exact HO_12.out) hb)
                      have n2_ := Aside0.mk (Kd.R_lower (Kd.R_newB (Kd.R_new' ho35 (Kd.R_lt (by (with_reducible repeat (first | apply Kd.R_alloc | apply Kd.R_drewN | apply Kd.R_drew)); exact HO_11.out))) (g := gb171) (o := .cells #[.bool true, .int .i64 (wrap64 (Int.tdiv x165000_1 2)), .bool true] 56 (0, 0)) (by (with_reducible repeat (first | refine blk_drewN ?_ _ | refine blk_drew ?_ | refine blk_alloc ?_ _)); exact BK171.out)) (below_size (by repeat (first | (with_reducible first | exact HB.out | apply below_alloc | apply pw_below_drewN | apply below_drew1 | refine below_set ?_ GE163.out | refine below_set ?_ GE164.out | refine below_set ?_ GE171.out) | exact HB.out))))
                      have n3_ := Aside0.mk (blk_below (g := gb163) (o := .cells #[.int .i64 a2_0, .int .i64 a2_1] 24 (0, 0)) (by (with_reducible repeat (first | refine blk_drewN ?_ _ | refine blk_drew ?_ | refine blk_alloc ?_ _)); exact BK163.out) hb)
                      have n4_ := Aside0.mk (blk_below (g := gb164) (o := .cells #[.int .i64 (wrap64 (Int.tdiv x165000_1 2)), .int .i64 x165001_1] 24 (0, 0)) (by (with_reducible repeat (first | refine blk_drewN ?_ _ | refine blk_drew ?_ | refine blk_alloc ?_ _)); exact BK164.out) hb)
                      have n5_ := Aside0.mk (blk_below (g := gb171) (o := .cells #[.bool true, .int .i64 (wrap64 (Int.tdiv x165000_1 2)), .bool true] 56 (0, 0)) (by (with_reducible repeat (first | refine blk_drewN ?_ _ | refine blk_drew ?_ | refine blk_alloc ?_ _)); exact BK171.out) hb)
                      have n6_ := Aside0.mk (below_step (by repeat (first | (with_reducible first | exact HB.out | apply below_alloc | apply pw_below_drewN | apply below_drew1 | refine below_set ?_ GE163.out | refine below_set ?_ GE164.out | refine below_set ?_ GE171.out) | exact HB.out)) hb)
                      clear HO_11
                      clear HO_12
                      clear BK163
                      clear BK164
                      clear BK171
                      clear HB
                      have HO_11 := n0_
                      have HO_12 := n1_
                      have HO174 := n2_
                      have BK163 := n3_
                      have BK164 := n4_
                      have BK171 := n5_
                      have HB := n6_
                      clear n0_ n1_ n2_ n3_ n4_ n5_ n6_
                      clear hb ho35
                      obtain ⟨Ao37, co37, eo37⟩ := Kd.R_slice HO174.out
                      (first | subst eo37 | (injection eo37 with f1_ f2_ f3_; have f4_ := f1_.symm; have f5_ := f3_.symm; clear f1_ f2_ f3_; subst f4_; subst f5_))
                      refine hK.out _ _ ⟨(blk_cell BK171.out 0).trans rfl, (blk_cell BK171.out 1).trans rfl, (blk_cell BK171.out 2).trans rfl, (blk_cell BK164.out 0).trans rfl, (blk_cell BK164.out 1).trans rfl⟩ (fun hHeld => ?_)
                      clear hK K
                      refine norm_ (a' := ?_) ?_ ?_
                      rotate_left
                      · show Act.put _ (some 67) _ = _
                        simp only [Act.put, List.setIfInBounds_toArray, List.set_cons_zero, List.set_cons_succ, i64_w, i32_w]
                        rfl
                      refine two_ (i := 3) (j := 6) (Ni := some 68) (Nj := some 71) #[true, true, true, true, true, true, false, false, false, false] #[true, true, true, false, true, true, true, false, false, false] rfl rfl rfl rfl (two_of HT_.out (by kernel_rfl)) (by decide) (by decide) (fun K hK => ?_) (fun K hK => ?_)
                      · skip
                        refine Kd.R_append_rows_step k56 (w0 := w) w.heap.size (by rfl) (.tmp 65) (.tmp 67) 30 56 (.agg #[(.bool false), (.int .i64 0), (.bool false)]) 24 rfl Tryd.underlying30 info56 rfl (by decide) (by omega) (.slice Ao30 x11_1.length co30) x11_1 y172 _ _ _ (fun k_ => some k_ ≠ (.slice Ao37 y172.length co37 : Value).ownBlock ∧ k_ ≠ gb171) (fun _ => False) rfl rfl ?aO ?aR (fun _ _ h => h) (fun _ h => h.elim) ?aF ?aB ?aS ?aL ?_
                        (case aR => repeat (first | exact (Kd.R_reads' HO174.out).2.2 | (with_reducible refine Kd.C_alloc ?_ _) | (with_reducible refine Kd.C_drewN ?_ _) | (with_reducible refine Kd.C_drew ?_)))
                        (case aB => exact (by repeat (first | (with_reducible first | exact HB.out | apply below_alloc | apply pw_below_drewN | apply below_drew1 | refine below_set ?_ GE163.out | refine below_set ?_ GE164.out | refine below_set ?_ GE171.out) | exact HB.out)))
                        (case aF => exact (fun k_ hk => ⟨Kd.fresh' (Kd.R_lt (by (with_reducible repeat (first | apply Kd.R_alloc | apply Kd.R_drewN | apply Kd.R_drew)); exact HO174.out)) k_ hk, Kd.freshB (g := gb171) (o := .cells #[.bool true, .int .i64 (wrap64 (Int.tdiv x165000_1 2)), .bool true] 56 (0, 0)) (by (with_reducible repeat (first | refine blk_drewN ?_ _ | refine blk_drew ?_ | refine blk_alloc ?_ _)); exact BK171.out) k_ hk⟩))
                        (case aO => exact (by (with_reducible repeat (first | apply Kd.R_alloc | apply Kd.R_drewN | apply Kd.R_drew)); exact Kd.R_mono HO_11.out (fun _ hk => ⟨hk.2, hk.1⟩)))
                        (case aS => exact (below_size (by repeat (first | (with_reducible first | exact HB.out | apply below_alloc | apply pw_below_drewN | apply below_drew1 | refine below_set ?_ GE163.out | refine below_set ?_ GE164.out | refine below_set ?_ GE171.out) | exact HB.out))))
                        (case aL => have := LMc22.out; omega)
                        intro v176 w36 ho hb hg hat
                        rw [← Ny175.out] at ho
                        have n0_ := Aside0.mk (Kd.R_over' (by (with_reducible repeat (first | apply Kd.R_alloc | apply Kd.R_drewN | apply Kd.R_drew)); exact HO_12.out) (Kd.R_typed (by (with_reducible repeat (first | apply Kd.R_alloc | apply Kd.R_drewN | apply Kd.R_drew)); exact HO_11.out)) (by decide) hg)
                        have n1_ := Aside0.mk (blk_grown (g := gb163) (o := .cells #[.int .i64 a2_0, .int .i64 a2_1] 24 (0, 0)) (by (with_reducible repeat (first | refine blk_drewN ?_ _ | refine blk_drew ?_ | refine blk_alloc ?_ _)); exact BK163.out) hg (Kd.R_ne HO_11.out BK163.out (by decide)))
                        have n2_ := Aside0.mk (blk_grown (g := gb164) (o := .cells #[.int .i64 (wrap64 (Int.tdiv x165000_1 2)), .int .i64 x165001_1] 24 (0, 0)) (by (with_reducible repeat (first | refine blk_drewN ?_ _ | refine blk_drew ?_ | refine blk_alloc ?_ _)); exact BK164.out) hg (Kd.R_ne HO_11.out BK164.out (by decide)))
                        have n3_ := Aside0.mk (blk_grown (g := gb171) (o := .cells #[.bool true, .int .i64 (wrap64 (Int.tdiv x165000_1 2)), .bool true] 56 (0, 0)) (by (with_reducible repeat (first | refine blk_drewN ?_ _ | refine blk_drew ?_ | refine blk_alloc ?_ _)); exact BK171.out) hg (Kd.R_away HO_11.out (fun _ hk => hk.1)))
                        have n4_ := Aside0.mk (Kd.R_after (ok := (fun k_ => k_ ≠ gb171)) (by (with_reducible repeat (first | apply Kd.R_alloc | apply Kd.R_drewN | apply Kd.R_drew)); exact Kd.R_mono HO174.out (fun _ hk => ⟨hk.2, hk.1.2⟩)) hg hat)
                        have n5_ := Aside0.mk (hb)
                        have n6_ := Aside0.mk (ho)
                        clear HO_12
                        clear BK163
                        clear BK164
                        clear BK171
                        clear HO174
                        clear HB
                        clear HO_11
                        have HO_12 := n0_
                        have BK163 := n1_
                        have BK164 := n2_
                        have BK171 := n3_
                        have HO174 := n4_
                        have HB := n5_
                        have HO177 := n6_
                        clear n0_ n1_ n2_ n3_ n4_ n5_ n6_
                        clear ho hb hg hat
                        refine hK.out _ _ ⟨(blk_cell BK171.out 0).trans rfl, (blk_cell BK171.out 1).trans rfl, (blk_cell BK171.out 2).trans rfl, (blk_cell BK164.out 0).trans rfl, (blk_cell BK164.out 1).trans rfl⟩ (fun hHeld => ?_)
                        clear hK K
                        refine norm_ (a' := ?_) ?_ ?_
                        rotate_left
                        · show Act.put _ (some 68) _ = _
                          simp only [Act.put, List.setIfInBounds_toArray, List.set_cons_zero, List.set_cons_succ, i64_w, i32_w]
                          rfl
                        refine one_ (i := 6) (N := some 71) #[true, true, true, true, true, true, true, false, false, false] rfl rfl (one_of HT_.out (by kernel_rfl)) (by decide) (fun K hK => ?_)
                        refine Kd.R_lit_step k24 _ 24 ?hg (N := 71) ?hd (xs := ([(⟨wrap64 (Int.tdiv x165000_1 2), x165001_1⟩ : S24)] : List (S24))) (inner := [.int .i64 (wrap64 (Int.tdiv x165000_1 2)), .int .i64 x165001_1]) (ok := fun _ => True) (okp := fun _ => True) ?hr ?hp (fun _ hk => hk) trivial (Below.refl _ _) (Nat.le_refl _) (by simp) ?_; (case hd => rfl); (case hg => rfl); (case hr => first | (go_simp; done) | (go_simp; rfl)); (case hp => exact (Reps.c2 (show Kd.M k24 _ _ _ (⟨wrap64 (Int.tdiv x165000_1 2), x165001_1⟩ : S24) [.int .i64 (wrap64 (Int.tdiv x165000_1 2)), .int .i64 x165001_1] from (k24_mkM _ _ _ (⟨wrap64 (Int.tdiv x165000_1 2), x165001_1⟩ : S24) )) (Reps.none _ _)))
                        intro v179 w38 ho39 hb hg_ hnew_
                        clear hg_ hnew_
                        (first | rw [← Ny178.out] at ho39 | (simp only [Int.reduceToNat] at ho39; rw [← Ny178.out] at ho39))
                        have n0_ := Aside0.mk (Kd.R_elder' (by (with_reducible repeat (first | apply Kd.R_alloc | apply Kd.R_drewN | apply Kd.R_drew)); exact HO_12.out) (Kd.R_base ho39) hb)
                        have n1_ := Aside0.mk (Kd.R_below (by (with_reducible repeat (first | apply Kd.R_alloc | apply Kd.R_drewN | apply Kd.R_drew)); exact HO174.out) hb)
                        have n2_ := Aside0.mk (Kd.R_below (by (with_reducible repeat (first | apply Kd.R_alloc | apply Kd.R_drewN | apply Kd.R_drew)); exact HO177.out) hb)
                        have n3_ := Aside0.mk (Kd.R_lower (Kd.R_newB (Kd.R_newB (Kd.R_new' ho39 (Kd.R_lt (by (with_reducible repeat (first | apply Kd.R_alloc | apply Kd.R_drewN | apply Kd.R_drew)); exact HO_12.out))) (g := gb163) (o := .cells #[.int .i64 a2_0, .int .i64 a2_1] 24 (0, 0)) (by (with_reducible repeat (first | refine blk_drewN ?_ _ | refine blk_drew ?_ | refine blk_alloc ?_ _)); exact BK163.out)) (g := gb164) (o := .cells #[.int .i64 (wrap64 (Int.tdiv x165000_1 2)), .int .i64 x165001_1] 24 (0, 0)) (by (with_reducible repeat (first | refine blk_drewN ?_ _ | refine blk_drew ?_ | refine blk_alloc ?_ _)); exact BK164.out)) (below_size (by repeat (first | (with_reducible first | exact HB.out | apply below_alloc | apply pw_below_drewN | apply below_drew1 | refine below_set ?_ GE163.out | refine below_set ?_ GE164.out | refine below_set ?_ GE171.out) | exact HB.out))))
                        have n4_ := Aside0.mk (blk_below (g := gb163) (o := .cells #[.int .i64 a2_0, .int .i64 a2_1] 24 (0, 0)) (by (with_reducible repeat (first | refine blk_drewN ?_ _ | refine blk_drew ?_ | refine blk_alloc ?_ _)); exact BK163.out) hb)
                        have n5_ := Aside0.mk (blk_below (g := gb164) (o := .cells #[.int .i64 (wrap64 (Int.tdiv x165000_1 2)), .int .i64 x165001_1] 24 (0, 0)) (by (with_reducible repeat (first | refine blk_drewN ?_ _ | refine blk_drew ?_ | refine blk_alloc ?_ _)); exact BK164.out) hb)
                        have n6_ := Aside0.mk (blk_below (g := gb171) (o := .cells #[.bool true, .int .i64 (wrap64 (Int.tdiv x165000_1 2)), .bool true] 56 (0, 0)) (by (with_reducible repeat (first | refine blk_drewN ?_ _ | refine blk_drew ?_ | refine blk_alloc ?_ _)); exact BK171.out) hb)
                        have n7_ := Aside0.mk (below_step (by repeat (first | (with_reducible first | exact HB.out | apply below_alloc | apply pw_below_drewN | apply below_drew1 | refine below_set ?_ GE163.out | refine below_set ?_ GE164.out | refine below_set ?_ GE171.out) | exact HB.out)) hb)
                        clear HO_12
                        clear HO174
                        clear HO177
                        clear BK163
                        clear BK164
                        clear BK171
                        clear HB
                        have HO_12 := n0_
                        have HO174 := n1_
                        have HO177 := n2_
                        have HO180 := n3_
                        have BK163 := n4_
                        have BK164 := n5_
                        have BK171 := n6_
                        have HB := n7_
                        clear n0_ n1_ n2_ n3_ n4_ n5_ n6_ n7_
                        clear hb ho39
                        refine hK.out _ _ ⟨(blk_cell BK171.out 0).trans rfl, (blk_cell BK171.out 1).trans rfl, (blk_cell BK171.out 2).trans rfl, (blk_cell BK164.out 0).trans rfl, (blk_cell BK164.out 1).trans rfl⟩ (fun hHeld => ?_)
                        clear hK K
                        refine norm_ (a' := ?_) ?_ ?_
                        rotate_left
                        · show Act.put _ (some 71) _ = _
                          simp only [Act.put, List.setIfInBounds_toArray, List.set_cons_zero, List.set_cons_succ, i64_w, i32_w]
                          rfl
                        exact norm_ (by simp only [putAll, Act.put, List.setIfInBounds_toArray, List.set_cons_zero, List.set_cons_succ]) (hCont (.slice Ao37 y172.length co37, v176, v179) _ ⟨hHeld, (by (with_reducible repeat (first | apply Kd.R_alloc | apply Kd.R_drewN | apply Kd.R_drew)); exact Kd.R_mono HO174.out (fun _ hk => ⟨hk.2, hk.1⟩)), (by (with_reducible repeat (first | apply Kd.R_alloc | apply Kd.R_drewN | apply Kd.R_drew)); exact HO177.out), (by (with_reducible repeat (first | apply Kd.R_alloc | apply Kd.R_drewN | apply Kd.R_drew)); exact Kd.R_mono HO180.out (fun _ hk => ⟨hk.1.1.2, ⟨hk.1.2, hk.2⟩⟩)), (by (with_reducible repeat (first | apply Kd.R_alloc | apply Kd.R_drewN | apply Kd.R_drew)); exact Kd.R_mono HO_12.out (fun _ hk => ⟨hk.2, ⟨hk.1.1, hk.1.2⟩⟩)), (by (with_reducible repeat (first | refine blk_drewN ?_ _ | refine blk_drew ?_ | refine blk_alloc ?_ _)); exact BK163.out), (by (with_reducible repeat (first | refine blk_drewN ?_ _ | refine blk_drew ?_ | refine blk_alloc ?_ _)); exact BK164.out), (by (with_reducible repeat (first | refine blk_drewN ?_ _ | refine blk_drew ?_ | refine blk_alloc ?_ _)); exact BK171.out), (by repeat (first | (with_reducible first | exact HB.out | apply below_alloc | apply pw_below_drewN | apply below_drew1 | refine below_set ?_ GE163.out | refine below_set ?_ GE164.out | refine below_set ?_ GE171.out) | exact HB.out))⟩)
                      · skip
                        refine Kd.R_lit_step k24 _ 24 ?hg (N := 71) ?hd (xs := ([(⟨wrap64 (Int.tdiv x165000_1 2), x165001_1⟩ : S24)] : List (S24))) (inner := [.int .i64 (wrap64 (Int.tdiv x165000_1 2)), .int .i64 x165001_1]) (ok := fun _ => True) (okp := fun _ => True) ?hr ?hp (fun _ hk => hk) trivial (Below.refl _ _) (Nat.le_refl _) (by simp) ?_; (case hd => rfl); (case hg => rfl); (case hr => first | (go_simp; done) | (go_simp; rfl)); (case hp => exact (Reps.c2 (show Kd.M k24 _ _ _ (⟨wrap64 (Int.tdiv x165000_1 2), x165001_1⟩ : S24) [.int .i64 (wrap64 (Int.tdiv x165000_1 2)), .int .i64 x165001_1] from (k24_mkM _ _ _ (⟨wrap64 (Int.tdiv x165000_1 2), x165001_1⟩ : S24) )) (Reps.none _ _)))
                        intro v179 w36 ho37 hb hg_ hnew_
                        clear hg_ hnew_
                        (first | rw [← Ny178.out] at ho37 | (simp only [Int.reduceToNat] at ho37; rw [← Ny178.out] at ho37))
                        have n0_ := Aside0.mk (Kd.R_below (by (with_reducible repeat (first | apply Kd.R_alloc | apply Kd.R_drewN | apply Kd.R_drew)); exact HO_11.out) hb)
                        have n1_ := Aside0.mk (Kd.R_elder' (by (with_reducible repeat (first | apply Kd.R_alloc | apply Kd.R_drewN | apply Kd.R_drew)); exact HO_12.out) (Kd.R_base ho37) hb)
                        have n2_ := Aside0.mk (Kd.R_below (by (with_reducible repeat (first | apply Kd.R_alloc | apply Kd.R_drewN | apply Kd.R_drew)); exact HO174.out) hb)
                        have n3_ := Aside0.mk (Kd.R_lower (Kd.R_newB (Kd.R_newB (Kd.R_new' ho37 (Kd.R_lt (by (with_reducible repeat (first | apply Kd.R_alloc | apply Kd.R_drewN | apply Kd.R_drew)); exact HO_12.out))) (g := gb163) (o := .cells #[.int .i64 a2_0, .int .i64 a2_1] 24 (0, 0)) (by (with_reducible repeat (first | refine blk_drewN ?_ _ | refine blk_drew ?_ | refine blk_alloc ?_ _)); exact BK163.out)) (g := gb164) (o := .cells #[.int .i64 (wrap64 (Int.tdiv x165000_1 2)), .int .i64 x165001_1] 24 (0, 0)) (by (with_reducible repeat (first | refine blk_drewN ?_ _ | refine blk_drew ?_ | refine blk_alloc ?_ _)); exact BK164.out)) (below_size (by repeat (first | (with_reducible first | exact HB.out | apply below_alloc | apply pw_below_drewN | apply below_drew1 | refine below_set ?_ GE163.out | refine below_set ?_ GE164.out | refine below_set ?_ GE171.out) | exact HB.out))))
                        have n4_ := Aside0.mk (blk_below (g := gb163) (o := .cells #[.int .i64 a2_0, .int .i64 a2_1] 24 (0, 0)) (by (with_reducible repeat (first | refine blk_drewN ?_ _ | refine blk_drew ?_ | refine blk_alloc ?_ _)); exact BK163.out) hb)
                        have n5_ := Aside0.mk (blk_below (g := gb164) (o := .cells #[.int .i64 (wrap64 (Int.tdiv x165000_1 2)), .int .i64 x165001_1] 24 (0, 0)) (by (with_reducible repeat (first | refine blk_drewN ?_ _ | refine blk_drew ?_ | refine blk_alloc ?_ _)); exact BK164.out) hb)
                        have n6_ := Aside0.mk (blk_below (g := gb171) (o := .cells #[.bool true, .int .i64 (wrap64 (Int.tdiv x165000_1 2)), .bool true] 56 (0, 0)) (by (with_reducible repeat (first | refine blk_drewN ?_ _ | refine blk_drew ?_ | refine blk_alloc ?_ _)); exact BK171.out) hb)
                        have n7_ := Aside0.mk (below_step (by repeat (first | (with_reducible first | exact HB.out | apply below_alloc | apply pw_below_drewN | apply below_drew1 | refine below_set ?_ GE163.out | refine below_set ?_ GE164.out | refine below_set ?_ GE171.out) | exact HB.out)) hb)
                        clear HO_11
                        clear HO_12
                        clear HO174
                        clear BK163
                        clear BK164
                        clear BK171
                        clear HB
                        have HO_11 := n0_
                        have HO_12 := n1_
                        have HO174 := n2_
                        have HO180 := n3_
                        have BK163 := n4_
                        have BK164 := n5_
                        have BK171 := n6_
                        have HB := n7_
                        clear n0_ n1_ n2_ n3_ n4_ n5_ n6_ n7_
                        clear hb ho37
                        obtain ⟨Ao39, co39, eo39⟩ := Kd.R_slice HO174.out
                        (first | subst eo39 | (injection eo39 with f1_ f2_ f3_; have f4_ := f1_.symm; have f5_ := f3_.symm; clear f1_ f2_ f3_; subst f4_; subst f5_))
                        refine hK.out _ _ ⟨(blk_cell BK171.out 0).trans rfl, (blk_cell BK171.out 1).trans rfl, (blk_cell BK171.out 2).trans rfl, (blk_cell BK164.out 0).trans rfl, (blk_cell BK164.out 1).trans rfl⟩ (fun hHeld => ?_)
                        clear hK K
                        refine norm_ (a' := ?_) ?_ ?_
                        rotate_left
                        · show Act.put _ (some 71) _ = _
                          simp only [Act.put, List.setIfInBounds_toArray, List.set_cons_zero, List.set_cons_succ, i64_w, i32_w]
                          rfl
                        refine one_ (i := 3) (N := some 68) #[true, true, true, true, true, true, true, false, false, false] rfl rfl (one_of HT_.out (by kernel_rfl)) (by decide) (fun K hK => ?_)
                        refine Kd.R_append_rows_step k56 (w0 := w) w.heap.size (by rfl) (.tmp 65) (.tmp 67) 30 56 (.agg #[(.bool false), (.int .i64 0), (.bool false)]) 24 rfl Tryd.underlying30 info56 rfl (by decide) (by omega) (.slice Ao30 x11_1.length co30) x11_1 y172 _ _ _ (fun k_ => some k_ ≠ (.slice Ao39 y172.length co39 : Value).ownBlock ∧ k_ ≠ gb171) (fun _ => False) rfl rfl ?aO ?aR (fun _ _ h => h) (fun _ h => h.elim) ?aF ?aB ?aS ?aL ?_
                        (case aR => repeat (first | exact (Kd.R_reads' HO174.out).2.2 | (with_reducible refine Kd.C_alloc ?_ _) | (with_reducible refine Kd.C_drewN ?_ _) | (with_reducible refine Kd.C_drew ?_)))
                        (case aB => exact (by repeat (first | (with_reducible first | exact HB.out | apply below_alloc | apply pw_below_drewN | apply below_drew1 | refine below_set ?_ GE163.out | refine below_set ?_ GE164.out | refine below_set ?_ GE171.out) | exact HB.out)))
                        (case aF => exact (fun k_ hk => ⟨Kd.fresh' (Kd.R_lt (by (with_reducible repeat (first | apply Kd.R_alloc | apply Kd.R_drewN | apply Kd.R_drew)); exact HO174.out)) k_ hk, Kd.freshB (g := gb171) (o := .cells #[.bool true, .int .i64 (wrap64 (Int.tdiv x165000_1 2)), .bool true] 56 (0, 0)) (by (with_reducible repeat (first | refine blk_drewN ?_ _ | refine blk_drew ?_ | refine blk_alloc ?_ _)); exact BK171.out) k_ hk⟩))
                        (case aO => exact (by (with_reducible repeat (first | apply Kd.R_alloc | apply Kd.R_drewN | apply Kd.R_drew)); exact Kd.R_mono HO_11.out (fun _ hk => ⟨hk.2, hk.1⟩)))
                        (case aS => exact (below_size (by repeat (first | (with_reducible first | exact HB.out | apply below_alloc | apply pw_below_drewN | apply below_drew1 | refine below_set ?_ GE163.out | refine below_set ?_ GE164.out | refine below_set ?_ GE171.out) | exact HB.out))))
                        (case aL => have := LMc22.out; omega)
                        intro v176 w38 ho hb hg hat
                        rw [← Ny175.out] at ho
                        have n0_ := Aside0.mk (Kd.R_over' (by (with_reducible repeat (first | apply Kd.R_alloc | apply Kd.R_drewN | apply Kd.R_drew)); exact HO_12.out) (Kd.R_typed (by (with_reducible repeat (first | apply Kd.R_alloc | apply Kd.R_drewN | apply Kd.R_drew)); exact HO_11.out)) (by decide) hg)
                        have n1_ := Aside0.mk (blk_grown (g := gb163) (o := .cells #[.int .i64 a2_0, .int .i64 a2_1] 24 (0, 0)) (by (with_reducible repeat (first | refine blk_drewN ?_ _ | refine blk_drew ?_ | refine blk_alloc ?_ _)); exact BK163.out) hg (Kd.R_ne HO_11.out BK163.out (by decide)))
                        have n2_ := Aside0.mk (blk_grown (g := gb164) (o := .cells #[.int .i64 (wrap64 (Int.tdiv x165000_1 2)), .int .i64 x165001_1] 24 (0, 0)) (by (with_reducible repeat (first | refine blk_drewN ?_ _ | refine blk_drew ?_ | refine blk_alloc ?_ _)); exact BK164.out) hg (Kd.R_ne HO_11.out BK164.out (by decide)))
                        have n3_ := Aside0.mk (blk_grown (g := gb171) (o := .cells #[.bool true, .int .i64 (wrap64 (Int.tdiv x165000_1 2)), .bool true] 56 (0, 0)) (by (with_reducible repeat (first | refine blk_drewN ?_ _ | refine blk_drew ?_ | refine blk_alloc ?_ _)); exact BK171.out) hg (Kd.R_away HO_11.out (fun _ hk => hk.1)))
                        have n4_ := Aside0.mk (Kd.R_after (ok := (fun k_ => k_ ≠ gb171)) (by (with_reducible repeat (first | apply Kd.R_alloc | apply Kd.R_drewN | apply Kd.R_drew)); exact Kd.R_mono HO174.out (fun _ hk => ⟨hk.2, hk.1.2⟩)) hg hat)
                        have n5_ := Aside0.mk (Kd.R_over' (by (with_reducible repeat (first | apply Kd.R_alloc | apply Kd.R_drewN | apply Kd.R_drew)); exact HO180.out) (Kd.R_typed (by (with_reducible repeat (first | apply Kd.R_alloc | apply Kd.R_drewN | apply Kd.R_drew)); exact HO_11.out)) (by decide) hg)
                        have n6_ := Aside0.mk (hb)
                        have n7_ := Aside0.mk (ho)
                        clear HO_12
                        clear BK163
                        clear BK164
                        clear BK171
                        clear HO174
                        clear HO180
                        clear HB
                        clear HO_11
                        have HO_12 := n0_
                        have BK163 := n1_
                        have BK164 := n2_
                        have BK171 := n3_
                        have HO174 := n4_
                        have HO180 := n5_
                        have HB := n6_
                        have HO177 := n7_
                        clear n0_ n1_ n2_ n3_ n4_ n5_ n6_ n7_
                        clear ho hb hg hat
                        refine hK.out _ _ ⟨(blk_cell BK171.out 0).trans rfl, (blk_cell BK171.out 1).trans rfl, (blk_cell BK171.out 2).trans rfl, (blk_cell BK164.out 0).trans rfl, (blk_cell BK164.out 1).trans rfl⟩ (fun hHeld => ?_)
                        clear hK K
                        refine norm_ (a' := ?_) ?_ ?_
                        rotate_left
                        · show Act.put _ (some 68) _ = _
                          simp only [Act.put, List.setIfInBounds_toArray, List.set_cons_zero, List.set_cons_succ, i64_w, i32_w]
                          rfl
                        exact norm_ (by simp only [putAll, Act.put, List.setIfInBounds_toArray, List.set_cons_zero, List.set_cons_succ]) (hCont (.slice Ao39 y172.length co39, v176, v179) _ ⟨hHeld, (by (with_reducible repeat (first | apply Kd.R_alloc | apply Kd.R_drewN | apply Kd.R_drew)); exact Kd.R_mono HO174.out (fun _ hk => ⟨hk.2, hk.1⟩)), (by (with_reducible repeat (first | apply Kd.R_alloc | apply Kd.R_drewN | apply Kd.R_drew)); exact HO177.out), (by (with_reducible repeat (first | apply Kd.R_alloc | apply Kd.R_drewN | apply Kd.R_drew)); exact Kd.R_mono HO180.out (fun _ hk => ⟨hk.1.1.2, ⟨hk.1.2, hk.2⟩⟩)), (by (with_reducible repeat (first | apply Kd.R_alloc | apply Kd.R_drewN | apply Kd.R_drew)); exact Kd.R_mono HO_12.out (fun _ hk => ⟨hk.2, ⟨hk.1.1, hk.1.2⟩⟩)), (by (with_reducible repeat (first | refine blk_drewN ?_ _ | refine blk_drew ?_ | refine blk_alloc ?_ _)); exact BK163.out), (by (with_reducible repeat (first | refine blk_drewN ?_ _ | refine blk_drew ?_ | refine blk_alloc ?_ _)); exact BK164.out), (by (with_reducible repeat (first | refine blk_drewN ?_ _ | refine blk_drew ?_ | refine blk_alloc ?_ _)); exact BK171.out), (by repeat (first | (with_reducible first | exact HB.out | apply below_alloc | apply pw_below_drewN | apply below_drew1 | refine below_set ?_ GE163.out | refine below_set ?_ GE164.out | refine below_set ?_ GE171.out) | exact HB.out))⟩)
                    · skip
                      refine Kd.R_lit_step k24 _ 24 ?hg (N := 71) ?hd (xs := ([(⟨wrap64 (Int.tdiv x165000_1 2), x165001_1⟩ : S24)] : List (S24))) (inner := [.int .i64 (wrap64 (Int.tdiv x165000_1 2)), .int .i64 x165001_1]) (ok := fun _ => True) (okp := fun _ => True) ?hr ?hp (fun _ hk => hk) trivial (Below.refl _ _) (Nat.le_refl _) (by simp) ?_; (case hd => rfl); (case hg => rfl); (case hr => first | (go_simp; done) | (go_simp; rfl)); (case hp => exact (Reps.c2 (show Kd.M k24 _ _ _ (⟨wrap64 (Int.tdiv x165000_1 2), x165001_1⟩ : S24) [.int .i64 (wrap64 (Int.tdiv x165000_1 2)), .int .i64 x165001_1] from (k24_mkM _ _ _ (⟨wrap64 (Int.tdiv x165000_1 2), x165001_1⟩ : S24) )) (Reps.none _ _)))
                      intro v179 w34 ho35 hb hg_ hnew_
                      clear hg_ hnew_
                      (first | rw [← Ny178.out] at ho35 | (simp only [Int.reduceToNat] at ho35; rw [← Ny178.out] at ho35))
                      have n0_ := Aside0.mk (Kd.R_below (by (with_reducible repeat (first | apply Kd.R_alloc | apply Kd.R_drewN | apply Kd.R_drew)); exact HO_11.out) hb)
                      have n1_ := Aside0.mk (Kd.R_elder' (by (with_reducible repeat (first | apply Kd.R_alloc | apply Kd.R_drewN | apply Kd.R_drew)); exact HO_12.out) (Kd.R_base ho35) hb)
                      have n2_ := Aside0.mk (Kd.R_lower (Kd.R_newB (Kd.R_newB (Kd.R_new' ho35 (Kd.R_lt (by (with_reducible repeat (first | apply Kd.R_alloc | apply Kd.R_drewN | apply Kd.R_drew)); exact HO_12.out))) (g := gb163) (o := .cells #[.int .i64 a2_0, .int .i64 a2_1] 24 (0, 0)) (by (with_reducible repeat (first | refine blk_drewN ?_ _ | refine blk_drew ?_ | refine blk_alloc ?_ _)); exact BK163.out)) (g := gb164) (o := .cells #[.int .i64 (wrap64 (Int.tdiv x165000_1 2)), .int .i64 x165001_1] 24 (0, 0)) (by (with_reducible repeat (first | refine blk_drewN ?_ _ | refine blk_drew ?_ | refine blk_alloc ?_ _)); exact BK164.out)) (below_size (by repeat (first | (with_reducible first | exact HB.out | apply below_alloc | apply pw_below_drewN | apply below_drew1 | refine below_set ?_ GE163.out | refine below_set ?_ GE164.out | refine below_set ?_ GE171.out) | exact HB.out))))
                      have n3_ := Aside0.mk (blk_below (g := gb163) (o := .cells #[.int .i64 a2_0, .int .i64 a2_1] 24 (0, 0)) (by (with_reducible repeat (first | refine blk_drewN ?_ _ | refine blk_drew ?_ | refine blk_alloc ?_ _)); exact BK163.out) hb)
                      have n4_ := Aside0.mk (blk_below (g := gb164) (o := .cells #[.int .i64 (wrap64 (Int.tdiv x165000_1 2)), .int .i64 x165001_1] 24 (0, 0)) (by (with_reducible repeat (first | refine blk_drewN ?_ _ | refine blk_drew ?_ | refine blk_alloc ?_ _)); exact BK164.out) hb)
                      have n5_ := Aside0.mk (blk_below (g := gb171) (o := .cells #[.bool true, .int .i64 (wrap64 (Int.tdiv x165000_1 2)), .bool true] 56 (0, 0)) (by (with_reducible repeat (first | refine blk_drewN ?_ _ | refine blk_drew ?_ | refine blk_alloc ?_ _)); exact BK171.out) hb)
                      have n6_ := Aside0.mk (below_step (by repeat (first | (with_reducible first | exact HB.out | apply below_alloc | apply pw_below_drewN | apply below_drew1 | refine below_set ?_ GE163.out | refine below_set ?_ GE164.out | refine below_set ?_ GE171.out) | exact HB.out)) hb)
                      clear HO_11
                      clear HO_12
                      clear BK163
                      clear BK164
                      clear BK171
                      clear HB
                      have HO_11 := n0_
                      have HO_12 := n1_
                      have HO180 := n2_
                      have BK163 := n3_
                      have BK164 := n4_
                      have BK171 := n5_
                      have HB := n6_
                      clear n0_ n1_ n2_ n3_ n4_ n5_ n6_
                      clear hb ho35
                      refine hK.out _ _ ⟨(blk_cell BK171.out 0).trans rfl, (blk_cell BK171.out 1).trans rfl, (blk_cell BK171.out 2).trans rfl, (blk_cell BK164.out 0).trans rfl, (blk_cell BK164.out 1).trans rfl⟩ (fun hHeld => ?_)
                      clear hK K
                      refine norm_ (a' := ?_) ?_ ?_
                      rotate_left
                      · show Act.put _ (some 71) _ = _
                        simp only [Act.put, List.setIfInBounds_toArray, List.set_cons_zero, List.set_cons_succ, i64_w, i32_w]
                        rfl
                      refine one_ (i := 2) (N := some 67) #[true, true, true, false, true, true, true, false, false, false] rfl rfl (one_of HT_.out (by kernel_rfl)) (by decide) (fun K hK => ?_)
                      refine Kd.R_lit_step k56 _ 56 ?hg (N := 67) ?hd (xs := ([(⟨true, wrap64 (Int.tdiv x165000_1 2), true⟩ : S56)] : List (S56))) (inner := [.bool true, .int .i64 (wrap64 (Int.tdiv x165000_1 2)), .bool true]) (ok := fun _ => True) (okp := fun _ => True) ?hr ?hp (fun _ hk => hk) trivial (Below.refl _ _) (Nat.le_refl _) (by simp) ?_; (case hd => rfl); (case hg => rfl); (case hr => first | (go_simp; done) | (go_simp; rfl)); (case hp => exact (Reps.c3 (show Kd.M k56 _ _ _ (⟨true, wrap64 (Int.tdiv x165000_1 2), true⟩ : S56) [.bool true, .int .i64 (wrap64 (Int.tdiv x165000_1 2)), .bool true] from (k56_mkM _ _ _ (⟨true, wrap64 (Int.tdiv x165000_1 2), true⟩ : S56) )) (Reps.none _ _)))
                      intro v173 w36 ho37 hb hg_ hnew_
                      clear hg_ hnew_
                      (first | rw [← Ny172.out] at ho37 | (simp only [Int.reduceToNat] at ho37; rw [← Ny172.out] at ho37))
                      have n0_ := Aside0.mk (Kd.R_elder' (by (with_reducible repeat (first | apply Kd.R_alloc | apply Kd.R_drewN | apply Kd.R_drew)); exact HO_11.out) (Kd.R_base ho37) hb)
                      have n1_ := Aside0.mk (Kd.R_below (by (with_reducible repeat (first | apply Kd.R_alloc | apply Kd.R_drewN | apply Kd.R_drew)); exact HO_12.out) hb)
                      have n2_ := Aside0.mk (Kd.R_below (by (with_reducible repeat (first | apply Kd.R_alloc | apply Kd.R_drewN | apply Kd.R_drew)); exact HO180.out) hb)
                      have n3_ := Aside0.mk (Kd.R_lower (Kd.R_newB (Kd.R_new' ho37 (Kd.R_lt (by (with_reducible repeat (first | apply Kd.R_alloc | apply Kd.R_drewN | apply Kd.R_drew)); exact HO_11.out))) (g := gb171) (o := .cells #[.bool true, .int .i64 (wrap64 (Int.tdiv x165000_1 2)), .bool true] 56 (0, 0)) (by (with_reducible repeat (first | refine blk_drewN ?_ _ | refine blk_drew ?_ | refine blk_alloc ?_ _)); exact BK171.out)) (below_size (by repeat (first | (with_reducible first | exact HB.out | apply below_alloc | apply pw_below_drewN | apply below_drew1 | refine below_set ?_ GE163.out | refine below_set ?_ GE164.out | refine below_set ?_ GE171.out) | exact HB.out))))
                      have n4_ := Aside0.mk (blk_below (g := gb163) (o := .cells #[.int .i64 a2_0, .int .i64 a2_1] 24 (0, 0)) (by (with_reducible repeat (first | refine blk_drewN ?_ _ | refine blk_drew ?_ | refine blk_alloc ?_ _)); exact BK163.out) hb)
                      have n5_ := Aside0.mk (blk_below (g := gb164) (o := .cells #[.int .i64 (wrap64 (Int.tdiv x165000_1 2)), .int .i64 x165001_1] 24 (0, 0)) (by (with_reducible repeat (first | refine blk_drewN ?_ _ | refine blk_drew ?_ | refine blk_alloc ?_ _)); exact BK164.out) hb)
                      have n6_ := Aside0.mk (blk_below (g := gb171) (o := .cells #[.bool true, .int .i64 (wrap64 (Int.tdiv x165000_1 2)), .bool true] 56 (0, 0)) (by (with_reducible repeat (first | refine blk_drewN ?_ _ | refine blk_drew ?_ | refine blk_alloc ?_ _)); exact BK171.out) hb)
                      have n7_ := Aside0.mk (below_step (by repeat (first | (with_reducible first | exact HB.out | apply below_alloc | apply pw_below_drewN | apply below_drew1 | refine below_set ?_ GE163.out | refine below_set ?_ GE164.out | refine below_set ?_ GE171.out) | exact HB.out)) hb)
                      clear HO_11
                      clear HO_12
                      clear HO180
                      clear BK163
                      clear BK164
                      clear BK171
                      clear HB
                      have HO_11 := n0_
                      have HO_12 := n1_
                      have HO180 := n2_
                      have HO174 := n3_
                      have BK163 := n4_
                      have BK164 := n5_
                      have BK171 := n6_
                      have HB := n7_
                      clear n0_ n1_ n2_ n3_ n4_ n5_ n6_ n7_
                      clear hb ho37
                      obtain ⟨Ao39, co39, eo39⟩ := Kd.R_slice HO174.out
                      (first | subst eo39 | (injection eo39 with f1_ f2_ f3_; have f4_ := f1_.symm; have f5_ := f3_.symm; clear f1_ f2_ f3_; subst f4_; subst f5_))
                      refine hK.out _ _ ⟨(blk_cell BK171.out 0).trans rfl, (blk_cell BK171.out 1).trans rfl, (blk_cell BK171.out 2).trans rfl, (blk_cell BK164.out 0).trans rfl, (blk_cell BK164.out 1).trans rfl⟩ (fun hHeld => ?_)
                      clear hK K
                      refine norm_ (a' := ?_) ?_ ?_
                      rotate_left
                      · show Act.put _ (some 67) _ = _
                        simp only [Act.put, List.setIfInBounds_toArray, List.set_cons_zero, List.set_cons_succ, i64_w, i32_w]
                        rfl
                      refine one_ (i := 3) (N := some 68) #[true, true, true, true, true, true, true, false, false, false] rfl rfl (one_of HT_.out (by kernel_rfl)) (by decide) (fun K hK => ?_)
                      refine Kd.R_append_rows_step k56 (w0 := w) w.heap.size (by rfl) (.tmp 65) (.tmp 67) 30 56 (.agg #[(.bool false), (.int .i64 0), (.bool false)]) 24 rfl Tryd.underlying30 info56 rfl (by decide) (by omega) (.slice Ao30 x11_1.length co30) x11_1 y172 _ _ _ (fun k_ => some k_ ≠ (.slice Ao39 y172.length co39 : Value).ownBlock ∧ k_ ≠ gb171) (fun _ => False) rfl rfl ?aO ?aR (fun _ _ h => h) (fun _ h => h.elim) ?aF ?aB ?aS ?aL ?_
                      (case aR => repeat (first | exact (Kd.R_reads' HO174.out).2.2 | (with_reducible refine Kd.C_alloc ?_ _) | (with_reducible refine Kd.C_drewN ?_ _) | (with_reducible refine Kd.C_drew ?_)))
                      (case aB => exact (by repeat (first | (with_reducible first | exact HB.out | apply below_alloc | apply pw_below_drewN | apply below_drew1 | refine below_set ?_ GE163.out | refine below_set ?_ GE164.out | refine below_set ?_ GE171.out) | exact HB.out)))
                      (case aF => exact (fun k_ hk => ⟨Kd.fresh' (Kd.R_lt (by (with_reducible repeat (first | apply Kd.R_alloc | apply Kd.R_drewN | apply Kd.R_drew)); exact HO174.out)) k_ hk, Kd.freshB (g := gb171) (o := .cells #[.bool true, .int .i64 (wrap64 (Int.tdiv x165000_1 2)), .bool true] 56 (0, 0)) (by (with_reducible repeat (first | refine blk_drewN ?_ _ | refine blk_drew ?_ | refine blk_alloc ?_ _)); exact BK171.out) k_ hk⟩))
                      (case aO => exact (by (with_reducible repeat (first | apply Kd.R_alloc | apply Kd.R_drewN | apply Kd.R_drew)); exact Kd.R_mono HO_11.out (fun _ hk => ⟨hk.2, hk.1⟩)))
                      (case aS => exact (below_size (by repeat (first | (with_reducible first | exact HB.out | apply below_alloc | apply pw_below_drewN | apply below_drew1 | refine below_set ?_ GE163.out | refine below_set ?_ GE164.out | refine below_set ?_ GE171.out) | exact HB.out))))
                      (case aL => have := LMc22.out; omega)
                      intro v176 w38 ho hb hg hat
                      rw [← Ny175.out] at ho
                      have n0_ := Aside0.mk (Kd.R_over' (by (with_reducible repeat (first | apply Kd.R_alloc | apply Kd.R_drewN | apply Kd.R_drew)); exact HO_12.out) (Kd.R_typed (by (with_reducible repeat (first | apply Kd.R_alloc | apply Kd.R_drewN | apply Kd.R_drew)); exact HO_11.out)) (by decide) hg)
                      have n1_ := Aside0.mk (blk_grown (g := gb163) (o := .cells #[.int .i64 a2_0, .int .i64 a2_1] 24 (0, 0)) (by (with_reducible repeat (first | refine blk_drewN ?_ _ | refine blk_drew ?_ | refine blk_alloc ?_ _)); exact BK163.out) hg (Kd.R_ne HO_11.out BK163.out (by decide)))
                      have n2_ := Aside0.mk (blk_grown (g := gb164) (o := .cells #[.int .i64 (wrap64 (Int.tdiv x165000_1 2)), .int .i64 x165001_1] 24 (0, 0)) (by (with_reducible repeat (first | refine blk_drewN ?_ _ | refine blk_drew ?_ | refine blk_alloc ?_ _)); exact BK164.out) hg (Kd.R_ne HO_11.out BK164.out (by decide)))
                      have n3_ := Aside0.mk (blk_grown (g := gb171) (o := .cells #[.bool true, .int .i64 (wrap64 (Int.tdiv x165000_1 2)), .bool true] 56 (0, 0)) (by (with_reducible repeat (first | refine blk_drewN ?_ _ | refine blk_drew ?_ | refine blk_alloc ?_ _)); exact BK171.out) hg (Kd.R_away HO_11.out (fun _ hk => hk.1)))
                      have n4_ := Aside0.mk (Kd.R_over' (by (with_reducible repeat (first | apply Kd.R_alloc | apply Kd.R_drewN | apply Kd.R_drew)); exact HO180.out) (Kd.R_typed (by (with_reducible repeat (first | apply Kd.R_alloc | apply Kd.R_drewN | apply Kd.R_drew)); exact HO_11.out)) (by decide) hg)
                      have n5_ := Aside0.mk (Kd.R_after (ok := (fun k_ => k_ ≠ gb171)) (by (with_reducible repeat (first | apply Kd.R_alloc | apply Kd.R_drewN | apply Kd.R_drew)); exact Kd.R_mono HO174.out (fun _ hk => ⟨hk.2, hk.1.2⟩)) hg hat)
                      have n6_ := Aside0.mk (hb)
                      have n7_ := Aside0.mk (ho)
                      clear HO_12
                      clear BK163
                      clear BK164
                      clear BK171
                      clear HO180
                      clear HO174
                      clear HB
                      clear HO_11
                      have HO_12 := n0_
                      have BK163 := n1_
                      have BK164 := n2_
                      have BK171 := n3_
                      have HO180 := n4_
                      have HO174 := n5_
                      have HB := n6_
                      have HO177 := n7_
                      clear n0_ n1_ n2_ n3_ n4_ n5_ n6_ n7_
                      clear ho hb hg hat
                      refine hK.out _ _ ⟨(blk_cell BK171.out 0).trans rfl, (blk_cell BK171.out 1).trans rfl, (blk_cell BK171.out 2).trans rfl, (blk_cell BK164.out 0).trans rfl, (blk_cell BK164.out 1).trans rfl⟩ (fun hHeld => ?_)
                      clear hK K
                      refine norm_ (a' := ?_) ?_ ?_
                      rotate_left
                      · show Act.put _ (some 68) _ = _
                        simp only [Act.put, List.setIfInBounds_toArray, List.set_cons_zero, List.set_cons_succ, i64_w, i32_w]
                        rfl
                      exact norm_ (by simp only [putAll, Act.put, List.setIfInBounds_toArray, List.set_cons_zero, List.set_cons_succ]) (hCont (.slice Ao39 y172.length co39, v176, v179) _ ⟨hHeld, (by (with_reducible repeat (first | apply Kd.R_alloc | apply Kd.R_drewN | apply Kd.R_drew)); exact Kd.R_mono HO174.out (fun _ hk => ⟨hk.2, hk.1⟩)), (by (with_reducible repeat (first | apply Kd.R_alloc | apply Kd.R_drewN | apply Kd.R_drew)); exact HO177.out), (by (with_reducible repeat (first | apply Kd.R_alloc | apply Kd.R_drewN | apply Kd.R_drew)); exact Kd.R_mono HO180.out (fun _ hk => ⟨hk.1.1.2, ⟨hk.1.2, hk.2⟩⟩)), (by (with_reducible repeat (first | apply Kd.R_alloc | apply Kd.R_drewN | apply Kd.R_drew)); exact Kd.R_mono HO_12.out (fun _ hk => ⟨hk.2, ⟨hk.1.1, hk.1.2⟩⟩)), (by (with_reducible repeat (first | refine blk_drewN ?_ _ | refine blk_drew ?_ | refine blk_alloc ?_ _)); exact BK163.out), (by (with_reducible repeat (first | refine blk_drewN ?_ _ | refine blk_drew ?_ | refine blk_alloc ?_ _)); exact BK164.out), (by (with_reducible repeat (first | refine blk_drewN ?_ _ | refine blk_drew ?_ | refine blk_alloc ?_ _)); exact BK171.out), (by repeat (first | (with_reducible first | exact HB.out | apply below_alloc | apply pw_below_drewN | apply below_drew1 | refine below_set ?_ GE163.out | refine below_set ?_ GE164.out | refine below_set ?_ GE171.out) | exact HB.out))⟩)
                  rintro ⟨v173, v176, v179⟩ w40 ⟨hS_, h0_, h1_, h2_, h3_, h4_, h5_, h6_, h7_⟩
                  have n0_ : Aside0 (Kd.R k56 56 w40 w.heap.size (fun k_ => some k_ ≠ (v176 : Value).ownBlock ∧ k_ ≠ gb171) v173 y172) := ⟨h0_⟩
                  have n1_ : Aside0 (Kd.R k56 56 w40 w.heap.size (fun k_ => some k_ ≠ (v173 : Value).ownBlock ∧ k_ ≠ gb171) v176 y175) := ⟨h1_⟩
                  have n2_ : Aside0 (Kd.R k24 24 w40 w.heap.size (fun k_ => some k_ ≠ (.slice Ao31 x12_1.length co31 : Value).ownBlock ∧ k_ ≠ gb163 ∧ k_ ≠ gb164) v179 y178) := ⟨h2_⟩
                  have n3_ : Aside0 (Kd.R k24 24 w40 w.heap.size (fun k_ => some k_ ≠ (v179 : Value).ownBlock ∧ k_ ≠ gb163 ∧ k_ ≠ gb164) (.slice Ao31 x12_1.length co31) x12_1) := ⟨h3_⟩
                  have n4_ : Aside0 (w40.heap[gb163]? = some (.cells #[.int .i64 a2_0, .int .i64 a2_1] 24 (0, 0))) := ⟨h4_⟩
                  have n5_ : Aside0 (w40.heap[gb164]? = some (.cells #[.int .i64 (wrap64 (Int.tdiv x165000_1 2)), .int .i64 x165001_1] 24 (0, 0))) := ⟨h5_⟩
                  have n6_ : Aside0 (w40.heap[gb171]? = some (.cells #[.bool true, .int .i64 (wrap64 (Int.tdiv x165000_1 2)), .bool true] 56 (0, 0))) := ⟨h6_⟩
                  have n7_ : Aside0 (Below w.heap.size w w40) := ⟨h7_⟩
                  clear HO_11
                  clear HO_12
                  clear BK163
                  clear BK164
                  clear BK171
                  clear HB
                  clear h0_ h1_ h2_ h3_ h4_ h5_ h6_ h7_
                  have HO174 := n0_
                  have HO177 := n1_
                  have HO180 := n2_
                  have HO_12 := n3_
                  have BK163 := n4_
                  have BK164 := n5_
                  have BK171 := n6_
                  have HB := n7_
                  clear n0_ n1_ n2_ n3_ n4_ n5_ n6_ n7_
                  have hHeld : w40.cell? ⟨gb171, 0, none⟩ = some (.bool true) ∧ w40.cell? ⟨gb171, 1, none⟩ = some (.int .i64 (wrap64 (Int.tdiv x165000_1 2))) ∧ w40.cell? ⟨gb171, 2, none⟩ = some (.bool true) ∧ w40.cell? ⟨gb164, 0, none⟩ = some (.int .i64 (wrap64 (Int.tdiv x165000_1 2))) ∧ w40.cell? ⟨gb164, 1, none⟩ = some (.int .i64 x165001_1) := hS_
                  obtain ⟨Ao42, co42, eo42⟩ := Kd.R_slice HO180.out
                  (first | subst eo42 | (injection eo42 with f1_ f2_ f3_; have f4_ := f1_.symm; have f5_ := f3_.symm; clear f1_ f2_ f3_; subst f4_; subst f5_))
                  refine norm_ (a' := ?_) ?_ ?_
                  rotate_left
                  · simp only [putAll, Act.put, List.setIfInBounds_toArray, List.set_cons_zero, List.set_cons_succ]
                    rfl
                  refine one_ (i := 7) (N := some 72) #[true, true, true, true, true, true, true, true, false, false] rfl rfl (one_of HT_.out (by kernel_rfl)) (by decide) (fun K hK => ?_)
                  refine Kd.R_append_rows_step k24 (w0 := w) w.heap.size (by rfl) (.tmp 69) (.tmp 71) 51 24 (.agg #[(.int .i64 0), (.int .i64 0)]) 16 rfl Tryd.underlying51 info24 rfl (by decide) (by omega) (.slice Ao31 x12_1.length co31) x12_1 y178 _ _ _ (fun k_ => some k_ ≠ (.slice Ao42 y178.length co42 : Value).ownBlock ∧ k_ ≠ gb163 ∧ k_ ≠ gb164) (fun _ => False) rfl rfl ?aO ?aR (fun _ _ h => h) (fun _ h => h.elim) ?aF ?aB ?aS ?aL ?_
                  (case aR => repeat (first | exact (Kd.R_reads' HO180.out).2.2 | (with_reducible refine Kd.C_alloc ?_ _) | (with_reducible refine Kd.C_drewN ?_ _) | (with_reducible refine Kd.C_drew ?_)))
                  (case aB => exact (by repeat (first | (with_reducible first | exact HB.out | apply below_alloc | apply pw_below_drewN | apply below_drew1 | refine below_set ?_ GE163.out | refine below_set ?_ GE164.out | refine below_set ?_ GE171.out) | exact HB.out)))
                  (case aF => exact (fun k_ hk => ⟨Kd.fresh' (Kd.R_lt (by (with_reducible repeat (first | apply Kd.R_alloc | apply Kd.R_drewN | apply Kd.R_drew)); exact HO180.out)) k_ hk, Kd.freshB (g := gb163) (o := .cells #[.int .i64 a2_0, .int .i64 a2_1] 24 (0, 0)) (by (with_reducible repeat (first | refine blk_drewN ?_ _ | refine blk_drew ?_ | refine blk_alloc ?_ _)); exact BK163.out) k_ hk, Kd.freshB (g := gb164) (o := .cells #[.int .i64 (wrap64 (Int.tdiv x165000_1 2)), .int .i64 x165001_1] 24 (0, 0)) (by (with_reducible repeat (first | refine blk_drewN ?_ _ | refine blk_drew ?_ | refine blk_alloc ?_ _)); exact BK164.out) k_ hk⟩))
                  (case aO => exact (by (with_reducible repeat (first | apply Kd.R_alloc | apply Kd.R_drewN | apply Kd.R_drew)); exact HO_12.out))
                  (case aS => exact (below_size (by repeat (first | (with_reducible first | exact HB.out | apply below_alloc | apply pw_below_drewN | apply below_drew1 | refine below_set ?_ GE163.out | refine below_set ?_ GE164.out | refine below_set ?_ GE171.out) | exact HB.out))))
                  (case aL => have := LMc23.out; omega)
                  intro v182 w41 ho hb hg hat
                  rw [← Ny181.out] at ho
                  have n0_ := Aside0.mk (blk_grown (g := gb163) (o := .cells #[.int .i64 a2_0, .int .i64 a2_1] 24 (0, 0)) (by (with_reducible repeat (first | refine blk_drewN ?_ _ | refine blk_drew ?_ | refine blk_alloc ?_ _)); exact BK163.out) hg (Kd.R_away HO_12.out (fun _ hk => hk.2.1)))
                  have n1_ := Aside0.mk (blk_grown (g := gb164) (o := .cells #[.int .i64 (wrap64 (Int.tdiv x165000_1 2)), .int .i64 x165001_1] 24 (0, 0)) (by (with_reducible repeat (first | refine blk_drewN ?_ _ | refine blk_drew ?_ | refine blk_alloc ?_ _)); exact BK164.out) hg (Kd.R_away HO_12.out (fun _ hk => hk.2.2)))
                  have n2_ := Aside0.mk (blk_grown (g := gb171) (o := .cells #[.bool true, .int .i64 (wrap64 (Int.tdiv x165000_1 2)), .bool true] 56 (0, 0)) (by (with_reducible repeat (first | refine blk_drewN ?_ _ | refine blk_drew ?_ | refine blk_alloc ?_ _)); exact BK171.out) hg (Kd.R_ne HO_12.out BK171.out (by decide)))
                  have n3_ := Aside0.mk (Kd.R_over' (by (with_reducible repeat (first | apply Kd.R_alloc | apply Kd.R_drewN | apply Kd.R_drew)); exact HO174.out) (Kd.R_typed (by (with_reducible repeat (first | apply Kd.R_alloc | apply Kd.R_drewN | apply Kd.R_drew)); exact HO_12.out)) (by decide) hg)
                  have n4_ := Aside0.mk (Kd.R_over' (by (with_reducible repeat (first | apply Kd.R_alloc | apply Kd.R_drewN | apply Kd.R_drew)); exact HO177.out) (Kd.R_typed (by (with_reducible repeat (first | apply Kd.R_alloc | apply Kd.R_drewN | apply Kd.R_drew)); exact HO_12.out)) (by decide) hg)
                  have n5_ := Aside0.mk (Kd.R_after (ok := (fun k_ => k_ ≠ gb163 ∧ k_ ≠ gb164)) (by (with_reducible repeat (first | apply Kd.R_alloc | apply Kd.R_drewN | apply Kd.R_drew)); exact Kd.R_mono HO180.out (fun _ hk => ⟨⟨hk.2.1, hk.2.2⟩, hk.1⟩)) hg hat)
                  have n6_ := Aside0.mk (hb)
                  have n7_ := Aside0.mk (ho)
                  clear BK163
                  clear BK164
                  clear BK171
                  clear HO174
                  clear HO177
                  clear HO180
                  clear HB
                  clear HO_12
                  have BK163 := n0_
                  have BK164 := n1_
                  have BK171 := n2_
                  have HO174 := n3_
                  have HO177 := n4_
                  have HO180 := n5_
                  have HB := n6_
                  have HO183 := n7_
                  clear n0_ n1_ n2_ n3_ n4_ n5_ n6_ n7_
                  clear ho hb hg hat
                  refine hK.out _ _ ⟨(blk_cell BK171.out 0).trans rfl, (blk_cell BK171.out 1).trans rfl, (blk_cell BK171.out 2).trans rfl, (blk_cell BK164.out 0).trans rfl, (blk_cell BK164.out 1).trans rfl⟩ (fun hHeld => ?_)
                  clear hK K
                  refine norm_ (a' := ?_) ?_ ?_
                  rotate_left
                  · show Act.put _ (some 72) _ = _
                    simp only [Act.put, List.setIfInBounds_toArray, List.set_cons_zero, List.set_cons_succ, i64_w, i32_w]
                    rfl
                  refine pure_ (i := 8) (N := some 11) (v := ?_) (a' := ?_) #[true, true, true, true, true, true, true, true, true, false] rfl rfl (any_of HT_.out (by kernel_rfl)) (fun _ _ _ h => h) (Or.inl ⟨by rfl, ?_⟩) ?_ ?_
                  rotate_left
                  · intro w'
                    go_simp
                    with_reducible rfl
                  rotate_left
                  · simp only [Act.put, List.setIfInBounds_toArray, List.set_cons_zero, List.set_cons_succ, i64_w, i32_w]
                    rfl
                  refine pure_ (i := 9) (N := some 12) (v := ?_) (a' := ?_) #[true, true, true, true, true, true, true, true, true, true] rfl rfl (any_of HT_.out (by kernel_rfl)) (fun _ _ _ h => h) (Or.inl ⟨by rfl, ?_⟩) ?_ ?_
                  rotate_left
                  · intro w'
                    go_simp
                    with_reducible rfl
                  rotate_left
                  · simp only [Act.put, List.setIfInBounds_toArray, List.set_cons_zero, List.set_cons_succ, i64_w, i32_w]
                    rfl
                  refine done_ (done_of HT_.out (by kernel_rfl)) ?_
                  try go_wp2
                  go_roundg k1
                  case measure => have := HK1.out; omega
                  case rel => exact ⟨(y175), (y181), (wrap64 (x30_1 + 1)), (wrap64 (Int.tdiv x165000_1 2)), (x165001_1), (by first | rfl | (simp; done) | (simp [*]; done)), H', ⟨by have := HK1.out; omega⟩, ⟨by (with_reducible repeat (first | apply Kd.R_alloc | apply Kd.R_drewN | apply Kd.R_drew)); exact Kd.R_mono HO177.out (fun _ hk => trivial)⟩, ⟨by (with_reducible repeat (first | apply Kd.R_alloc | apply Kd.R_drewN | apply Kd.R_drew)); exact Kd.R_mono HO183.out (fun _ hk => ⟨hk.2.1, hk.2.2⟩)⟩, ⟨by (with_reducible repeat (first | refine blk_drewN ?_ _ | refine blk_drew ?_ | refine blk_alloc ?_ _)); exact BK163.out⟩, ⟨by (with_reducible repeat (first | refine blk_drewN ?_ _ | refine blk_drew ?_ | refine blk_alloc ?_ _)); exact BK164.out⟩, ⟨by repeat (first | (with_reducible first | exact HB.out | apply below_alloc | apply pw_below_drewN | apply below_drew1 | refine below_set ?_ GE163.out | refine below_set ?_ GE164.out | refine below_set ?_ GE171.out) | exact HB.out)⟩⟩
                · rw [if_neg c23] at H
                  exact absurd H (by simp)
              · rw [if_neg c22] at H
                exact absurd H (by simp)
            · rw [if_neg c21] at H
              have c21b0 : ((bt a3 x30_1) == 76) = false := beq_eq_false_iff_ne.mpr c21
              have c21b1 : ((bt a3 x30_1) != 76) = true := bne_iff_ne.mpr c21
              by_cases c43 : (bt a3 x30_1) = 82
              · rw [if_pos c43] at H
                have c43b0 : ((bt a3 x30_1) == 82) = true := beq_iff_eq.mpr c43
                have c43b1 : ((bt a3 x30_1) != 82) = false := bne_eq_false_iff_eq.mpr c43
                clear c43
                obtain ⟨y185, hy185⟩ : ∃ y_ : List (S56), y_ = (([(⟨true, wrap64 (Int.tdiv x165000_1 2), ((bt a3 x30_1) == 84)⟩ : S56)] : List (S56))) := ⟨_, rfl⟩
                replace H : (if x11_1.length + y185.length < 5864062014805 then ((some (([(⟨wrap64 (Int.tdiv x165000_1 2), x165001_1⟩ : S24)] : List (S24)) : List (S24))).bind fun y191 => (if x12_1.length + y191.length < 8796093022208 then (impl_setupOf.l0 k1 a3 (x11_1 ++ y185) (x12_1 ++ y191) (a3.size : Int) (wrap64 (x30_1 + 1)) (wrap64 (Int.tdiv x165000_1 2)) x165001_1) else (none))) else (none)) = some (r1, r2) := by first | (rw [hy185]; with_reducible exact H) | (have H2_ := (Option.bind_some _ _).symm.trans H; rw [hy185]; with_reducible exact H2_) | (have H2_ := (Option.bind_some _ _).symm.trans H; with_reducible exact H2_) | with_reducible exact H | (rw [hy185]; exact H) | exact H
                have Ny185 := Aside0.mk hy185
                clear hy185
                by_cases c44 : x11_1.length + y185.length < 5864062014805
                · rw [if_pos c44] at H
                  have LMc44 := Aside0.mk c44
                  clear c44
                  obtain ⟨y188, hy188⟩ : ∃ y_ : List (S56), y_ = (x11_1 ++ y185) := ⟨_, rfl⟩
                  replace H : ((some (([(⟨wrap64 (Int.tdiv x165000_1 2), x165001_1⟩ : S24)] : List (S24)) : List (S24))).bind fun y191 => (if x12_1.length + y191.length < 8796093022208 then (impl_setupOf.l0 k1 a3 y188 (x12_1 ++ y191) (a3.size : Int) (wrap64 (x30_1 + 1)) (wrap64 (Int.tdiv x165000_1 2)) x165001_1) else (none))) = some (r1, r2) := by first | (rw [hy188]; with_reducible exact H) | (have H2_ := (Option.bind_some _ _).symm.trans H; rw [hy188]; with_reducible exact H2_) | (have H2_ := (Option.bind_some _ _).symm.trans H; with_reducible exact H2_) | with_reducible exact H | (rw [hy188]; exact H) | exact H
                  have Ny188 := Aside0.mk hy188
                  clear hy188
                  obtain ⟨y191, hy191⟩ : ∃ y_ : List (S24), y_ = (([(⟨wrap64 (Int.tdiv x165000_1 2), x165001_1⟩ : S24)] : List (S24))) := ⟨_, rfl⟩
                  replace H : (if x12_1.length + y191.length < 8796093022208 then (impl_setupOf.l0 k1 a3 y188 (x12_1 ++ y191) (a3.size : Int) (wrap64 (x30_1 + 1)) (wrap64 (Int.tdiv x165000_1 2)) x165001_1) else (none)) = some (r1, r2) := by first | (rw [hy191]; with_reducible exact H) | (have H2_ := (Option.bind_some _ _).symm.trans H; rw [hy191]; with_reducible exact H2_) | (have H2_ := (Option.bind_some _ _).symm.trans H; with_reducible exact H2_) | with_reducible exact H | (rw [hy191]; exact H) | exact H
                  have Ny191 := Aside0.mk hy191
                  clear hy191
                  by_cases c45 : x12_1.length + y191.length < 8796093022208
                  · rw [if_pos c45] at H
                    have LMc45 := Aside0.mk c45
                    clear c45
                    obtain ⟨y194, hy194⟩ : ∃ y_ : List (S24), y_ = (x12_1 ++ y191) := ⟨_, rfl⟩
                    replace H : (impl_setupOf.l0 k1 a3 y188 y194 (a3.size : Int) (wrap64 (x30_1 + 1)) (wrap64 (Int.tdiv x165000_1 2)) x165001_1) = some (r1, r2) := by first | (rw [hy194]; with_reducible exact H) | (have H2_ := (Option.bind_some _ _).symm.trans H; rw [hy194]; with_reducible exact H2_) | (have H2_ := (Option.bind_some _ _).symm.trans H; with_reducible exact H2_) | with_reducible exact H | (rw [hy194]; exact H) | exact H
                    have Ny194 := Aside0.mk hy194
                    clear hy194
                    have H' := Aside0.mk H
                    clear H
                    have p20 : 0 ≤ (x30_1 : Int) := of_decide_eq_true (by first | (with_reducible assumption) | assumption)
                    have q20 : x30_1 < (a3.size : Int) := of_decide_eq_true (by first | (with_reducible assumption) | assumption)
                    have hx20 := bt_at a3 x30_1
                    replace p20 := eq_true p20
                    replace q20 := eq_true q20
                    try go_wp2_with (first | ((with_reducible refine gate_dst (N := 15) rfl ?_); refine box_event ?hg (N := 15) ?hd (cs := #[.bool false, .int .i64 0, .bool false]) (t := 56) ?hr ?_; (case hd => rfl); (case hg => rfl); (case hr => first | (go_simp; done) | (go_simp; rfl)); intro gb184 hg w46 hbox hb; have n0_ := Aside0.mk (Kd.R_below (Kd.R_elderB (by (with_reducible repeat (first | apply Kd.R_alloc | apply Kd.R_drewN | apply Kd.R_drew)); exact HO_11.out) gb184 (Nat.le_of_eq hg.symm)) hb); have n1_ := Aside0.mk (Kd.R_below (by (with_reducible repeat (first | apply Kd.R_alloc | apply Kd.R_drewN | apply Kd.R_drew)); exact HO_12.out) hb); have n2_ := Aside0.mk (blk_below (g := gb163) (o := .cells #[.int .i64 a2_0, .int .i64 a2_1] 24 (0, 0)) (by (with_reducible repeat (first | refine blk_drewN ?_ _ | refine blk_drew ?_ | refine blk_alloc ?_ _)); exact BK163.out) hb); have n3_ := Aside0.mk (blk_below (g := gb164) (o := .cells #[.int .i64 x165000_1, .int .i64 x165001_1] 24 (0, 0)) (by (with_reducible repeat (first | refine blk_drewN ?_ _ | refine blk_drew ?_ | refine blk_alloc ?_ _)); exact BK164.out) hb); have n4_ := Aside0.mk (below_step (by repeat (first | (with_reducible first | exact HB.out | apply below_alloc | apply pw_below_drewN | apply below_drew1 | refine below_set ?_ GE163.out | refine below_set ?_ GE164.out) | exact HB.out)) hb); have n5_ := Aside0.mk (hbox); have n6_ := Aside0.mk ((by rw [hg]; exact (below_size (by repeat (first | (with_reducible first | exact HB.out | apply below_alloc | apply pw_below_drewN | apply below_drew1 | refine below_set ?_ GE163.out | refine below_set ?_ GE164.out) | exact HB.out))) : w.heap.size ≤ gb184)); have n7_ := Aside0.mk ((by rw [hg]; exact (below_size (by repeat (first | (with_reducible first | exact HB.out | apply below_alloc | apply pw_below_drewN | apply below_drew1 | refine below_set ?_ GE163.out | refine below_set ?_ GE164.out) | exact HB.out))) : w.heap.size ≤ gb184)); have n8_ := Aside0.mk ((by rw [hg]; exact Nat.ne_of_lt (blk_lt (g := gb163) (o := .cells #[.int .i64 a2_0, .int .i64 a2_1] 24 (0, 0)) (by (with_reducible repeat (first | refine blk_drewN ?_ _ | refine blk_drew ?_ | refine blk_alloc ?_ _)); exact BK163.out)) : gb163 ≠ gb184)); have n9_ := Aside0.mk ((by rw [hg]; exact Nat.ne_of_gt (blk_lt (g := gb163) (o := .cells #[.int .i64 a2_0, .int .i64 a2_1] 24 (0, 0)) (by (with_reducible repeat (first | refine blk_drewN ?_ _ | refine blk_drew ?_ | refine blk_alloc ?_ _)); exact BK163.out)) : gb184 ≠ gb163)); have n10_ := Aside0.mk ((by rw [hg]; exact Nat.ne_of_lt (blk_lt (g := gb164) (o := .cells #[.int .i64 x165000_1, .int .i64 x165001_1] 24 (0, 0)) (by (with_reducible repeat (first | refine blk_drewN ?_ _ | refine blk_drew ?_ | refine blk_alloc ?_ _)); exact BK164.out)) : gb164 ≠ gb184)); have n11_ := Aside0.mk ((by rw [hg]; exact Nat.ne_of_gt (blk_lt (g := gb164) (o := .cells #[.int .i64 x165000_1, .int .i64 x165001_1] 24 (0, 0)) (by (with_reducible repeat (first | refine blk_drewN ?_ _ | refine blk_drew ?_ | refine blk_alloc ?_ _)); exact BK164.out)) : gb184 ≠ gb164)); clear HO_11; clear HO_12; clear BK163; clear BK164; clear HB; have HO_11 := n0_; have HO_12 := n1_; have BK163 := n2_; have BK164 := n3_; have HB := n4_; have BK184 := n5_; have GW184 := n6_; have GE184 := n7_; have NB163_184 := n8_; have NB184_163 := n9_; have NB164_184 := n10_; have NB184_164 := n11_; clear n0_ n1_ n2_ n3_ n4_ n5_ n6_ n7_ n8_ n9_ n10_ n11_; clear hb hbox hg; have hnb47 := NB184_163.out; have hnc47 := NB163_184.out; have hnb48 := NB184_164.out; have hnc48 := NB164_184.out; have hcz49_0 : w46.cell? ⟨gb184, 0, none⟩ = some (.bool false) := (blk_cell BK184.out 0).trans rfl; have hcz49_1 : w46.cell? ⟨gb184, 1, none⟩ = some (.int .i64 0) := (blk_cell BK184.out 1).trans rfl; have hcz49_2 : w46.cell? ⟨gb184, 2, none⟩ = some (.bool false) := (blk_cell BK184.out 2).trans rfl; have hfz49_0 := blk_frozen BK184.out 0; have hfz49_1 := blk_frozen BK184.out 1; have hfz49_2 := blk_frozen BK184.out 2; have hnb50 := NB164_163.out; have hnc50 := NB163_164.out; have hcz51_0 : w46.cell? ⟨gb164, 0, none⟩ = some (.int .i64 x165000_1) := (blk_cell BK164.out 0).trans rfl; have hcz51_1 : w46.cell? ⟨gb164, 1, none⟩ = some (.int .i64 x165001_1) := (blk_cell BK164.out 1).trans rfl; have hfz51_0 := blk_frozen BK164.out 0; have hfz51_1 := blk_frozen BK164.out 1; obtain ⟨Ao52, co52, eo52⟩ := Kd.R_slice HO_11.out; subst eo52; obtain ⟨Ao53, co53, eo53⟩ := Kd.R_slice HO_12.out; subst eo53))
                    have n0_ : Aside0 (Kd.R k56 56 (((((w46.setCell ⟨gb184, 0, none⟩ (.bool true)).setCell ⟨gb184, 1, none⟩ (.int .i64 0)).setCell ⟨gb184, 2, none⟩ (.bool ((bt a3 x30_1) == 84))).setCell ⟨gb164, 0, none⟩ (.int .i64 (wrap64 (Int.tdiv x165000_1 2)))).setCell ⟨gb184, 1, none⟩ (.int .i64 (wrap64 (Int.tdiv x165000_1 2)))) w.heap.size (fun k_ => k_ ≠ gb184) (.slice Ao52 x11_1.length co52) x11_1) := ⟨by (with_reducible repeat (first | apply Kd.R_alloc | apply Kd.R_drewN | apply Kd.R_drew)); exact Kd.R_mono (Kd.R_far (p := ⟨gb184, 1, none⟩) (Kd.R_far (p := ⟨gb164, 0, none⟩) (Kd.R_far (p := ⟨gb184, 2, none⟩) (Kd.R_far (p := ⟨gb184, 1, none⟩) (Kd.R_far (p := ⟨gb184, 0, none⟩) (Kd.R_types (Kd.R_mono HO_11.out (fun k_ hk => (⟨hk, hk.2⟩ : _ ∧ k_ ≠ gb184))) BK164.out (by decide)) (fun _ hk => hk.1.2) (.bool true)) (fun _ hk => hk.1.2) (.int .i64 0)) (fun _ hk => hk.1.2) (.bool ((bt a3 x30_1) == 84))) (fun _ hk => hk.2) (.int .i64 (wrap64 (Int.tdiv x165000_1 2)))) (fun _ hk => hk.1.2) (.int .i64 (wrap64 (Int.tdiv x165000_1 2)))) (fun _ hk => hk.1.1.2)⟩
                    have n1_ : Aside0 (Kd.R k24 24 (((((w46.setCell ⟨gb184, 0, none⟩ (.bool true)).setCell ⟨gb184, 1, none⟩ (.int .i64 0)).setCell ⟨gb184, 2, none⟩ (.bool ((bt a3 x30_1) == 84))).setCell ⟨gb164, 0, none⟩ (.int .i64 (wrap64 (Int.tdiv x165000_1 2)))).setCell ⟨gb184, 1, none⟩ (.int .i64 (wrap64 (Int.tdiv x165000_1 2)))) w.heap.size (fun k_ => k_ ≠ gb163 ∧ k_ ≠ gb164) (.slice Ao53 x12_1.length co53) x12_1) := ⟨by (with_reducible repeat (first | apply Kd.R_alloc | apply Kd.R_drewN | apply Kd.R_drew)); exact Kd.R_mono (Kd.R_far (p := ⟨gb184, 1, none⟩) (Kd.R_far (p := ⟨gb164, 0, none⟩) (Kd.R_far (p := ⟨gb184, 2, none⟩) (Kd.R_far (p := ⟨gb184, 1, none⟩) (Kd.R_far (p := ⟨gb184, 0, none⟩) (Kd.R_mono (Kd.R_types HO_12.out BK184.out (by decide)) (fun k_ hk => (⟨hk, hk.1.2⟩ : _ ∧ k_ ≠ gb164))) (fun _ hk => hk.1.2) (.bool true)) (fun _ hk => hk.1.2) (.int .i64 0)) (fun _ hk => hk.1.2) (.bool ((bt a3 x30_1) == 84))) (fun _ hk => hk.2) (.int .i64 (wrap64 (Int.tdiv x165000_1 2)))) (fun _ hk => hk.1.2) (.int .i64 (wrap64 (Int.tdiv x165000_1 2)))) (fun _ hk => ⟨hk.1.1.1, hk.1.1.2⟩)⟩
                    have n2_ : Aside0 ((((((w46.setCell ⟨gb184, 0, none⟩ (.bool true)).setCell ⟨gb184, 1, none⟩ (.int .i64 0)).setCell ⟨gb184, 2, none⟩ (.bool ((bt a3 x30_1) == 84))).setCell ⟨gb164, 0, none⟩ (.int .i64 (wrap64 (Int.tdiv x165000_1 2)))).setCell ⟨gb184, 1, none⟩ (.int .i64 (wrap64 (Int.tdiv x165000_1 2)))).heap[gb163]? = some (.cells #[.int .i64 a2_0, .int .i64 a2_1] 24 (0, 0))) := ⟨by (with_reducible repeat (first | refine blk_drewN ?_ _ | refine blk_drew ?_ | refine blk_alloc ?_ _)); refine blk_far ?_ NB163_184.out _; (with_reducible repeat (first | refine blk_drewN ?_ _ | refine blk_drew ?_ | refine blk_alloc ?_ _)); refine blk_far ?_ NB163_164.out _; (with_reducible repeat (first | refine blk_drewN ?_ _ | refine blk_drew ?_ | refine blk_alloc ?_ _)); refine blk_far ?_ NB163_184.out _; (with_reducible repeat (first | refine blk_drewN ?_ _ | refine blk_drew ?_ | refine blk_alloc ?_ _)); refine blk_far ?_ NB163_184.out _; (with_reducible repeat (first | refine blk_drewN ?_ _ | refine blk_drew ?_ | refine blk_alloc ?_ _)); refine blk_far ?_ NB163_184.out _; (with_reducible repeat (first | refine blk_drewN ?_ _ | refine blk_drew ?_ | refine blk_alloc ?_ _)); exact BK163.out⟩
                    have n3_ : Aside0 ((((((w46.setCell ⟨gb184, 0, none⟩ (.bool true)).setCell ⟨gb184, 1, none⟩ (.int .i64 0)).setCell ⟨gb184, 2, none⟩ (.bool ((bt a3 x30_1) == 84))).setCell ⟨gb164, 0, none⟩ (.int .i64 (wrap64 (Int.tdiv x165000_1 2)))).setCell ⟨gb184, 1, none⟩ (.int .i64 (wrap64 (Int.tdiv x165000_1 2)))).heap[gb164]? = some (.cells #[.int .i64 (wrap64 (Int.tdiv x165000_1 2)), .int .i64 x165001_1] 24 (0, 0))) := ⟨by (with_reducible repeat (first | refine blk_drewN ?_ _ | refine blk_drew ?_ | refine blk_alloc ?_ _)); refine blk_far ?_ NB164_184.out _; (with_reducible repeat (first | refine blk_drewN ?_ _ | refine blk_drew ?_ | refine blk_alloc ?_ _)); refine blk_put (cs := #[.int .i64 x165000_1, .int .i64 x165001_1]) ?_ 0 _ rfl; (with_reducible repeat (first | refine blk_drewN ?_ _ | refine blk_drew ?_ | refine blk_alloc ?_ _)); refine blk_far ?_ NB164_184.out _; (with_reducible repeat (first | refine blk_drewN ?_ _ | refine blk_drew ?_ | refine blk_alloc ?_ _)); refine blk_far ?_ NB164_184.out _; (with_reducible repeat (first | refine blk_drewN ?_ _ | refine blk_drew ?_ | refine blk_alloc ?_ _)); refine blk_far ?_ NB164_184.out _; (with_reducible repeat (first | refine blk_drewN ?_ _ | refine blk_drew ?_ | refine blk_alloc ?_ _)); exact BK164.out⟩
                    have n4_ : Aside0 ((((((w46.setCell ⟨gb184, 0, none⟩ (.bool true)).setCell ⟨gb184, 1, none⟩ (.int .i64 0)).setCell ⟨gb184, 2, none⟩ (.bool ((bt a3 x30_1) == 84))).setCell ⟨gb164, 0, none⟩ (.int .i64 (wrap64 (Int.tdiv x165000_1 2)))).setCell ⟨gb184, 1, none⟩ (.int .i64 (wrap64 (Int.tdiv x165000_1 2)))).heap[gb184]? = some (.cells #[.bool true, .int .i64 (wrap64 (Int.tdiv x165000_1 2)), .bool ((bt a3 x30_1) == 84)] 56 (0, 0))) := ⟨by (with_reducible repeat (first | refine blk_drewN ?_ _ | refine blk_drew ?_ | refine blk_alloc ?_ _)); refine blk_put (cs := #[.bool true, .int .i64 0, .bool ((bt a3 x30_1) == 84)]) ?_ 1 _ rfl; (with_reducible repeat (first | refine blk_drewN ?_ _ | refine blk_drew ?_ | refine blk_alloc ?_ _)); refine blk_far ?_ NB184_164.out _; (with_reducible repeat (first | refine blk_drewN ?_ _ | refine blk_drew ?_ | refine blk_alloc ?_ _)); refine blk_put (cs := #[.bool true, .int .i64 0, .bool false]) ?_ 2 _ rfl; (with_reducible repeat (first | refine blk_drewN ?_ _ | refine blk_drew ?_ | refine blk_alloc ?_ _)); refine blk_put (cs := #[.bool true, .int .i64 0, .bool false]) ?_ 1 _ rfl; (with_reducible repeat (first | refine blk_drewN ?_ _ | refine blk_drew ?_ | refine blk_alloc ?_ _)); refine blk_put (cs := #[.bool false, .int .i64 0, .bool false]) ?_ 0 _ rfl; (with_reducible repeat (first | refine blk_drewN ?_ _ | refine blk_drew ?_ | refine blk_alloc ?_ _)); exact BK184.out⟩
                    have n5_ : Aside0 (Below w.heap.size w (((((w46.setCell ⟨gb184, 0, none⟩ (.bool true)).setCell ⟨gb184, 1, none⟩ (.int .i64 0)).setCell ⟨gb184, 2, none⟩ (.bool ((bt a3 x30_1) == 84))).setCell ⟨gb164, 0, none⟩ (.int .i64 (wrap64 (Int.tdiv x165000_1 2)))).setCell ⟨gb184, 1, none⟩ (.int .i64 (wrap64 (Int.tdiv x165000_1 2))))) := ⟨by repeat (first | (with_reducible first | exact HB.out | apply below_alloc | apply pw_below_drewN | apply below_drew1 | refine below_set ?_ GE163.out | refine below_set ?_ GE164.out | refine below_set ?_ GE184.out) | exact HB.out)⟩
                    (try clear HO_11)
                    (try clear HO_12)
                    (try clear BK163)
                    (try clear BK164)
                    (try clear BK184)
                    (try clear HB)
                    generalize (((((w46.setCell ⟨gb184, 0, none⟩ (.bool true)).setCell ⟨gb184, 1, none⟩ (.int .i64 0)).setCell ⟨gb184, 2, none⟩ (.bool ((bt a3 x30_1) == 84))).setCell ⟨gb164, 0, none⟩ (.int .i64 (wrap64 (Int.tdiv x165000_1 2)))).setCell ⟨gb184, 1, none⟩ (.int .i64 (wrap64 (Int.tdiv x165000_1 2)))) = w54 at n0_ n1_ n2_ n3_ n4_ n5_ ⊢
                    have HO_11 := n0_
                    have HO_12 := n1_
                    have BK163 := n2_
                    have BK164 := n3_
                    have BK184 := n4_
                    have HB := n5_
                    clear n0_ n1_ n2_ n3_ n4_ n5_
                    have n0_ := Aside0.mk (Kd.R_drew HO_11.out)
                    have n1_ := Aside0.mk (Kd.R_drew HO_12.out)
                    have n2_ := Aside0.mk (blk_drew BK163.out)
                    have n3_ := Aside0.mk (blk_drew BK164.out)
                    have n4_ := Aside0.mk (blk_drew BK184.out)
                    have n5_ := Aside0.mk (below_drew1 HB.out)
                    clear HO_11
                    clear HO_12
                    clear BK163
                    clear BK164
                    clear BK184
                    clear HB
                    have HO_11 := n0_
                    have HO_12 := n1_
                    have BK163 := n2_
                    have BK164 := n3_
                    have BK184 := n4_
                    have HB := n5_
                    clear n0_ n1_ n2_ n3_ n4_ n5_
                    refine start_ (n := 10) (S := fun w' => w'.cell? ⟨gb184, 0, none⟩ = some (.bool true) ∧ w'.cell? ⟨gb184, 1, none⟩ = some (.int .i64 (wrap64 (Int.tdiv x165000_1 2))) ∧ w'.cell? ⟨gb184, 2, none⟩ = some (.bool ((bt a3 x30_1) == 84)) ∧ w'.cell? ⟨gb164, 0, none⟩ = some (.int .i64 (wrap64 (Int.tdiv x165000_1 2))) ∧ w'.cell? ⟨gb164, 1, none⟩ = some (.int .i64 x165001_1)) (ds := []) #[false, false, false, false, false, false, false, false, false, false] (by kernel_rfl) rfl rfl ⟨(blk_cell BK184.out 0).trans rfl, (blk_cell BK184.out 1).trans rfl, (blk_cell BK184.out 2).trans rfl, (blk_cell BK164.out 0).trans rfl, (blk_cell BK164.out 1).trans rfl⟩ (fun hHeld => ?_); refine with_tabW impl_setupOf.tab13 impl_setupOf.bits13 (fun HT_ HW_ => ?_)
                    generalize w54.drew = w55 at HO_11 HO_12 BK163 BK164 BK184 HB hHeld ⊢
                    refine pure_ (i := 0) (N := some 65) (v := ?_) (a' := ?_) #[true, false, false, false, false, false, false, false, false, false] rfl rfl (any_of HT_.out (by kernel_rfl)) (fun _ _ _ h => h) (Or.inl ⟨by rfl, ?_⟩) ?_ ?_
                    rotate_left
                    · intro w'
                      go_simp
                      with_reducible rfl
                    rotate_left
                    · simp only [Act.put, List.setIfInBounds_toArray, List.set_cons_zero, List.set_cons_succ, i64_w, i32_w]
                      rfl
                    refine pure_ (i := 4) (N := some 69) (v := ?_) (a' := ?_) #[true, false, false, false, true, false, false, false, false, false] rfl rfl (any_of HT_.out (by kernel_rfl)) (fun _ _ _ h => h) (Or.inl ⟨by rfl, ?_⟩) ?_ ?_
                    rotate_left
                    · intro w'
                      go_simp
                      with_reducible rfl
                    rotate_left
                    · simp only [Act.put, List.setIfInBounds_toArray, List.set_cons_zero, List.set_cons_succ, i64_w, i32_w]
                      rfl
                    refine take_ (i := 1) (N := some 66) (v := ?_) (a' := ?_) #[true, true, false, false, true, false, false, false, false, false] rfl rfl (take_ofW HT_.out HW_.out (by kernel_rfl)) (fun _ _ _ h => h) (Or.inl ⟨by rfl, ?_⟩) hHeld ?_ ?_
                    rotate_left
                    · rintro w' ⟨s0, s1, s2, s3, s4⟩
                      go_simp
                      with_reducible rfl
                    rotate_left
                    · simp only [Act.put, List.setIfInBounds_toArray, List.set_cons_zero, List.set_cons_succ, i64_w, i32_w]
                      rfl
                    refine take_ (i := 5) (N := some 70) (v := ?_) (a' := ?_) #[true, true, false, false, true, true, false, false, false, false] rfl rfl (take_ofW HT_.out HW_.out (by kernel_rfl)) (fun _ _ _ h => h) (Or.inl ⟨by rfl, ?_⟩) hHeld ?_ ?_
                    rotate_left
                    · rintro w' ⟨s0, s1, s2, s3, s4⟩
                      go_simp
                      with_reducible rfl
                    rotate_left
                    · simp only [Act.put, List.setIfInBounds_toArray, List.set_cons_zero, List.set_cons_succ, i64_w, i32_w]
                      rfl
                    refine join_ (σ := Value × Value × Value) 3 #[true, true, true, true, true, true, true, false, false, false] (fun s_ => [(67, s_.1), (68, s_.2.1), (71, s_.2.2)]) (fun s_ w' => (w'.cell? ⟨gb184, 0, none⟩ = some (.bool true) ∧ w'.cell? ⟨gb184, 1, none⟩ = some (.int .i64 (wrap64 (Int.tdiv x165000_1 2))) ∧ w'.cell? ⟨gb184, 2, none⟩ = some (.bool ((bt a3 x30_1) == 84)) ∧ w'.cell? ⟨gb164, 0, none⟩ = some (.int .i64 (wrap64 (Int.tdiv x165000_1 2))) ∧ w'.cell? ⟨gb164, 1, none⟩ = some (.int .i64 x165001_1)) ∧ (Kd.R k56 56 w' w.heap.size (fun k_ => some k_ ≠ (s_.2.1 : Value).ownBlock ∧ k_ ≠ gb184) s_.1 y185) ∧ (Kd.R k56 56 w' w.heap.size (fun k_ => some k_ ≠ (s_.1 : Value).ownBlock ∧ k_ ≠ gb184) s_.2.1 y188) ∧ (Kd.R k24 24 w' w.heap.size (fun k_ => some k_ ≠ (.slice Ao53 x12_1.length co53 : Value).ownBlock ∧ k_ ≠ gb163 ∧ k_ ≠ gb164) s_.2.2 y191) ∧ (Kd.R k24 24 w' w.heap.size (fun k_ => some k_ ≠ (s_.2.2 : Value).ownBlock ∧ k_ ≠ gb163 ∧ k_ ≠ gb164) (.slice Ao53 x12_1.length co53) x12_1) ∧ (w'.heap[gb163]? = some (.cells #[.int .i64 a2_0, .int .i64 a2_1] 24 (0, 0))) ∧ (w'.heap[gb164]? = some (.cells #[.int .i64 (wrap64 (Int.tdiv x165000_1 2)), .int .i64 x165001_1] 24 (0, 0))) ∧ (w'.heap[gb184]? = some (.cells #[.bool true, .int .i64 (wrap64 (Int.tdiv x165000_1 2)), .bool ((bt a3 x30_1) == 84)] 56 (0, 0))) ∧ (Below w.heap.size w w')) ?_ ?_
                    rotate_left
                    · intro hCont
                      refine two_ (i := 2) (j := 6) (Ni := some 67) (Nj := some 71) #[true, true, true, false, true, true, false, false, false, false] #[true, true, false, false, true, true, true, false, false, false] rfl rfl rfl rfl (two_of HT_.out (by kernel_rfl)) (by decide) (by decide) (fun K hK => ?_) (fun K hK => ?_)
                      · skip
                        refine Kd.R_lit_step k56 _ 56 ?hg (N := 67) ?hd (xs := ([(⟨true, wrap64 (Int.tdiv x165000_1 2), ((bt a3 x30_1) == 84)⟩ : S56)] : List (S56))) (inner := [.bool true, .int .i64 (wrap64 (Int.tdiv x165000_1 2)), .bool ((bt a3 x30_1) == 84)]) (ok := fun _ => True) (okp := fun _ => True) ?hr ?hp (fun _ hk => hk) trivial (Below.refl _ _) (Nat.le_refl _) (by simp) ?_; (case hd => rfl); (case hg => rfl); (case hr => first | (go_simp; done) | (go_simp; rfl)); (case hp => exact (Reps.c3 (show Kd.M k56 _ _ _ (⟨true, wrap64 (Int.tdiv x165000_1 2), ((bt a3 x30_1) == 84)⟩ : S56) [.bool true, .int .i64 (wrap64 (Int.tdiv x165000_1 2)), .bool ((bt a3 x30_1) == 84)] from (k56_mkM _ _ _ (⟨true, wrap64 (Int.tdiv x165000_1 2), ((bt a3 x30_1) == 84)⟩ : S56) )) (Reps.none _ _)))
                        intro v186 w56 ho57 hb hg_ hnew_
                        clear hg_ hnew_
                        (first | rw [← Ny185.out] at ho57 | (simp only [Int.reduceToNat] at ho57; rw [← Ny185.out] at ho57))
                        have n0_ := Aside0.mk (Kd.R_elder' (by (with_reducible repeat (first | apply Kd.R_alloc | apply Kd.R_drewN | apply Kd.R_drew)); exact HO_11.out) (Kd.R_base ho57) hb)
                        have n1_ := Aside0.mk (Kd.R_below (by (with_reducible repeat (first | apply Kd.R_alloc | apply Kd.R_drewN | apply Kd.R_drew)); exact HO_12.out) hb)
                        have n2_ := Aside0.mk (Kd.R_lower (Kd.R_newB (Kd.R_new' ho57 (Kd.R_lt (by (with_reducible repeat (first | apply Kd.R_alloc | apply Kd.R_drewN | apply Kd.R_drew)); exact HO_11.out))) (g := gb184) (o := .cells #[.bool true, .int .i64 (wrap64 (Int.tdiv x165000_1 2)), .bool ((bt a3 x30_1) == 84)] 56 (0, 0)) (by (with_reducible repeat (first | refine blk_drewN ?_ _ | refine blk_drew ?_ | refine blk_alloc ?_ _)); exact BK184.out)) (below_size (by repeat (first | (with_reducible first | exact HB.out | apply below_alloc | apply pw_below_drewN | apply below_drew1 | refine below_set ?_ GE163.out | refine below_set ?_ GE164.out | refine below_set ?_ GE184.out) | exact HB.out))))
                        have n3_ := Aside0.mk (blk_below (g := gb163) (o := .cells #[.int .i64 a2_0, .int .i64 a2_1] 24 (0, 0)) (by (with_reducible repeat (first | refine blk_drewN ?_ _ | refine blk_drew ?_ | refine blk_alloc ?_ _)); exact BK163.out) hb)
                        have n4_ := Aside0.mk (blk_below (g := gb164) (o := .cells #[.int .i64 (wrap64 (Int.tdiv x165000_1 2)), .int .i64 x165001_1] 24 (0, 0)) (by (with_reducible repeat (first | refine blk_drewN ?_ _ | refine blk_drew ?_ | refine blk_alloc ?_ _)); exact BK164.out) hb)
                        have n5_ := Aside0.mk (blk_below (g := gb184) (o := .cells #[.bool true, .int .i64 (wrap64 (Int.tdiv x165000_1 2)), .bool ((bt a3 x30_1) == 84)] 56 (0, 0)) (by (with_reducible repeat (first | refine blk_drewN ?_ _ | refine blk_drew ?_ | refine blk_alloc ?_ _)); exact BK184.out) hb)
                        have n6_ := Aside0.mk (below_step (by repeat (first | (with_reducible first | exact HB.out | apply below_alloc | apply pw_below_drewN | apply below_drew1 | refine below_set ?_ GE163.out | refine below_set ?_ GE164.out | refine below_set ?_ GE184.out) | exact HB.out)) hb)
                        clear HO_11
                        clear HO_12
                        clear BK163
                        clear BK164
                        clear BK184
                        clear HB
                        have HO_11 := n0_
                        have HO_12 := n1_
                        have HO187 := n2_
                        have BK163 := n3_
                        have BK164 := n4_
                        have BK184 := n5_
                        have HB := n6_
                        clear n0_ n1_ n2_ n3_ n4_ n5_ n6_
                        clear hb ho57
                        obtain ⟨Ao59, co59, eo59⟩ := Kd.R_slice HO187.out
                        (first | subst eo59 | (injection eo59 with f1_ f2_ f3_; have f4_ := f1_.symm; have f5_ := f3_.symm; clear f1_ f2_ f3_; subst f4_; subst f5_))
                        refine hK.out _ _ ⟨(blk_cell BK184.out 0).trans rfl, (blk_cell BK184.out 1).trans rfl, (blk_cell BK184.out 2).trans rfl, (blk_cell BK164.out 0).trans rfl, (blk_cell BK164.out 1).trans rfl⟩ (fun hHeld => ?_)
                        clear hK K
                        refine norm_ (a' := ?_) ?_ ?_
                        rotate_left
                        · show Act.put _ (some 67) _ = _
                          simp only [Act.put, List.setIfInBounds_toArray, List.set_cons_zero, List.set_cons_succ, i64_w, i32_w]
                          rfl
                        refine two_ (i := 3) (j := 6) (Ni := some 68) (Nj := some 71) #[true, true, true, true, true, true, false, false, false, false] #[true, true, true, false, true, true, true, false, false, false] rfl rfl rfl rfl (two_of HT_.out (by kernel_rfl)) (by decide) (by decide) (fun K hK => ?_) (fun K hK => ?_)
                        · skip
                          refine Kd.R_append_rows_step k56 (w0 := w) w.heap.size (by rfl) (.tmp 65) (.tmp 67) 30 56 (.agg #[(.bool false), (.int .i64 0), (.bool false)]) 24 rfl Tryd.underlying30 info56 rfl (by decide) (by omega) (.slice Ao52 x11_1.length co52) x11_1 y185 _ _ _ (fun k_ => some k_ ≠ (.slice Ao59 y185.length co59 : Value).ownBlock ∧ k_ ≠ gb184) (fun _ => False) rfl rfl ?aO ?aR (fun _ _ h => h) (fun _ h => h.elim) ?aF ?aB ?aS ?aL ?_
                          (case aR => repeat (first | exact (Kd.R_reads' HO187.out).2.2 | (with_reducible refine Kd.C_alloc ?_ _) | (with_reducible refine Kd.C_drewN ?_ _) | (with_reducible refine Kd.C_drew ?_)))
                          (case aB => exact (by repeat (first | (with_reducible first | exact HB.out | apply below_alloc | apply pw_below_drewN | apply below_drew1 | refine below_set ?_ GE163.out | refine below_set ?_ GE164.out | refine below_set ?_ GE184.out) | exact HB.out)))
                          (case aF => exact (fun k_ hk => ⟨Kd.fresh' (Kd.R_lt (by (with_reducible repeat (first | apply Kd.R_alloc | apply Kd.R_drewN | apply Kd.R_drew)); exact HO187.out)) k_ hk, Kd.freshB (g := gb184) (o := .cells #[.bool true, .int .i64 (wrap64 (Int.tdiv x165000_1 2)), .bool ((bt a3 x30_1) == 84)] 56 (0, 0)) (by (with_reducible repeat (first | refine blk_drewN ?_ _ | refine blk_drew ?_ | refine blk_alloc ?_ _)); exact BK184.out) k_ hk⟩))
                          (case aO => exact (by (with_reducible repeat (first | apply Kd.R_alloc | apply Kd.R_drewN | apply Kd.R_drew)); exact Kd.R_mono HO_11.out (fun _ hk => ⟨hk.2, hk.1⟩)))
                          (case aS => exact (below_size (by repeat (first | (with_reducible first | exact HB.out | apply below_alloc | apply pw_below_drewN | apply below_drew1 | refine below_set ?_ GE163.out | refine below_set ?_ GE164.out | refine below_set ?_ GE184.out) | exact HB.out))))
                          (case aL => have := LMc44.out; omega)
                          intro v189 w58 ho hb hg hat
                          rw [← Ny188.out] at ho
                          have n0_ := Aside0.mk (Kd.R_over' (by (with_reducible repeat (first | apply Kd.R_alloc | apply Kd.R_drewN | apply Kd.R_drew)); exact HO_12.out) (Kd.R_typed (by (with_reducible repeat (first | apply Kd.R_alloc | apply Kd.R_drewN | apply Kd.R_drew)); exact HO_11.out)) (by decide) hg)
                          have n1_ := Aside0.mk (blk_grown (g := gb163) (o := .cells #[.int .i64 a2_0, .int .i64 a2_1] 24 (0, 0)) (by (with_reducible repeat (first | refine blk_drewN ?_ _ | refine blk_drew ?_ | refine blk_alloc ?_ _)); exact BK163.out) hg (Kd.R_ne HO_11.out BK163.out (by decide)))
                          have n2_ := Aside0.mk (blk_grown (g := gb164) (o := .cells #[.int .i64 (wrap64 (Int.tdiv x165000_1 2)), .int .i64 x165001_1] 24 (0, 0)) (by (with_reducible repeat (first | refine blk_drewN ?_ _ | refine blk_drew ?_ | refine blk_alloc ?_ _)); exact BK164.out) hg (Kd.R_ne HO_11.out BK164.out (by decide)))
                          have n3_ := Aside0.mk (blk_grown (g := gb184) (o := .cells #[.bool true, .int .i64 (wrap64 (Int.tdiv x165000_1 2)), .bool ((bt a3 x30_1) == 84)] 56 (0, 0)) (by (with_reducible repeat (first | refine blk_drewN ?_ _ | refine blk_drew ?_ | refine blk_alloc ?_ _)); exact BK184.out) hg (Kd.R_away HO_11.out (fun _ hk => hk.1)))
                          have n4_ := Aside0.mk (Kd.R_after (ok := (fun k_ => k_ ≠ gb184)) (by (with_reducible repeat (first | apply Kd.R_alloc | apply Kd.R_drewN | apply Kd.R_drew)); exact Kd.R_mono HO187.out (fun _ hk => ⟨hk.2, hk.1.2⟩)) hg hat)
                          have n5_ := Aside0.mk (hb)
                          have n6_ := Aside0.mk (ho)
                          clear HO_12
                          clear BK163
                          clear BK164
                          clear BK184
                          clear HO187
                          clear HB
                          clear HO_11
                          have HO_12 := n0_
                          have BK163 := n1_
                          have BK164 := n2_
                          have BK184 := n3_
                          have HO187 := n4_
                          have HB := n5_
                          have HO190 := n6_
                          clear n0_ n1_ n2_ n3_ n4_ n5_ n6_
                          clear ho hb hg hat
                          refine hK.out _ _ ⟨(blk_cell BK184.out 0).trans rfl, (blk_cell BK184.out 1).trans rfl, (blk_cell BK184.out 2).trans rfl, (blk_cell BK164.out 0).trans rfl, (blk_cell BK164.out 1).trans rfl⟩ (fun hHeld => ?_)
                          clear hK K
                          refine norm_ (a' := ?_) ?_ ?_
                          rotate_left
                          · show Act.put _ (some 68) _ = _
                            simp only [Act.put, List.setIfInBounds_toArray, List.set_cons_zero, List.set_cons_succ, i64_w, i32_w]
                            rfl
                          refine one_ (i := 6) (N := some 71) #[true, true, true, true, true, true, true, false, false, false] rfl rfl (one_of HT_.out (by kernel_rfl)) (by decide) (fun K hK => ?_)
                          refine Kd.R_lit_step k24 _ 24 ?hg (N := 71) ?hd (xs := ([(⟨wrap64 (Int.tdiv x165000_1 2), x165001_1⟩ : S24)] : List (S24))) (inner := [.int .i64 (wrap64 (Int.tdiv x165000_1 2)), .int .i64 x165001_1]) (ok := fun _ => True) (okp := fun _ => True) ?hr ?hp (fun _ hk => hk) trivial (Below.refl _ _) (Nat.le_refl _) (by simp) ?_; (case hd => rfl); (case hg => rfl); (case hr => first | (go_simp; done) | (go_simp; rfl)); (case hp => exact (Reps.c2 (show Kd.M k24 _ _ _ (⟨wrap64 (Int.tdiv x165000_1 2), x165001_1⟩ : S24) [.int .i64 (wrap64 (Int.tdiv x165000_1 2)), .int .i64 x165001_1] from (k24_mkM _ _ _ (⟨wrap64 (Int.tdiv x165000_1 2), x165001_1⟩ : S24) )) (Reps.none _ _)))
                          intro v192 w60 ho61 hb hg_ hnew_
                          clear hg_ hnew_
                          (first | rw [← Ny191.out] at ho61 | (simp only [Int.reduceToNat] at ho61; rw [← Ny191.out] at ho61))
                          have n0_ := Aside0.mk (Kd.R_elder' (by (with_reducible repeat (first | apply Kd.R_alloc | apply Kd.R_drewN | apply Kd.R_drew)); exact HO_12.out) (Kd.R_base ho61) hb)
                          have n1_ := Aside0.mk (Kd.R_below (by (with_reducible repeat (first | apply Kd.R_alloc | apply Kd.R_drewN | apply Kd.R_drew)); exact HO187.out) hb)
                          have n2_ := Aside0.mk (Kd.R_below (by (with_reducible repeat (first | apply Kd.R_alloc | apply Kd.R_drewN | apply Kd.R_drew)); exact HO190.out) hb)
                          have n3_ := Aside0.mk (Kd.R_lower (Kd.R_newB (Kd.R_newB (Kd.R_new' ho61 (Kd.R_lt (by (with_reducible repeat (first | apply Kd.R_alloc | apply Kd.R_drewN | apply Kd.R_drew)); exact HO_12.out))) (g := gb163) (o := .cells #[.int .i64 a2_0, .int .i64 a2_1] 24 (0, 0)) (by (with_reducible repeat (first | refine blk_drewN ?_ _ | refine blk_drew ?_ | refine blk_alloc ?_ _)); exact BK163.out)) (g := gb164) (o := .cells #[.int .i64 (wrap64 (Int.tdiv x165000_1 2)), .int .i64 x165001_1] 24 (0, 0)) (by (with_reducible repeat (first | refine blk_drewN ?_ _ | refine blk_drew ?_ | refine blk_alloc ?_ _)); exact BK164.out)) (below_size (by repeat (first | (with_reducible first | exact HB.out | apply below_alloc | apply pw_below_drewN | apply below_drew1 | refine below_set ?_ GE163.out | refine below_set ?_ GE164.out | refine below_set ?_ GE184.out) | exact HB.out))))
                          have n4_ := Aside0.mk (blk_below (g := gb163) (o := .cells #[.int .i64 a2_0, .int .i64 a2_1] 24 (0, 0)) (by (with_reducible repeat (first | refine blk_drewN ?_ _ | refine blk_drew ?_ | refine blk_alloc ?_ _)); exact BK163.out) hb)
                          have n5_ := Aside0.mk (blk_below (g := gb164) (o := .cells #[.int .i64 (wrap64 (Int.tdiv x165000_1 2)), .int .i64 x165001_1] 24 (0, 0)) (by (with_reducible repeat (first | refine blk_drewN ?_ _ | refine blk_drew ?_ | refine blk_alloc ?_ _)); exact BK164.out) hb)
                          have n6_ := Aside0.mk (blk_below (g := gb184) (o := .cells #[.bool true, .int .i64 (wrap64 (Int.tdiv x165000_1 2)), .bool ((bt a3 x30_1) == 84)] 56 (0, 0)) (by (with_reducible repeat (first | refine blk_drewN ?_ _ | refine blk_drew ?_ | refine blk_alloc ?_ _)); exact BK184.out) hb)
                          have n7_ := Aside0.mk (below_step (by repeat (first | (with_reducible first | exact HB.out | apply below_alloc | apply pw_below_drewN | apply below_drew1 | refine below_set ?_ GE163.out | refine below_set ?_ GE164.out | refine below_set ?_ GE184.out) | exact HB.out)) hb)
                          clear HO_12
                          clear HO187
                          clear HO190
                          clear BK163
                          clear BK164
                          clear BK184
                          clear HB
                          have HO_12 := n0_
                          have HO187 := n1_
                          have HO190 := n2_
                          have HO193 := n3_
                          have BK163 := n4_
                          have BK164 := n5_
                          have BK184 := n6_
                          have HB := n7_
                          clear n0_ n1_ n2_ n3_ n4_ n5_ n6_ n7_
                          clear hb ho61
                          refine hK.out _ _ ⟨(blk_cell BK184.out 0).trans rfl, (blk_cell BK184.out 1).trans rfl, (blk_cell BK184.out 2).trans rfl, (blk_cell BK164.out 0).trans rfl, (blk_cell BK164.out 1).trans rfl⟩ (fun hHeld => ?_)
                          clear hK K
                          refine norm_ (a' := ?_) ?_ ?_
                          rotate_left
                          · show Act.put _ (some 71) _ = _
                            simp only [Act.put, List.setIfInBounds_toArray, List.set_cons_zero, List.set_cons_succ, i64_w, i32_w]
                            rfl
                          exact norm_ (by simp only [putAll, Act.put, List.setIfInBounds_toArray, List.set_cons_zero, List.set_cons_succ]) (hCont (.slice Ao59 y185.length co59, v189, v192) _ ⟨hHeld, (by (with_reducible repeat (first | apply Kd.R_alloc | apply Kd.R_drewN | apply Kd.R_drew)); exact Kd.R_mono HO187.out (fun _ hk => ⟨hk.2, hk.1⟩)), (by (with_reducible repeat (first | apply Kd.R_alloc | apply Kd.R_drewN | apply Kd.R_drew)); exact HO190.out), (by (with_reducible repeat (first | apply Kd.R_alloc | apply Kd.R_drewN | apply Kd.R_drew)); exact Kd.R_mono HO193.out (fun _ hk => ⟨hk.1.1.2, ⟨hk.1.2, hk.2⟩⟩)), (by (with_reducible repeat (first | apply Kd.R_alloc | apply Kd.R_drewN | apply Kd.R_drew)); exact Kd.R_mono HO_12.out (fun _ hk => ⟨hk.2, ⟨hk.1.1, hk.1.2⟩⟩)), (by (with_reducible repeat (first | refine blk_drewN ?_ _ | refine blk_drew ?_ | refine blk_alloc ?_ _)); exact BK163.out), (by (with_reducible repeat (first | refine blk_drewN ?_ _ | refine blk_drew ?_ | refine blk_alloc ?_ _)); exact BK164.out), (by (with_reducible repeat (first | refine blk_drewN ?_ _ | refine blk_drew ?_ | refine blk_alloc ?_ _)); exact BK184.out), (by repeat (first | (with_reducible first | exact HB.out | apply below_alloc | apply pw_below_drewN | apply below_drew1 | refine below_set ?_ GE163.out | refine below_set ?_ GE164.out | refine below_set ?_ GE184.out) | exact HB.out))⟩)
                        · skip
                          refine Kd.R_lit_step k24 _ 24 ?hg (N := 71) ?hd (xs := ([(⟨wrap64 (Int.tdiv x165000_1 2), x165001_1⟩ : S24)] : List (S24))) (inner := [.int .i64 (wrap64 (Int.tdiv x165000_1 2)), .int .i64 x165001_1]) (ok := fun _ => True) (okp := fun _ => True) ?hr ?hp (fun _ hk => hk) trivial (Below.refl _ _) (Nat.le_refl _) (by simp) ?_; (case hd => rfl); (case hg => rfl); (case hr => first | (go_simp; done) | (go_simp; rfl)); (case hp => exact (Reps.c2 (show Kd.M k24 _ _ _ (⟨wrap64 (Int.tdiv x165000_1 2), x165001_1⟩ : S24) [.int .i64 (wrap64 (Int.tdiv x165000_1 2)), .int .i64 x165001_1] from (k24_mkM _ _ _ (⟨wrap64 (Int.tdiv x165000_1 2), x165001_1⟩ : S24) )) (Reps.none _ _)))
                          intro v192 w58 ho59 hb hg_ hnew_
                          clear hg_ hnew_
                          (first | rw [← Ny191.out] at ho59 | (simp only [Int.reduceToNat] at ho59; rw [← Ny191.out] at ho59))
                          have n0_ := Aside0.mk (Kd.R_below (by (with_reducible repeat (first | apply Kd.R_alloc | apply Kd.R_drewN | apply Kd.R_drew)); exact HO_11.out) hb)
                          have n1_ := Aside0.mk (Kd.R_elder' (by (with_reducible repeat (first | apply Kd.R_alloc | apply Kd.R_drewN | apply Kd.R_drew)); exact HO_12.out) (Kd.R_base ho59) hb)
                          have n2_ := Aside0.mk (Kd.R_below (by (with_reducible repeat (first | apply Kd.R_alloc | apply Kd.R_drewN | apply Kd.R_drew)); exact HO187.out) hb)
                          have n3_ := Aside0.mk (Kd.R_lower (Kd.R_newB (Kd.R_newB (Kd.R_new' ho59 (Kd.R_lt (by (with_reducible repeat (first | apply Kd.R_alloc | apply Kd.R_drewN | apply Kd.R_drew)); exact HO_12.out))) (g := gb163) (o := .cells #[.int .i64 a2_0, .int .i64 a2_1] 24 (0, 0)) (by (with_reducible repeat (first | refine blk_drewN ?_ _ | refine blk_drew ?_ | refine blk_alloc ?_ _)); exact BK163.out)) (g := gb164) (o := .cells #[.int .i64 (wrap64 (Int.tdiv x165000_1 2)), .int .i64 x165001_1] 24 (0, 0)) (by (with_reducible repeat (first | refine blk_drewN ?_ _ | refine blk_drew ?_ | refine blk_alloc ?_ _)); exact BK164.out)) (below_size (by repeat (first | (with_reducible first | exact HB.out | apply below_alloc | apply pw_below_drewN | apply below_drew1 | refine below_set ?_ GE163.out | refine below_set ?_ GE164.out | refine below_set ?_ GE184.out) | exact HB.out))))
                          have n4_ := Aside0.mk (blk_below (g := gb163) (o := .cells #[.int .i64 a2_0, .int .i64 a2_1] 24 (0, 0)) (by (with_reducible repeat (first | refine blk_drewN ?_ _ | refine blk_drew ?_ | refine blk_alloc ?_ _)); exact BK163.out) hb)
                          have n5_ := Aside0.mk (blk_below (g := gb164) (o := .cells #[.int .i64 (wrap64 (Int.tdiv x165000_1 2)), .int .i64 x165001_1] 24 (0, 0)) (by (with_reducible repeat (first | refine blk_drewN ?_ _ | refine blk_drew ?_ | refine blk_alloc ?_ _)); exact BK164.out) hb)
                          have n6_ := Aside0.mk (blk_below (g := gb184) (o := .cells #[.bool true, .int .i64 (wrap64 (Int.tdiv x165000_1 2)), .bool ((bt a3 x30_1) == 84)] 56 (0, 0)) (by (with_reducible repeat (first | refine blk_drewN ?_ _ | refine blk_drew ?_ | refine blk_alloc ?_ _)); exact BK184.out) hb)
                          have n7_ := Aside0.mk (below_step (by repeat (first | (with_reducible first | exact HB.out | apply below_alloc | apply pw_below_drewN | apply below_drew1 | refine below_set ?_ GE163.out | refine below_set ?_ GE164.out | refine below_set ?_ GE184.out) | exact HB.out)) hb)
                          clear HO_11
                          clear HO_12
                          clear HO187
                          clear BK163
                          clear BK164
                          clear BK184
                          clear HB
                          have HO_11 := n0_
                          have HO_12 := n1_
                          have HO187 := n2_
                          have HO193 := n3_
                          have BK163 := n4_
                          have BK164 := n5_
                          have BK184 := n6_
                          have HB := n7_
                          clear n0_ n1_ n2_ n3_ n4_ n5_ n6_ n7_
                          clear hb ho59
                          obtain ⟨Ao61, co61, eo61⟩ := Kd.R_slice HO187.out
                          (first | subst eo61 | (injection eo61 with f1_ f2_ f3_; have f4_ := f1_.symm; have f5_ := f3_.symm; clear f1_ f2_ f3_; subst f4_; subst f5_))
                          refine hK.out _ _ ⟨(blk_cell BK184.out 0).trans rfl, (blk_cell BK184.out 1).trans rfl, (blk_cell BK184.out 2).trans rfl, (blk_cell BK164.out 0).trans rfl, (blk_cell BK164.out 1).trans rfl⟩ (fun hHeld => ?_)
                          clear hK K
                          refine norm_ (a' := ?_) ?_ ?_
                          rotate_left
                          · show Act.put _ (some 71) _ = _
                            simp only [Act.put, List.setIfInBounds_toArray, List.set_cons_zero, List.set_cons_succ, i64_w, i32_w]
                            rfl
                          refine one_ (i := 3) (N := some 68) #[true, true, true, true, true, true, true, false, false, false] rfl rfl (one_of HT_.out (by kernel_rfl)) (by decide) (fun K hK => ?_)
                          refine Kd.R_append_rows_step k56 (w0 := w) w.heap.size (by rfl) (.tmp 65) (.tmp 67) 30 56 (.agg #[(.bool false), (.int .i64 0), (.bool false)]) 24 rfl Tryd.underlying30 info56 rfl (by decide) (by omega) (.slice Ao52 x11_1.length co52) x11_1 y185 _ _ _ (fun k_ => some k_ ≠ (.slice Ao61 y185.length co61 : Value).ownBlock ∧ k_ ≠ gb184) (fun _ => False) rfl rfl ?aO ?aR (fun _ _ h => h) (fun _ h => h.elim) ?aF ?aB ?aS ?aL ?_
                          (case aR => repeat (first | exact (Kd.R_reads' HO187.out).2.2 | (with_reducible refine Kd.C_alloc ?_ _) | (with_reducible refine Kd.C_drewN ?_ _) | (with_reducible refine Kd.C_drew ?_)))
                          (case aB => exact (by repeat (first | (with_reducible first | exact HB.out | apply below_alloc | apply pw_below_drewN | apply below_drew1 | refine below_set ?_ GE163.out | refine below_set ?_ GE164.out | refine below_set ?_ GE184.out) | exact HB.out)))
                          (case aF => exact (fun k_ hk => ⟨Kd.fresh' (Kd.R_lt (by (with_reducible repeat (first | apply Kd.R_alloc | apply Kd.R_drewN | apply Kd.R_drew)); exact HO187.out)) k_ hk, Kd.freshB (g := gb184) (o := .cells #[.bool true, .int .i64 (wrap64 (Int.tdiv x165000_1 2)), .bool ((bt a3 x30_1) == 84)] 56 (0, 0)) (by (with_reducible repeat (first | refine blk_drewN ?_ _ | refine blk_drew ?_ | refine blk_alloc ?_ _)); exact BK184.out) k_ hk⟩))
                          (case aO => exact (by (with_reducible repeat (first | apply Kd.R_alloc | apply Kd.R_drewN | apply Kd.R_drew)); exact Kd.R_mono HO_11.out (fun _ hk => ⟨hk.2, hk.1⟩)))
                          (case aS => exact (below_size (by repeat (first | (with_reducible first | exact HB.out | apply below_alloc | apply pw_below_drewN | apply below_drew1 | refine below_set ?_ GE163.out | refine below_set ?_ GE164.out | refine below_set ?_ GE184.out) | exact HB.out))))
                          (case aL => have := LMc44.out; omega)
                          intro v189 w60 ho hb hg hat
                          rw [← Ny188.out] at ho
                          have n0_ := Aside0.mk (Kd.R_over' (by (with_reducible repeat (first | apply Kd.R_alloc | apply Kd.R_drewN | apply Kd.R_drew)); exact HO_12.out) (Kd.R_typed (by (with_reducible repeat (first | apply Kd.R_alloc | apply Kd.R_drewN | apply Kd.R_drew)); exact HO_11.out)) (by decide) hg)
                          have n1_ := Aside0.mk (blk_grown (g := gb163) (o := .cells #[.int .i64 a2_0, .int .i64 a2_1] 24 (0, 0)) (by (with_reducible repeat (first | refine blk_drewN ?_ _ | refine blk_drew ?_ | refine blk_alloc ?_ _)); exact BK163.out) hg (Kd.R_ne HO_11.out BK163.out (by decide)))
                          have n2_ := Aside0.mk (blk_grown (g := gb164) (o := .cells #[.int .i64 (wrap64 (Int.tdiv x165000_1 2)), .int .i64 x165001_1] 24 (0, 0)) (by (with_reducible repeat (first | refine blk_drewN ?_ _ | refine blk_drew ?_ | refine blk_alloc ?_ _)); exact BK164.out) hg (Kd.R_ne HO_11.out BK164.out (by decide)))
                          have n3_ := Aside0.mk (blk_grown (g := gb184) (o := .cells #[.bool true, .int .i64 (wrap64 (Int.tdiv x165000_1 2)), .bool ((bt a3 x30_1) == 84)] 56 (0, 0)) (by (with_reducible repeat (first | refine blk_drewN ?_ _ | refine blk_drew ?_ | refine blk_alloc ?_ _)); exact BK184.out) hg (Kd.R_away HO_11.out (fun _ hk => hk.1)))
                          have n4_ := Aside0.mk (Kd.R_after (ok := (fun k_ => k_ ≠ gb184)) (by (with_reducible repeat (first | apply Kd.R_alloc | apply Kd.R_drewN | apply Kd.R_drew)); exact Kd.R_mono HO187.out (fun _ hk => ⟨hk.2, hk.1.2⟩)) hg hat)
                          have n5_ := Aside0.mk (Kd.R_over' (by (with_reducible repeat (first | apply Kd.R_alloc | apply Kd.R_drewN | apply Kd.R_drew)); exact HO193.out) (Kd.R_typed (by (with_reducible repeat (first | apply Kd.R_alloc | apply Kd.R_drewN | apply Kd.R_drew)); exact HO_11.out)) (by decide) hg)
                          have n6_ := Aside0.mk (hb)
                          have n7_ := Aside0.mk (ho)
                          clear HO_12
                          clear BK163
                          clear BK164
                          clear BK184
                          clear HO187
                          clear HO193
                          clear HB
                          clear HO_11
                          have HO_12 := n0_
                          have BK163 := n1_
                          have BK164 := n2_
                          have BK184 := n3_
                          have HO187 := n4_
                          have HO193 := n5_
                          have HB := n6_
                          have HO190 := n7_
                          clear n0_ n1_ n2_ n3_ n4_ n5_ n6_ n7_
                          clear ho hb hg hat
                          refine hK.out _ _ ⟨(blk_cell BK184.out 0).trans rfl, (blk_cell BK184.out 1).trans rfl, (blk_cell BK184.out 2).trans rfl, (blk_cell BK164.out 0).trans rfl, (blk_cell BK164.out 1).trans rfl⟩ (fun hHeld => ?_)
                          clear hK K
                          refine norm_ (a' := ?_) ?_ ?_
                          rotate_left
                          · show Act.put _ (some 68) _ = _
                            simp only [Act.put, List.setIfInBounds_toArray, List.set_cons_zero, List.set_cons_succ, i64_w, i32_w]
                            rfl
                          exact norm_ (by simp only [putAll, Act.put, List.setIfInBounds_toArray, List.set_cons_zero, List.set_cons_succ]) (hCont (.slice Ao61 y185.length co61, v189, v192) _ ⟨hHeld, (by (with_reducible repeat (first | apply Kd.R_alloc | apply Kd.R_drewN | apply Kd.R_drew)); exact Kd.R_mono HO187.out (fun _ hk => ⟨hk.2, hk.1⟩)), (by (with_reducible repeat (first | apply Kd.R_alloc | apply Kd.R_drewN | apply Kd.R_drew)); exact HO190.out), (by (with_reducible repeat (first | apply Kd.R_alloc | apply Kd.R_drewN | apply Kd.R_drew)); exact Kd.R_mono HO193.out (fun _ hk => ⟨hk.1.1.2, ⟨hk.1.2, hk.2⟩⟩)), (by (with_reducible repeat (first | apply Kd.R_alloc | apply Kd.R_drewN | apply Kd.R_drew)); exact Kd.R_mono HO_12.out (fun _ hk => ⟨hk.2, ⟨hk.1.1, hk.1.2⟩⟩)), (by (with_reducible repeat (first | refine blk_drewN ?_ _ | refine blk_drew ?_ | refine blk_alloc ?_ _)); exact BK163.out), (by (with_reducible repeat (first | refine blk_drewN ?_ _ | refine blk_drew ?_ | refine blk_alloc ?_ _)); exact BK164.out), (by (with_reducible repeat (first | refine blk_drewN ?_ _ | refine blk_drew ?_ | refine blk_alloc ?_ _)); exact BK184.out), (by repeat (first | (with_reducible first | exact HB.out | apply below_alloc | apply pw_below_drewN | apply below_drew1 | refine below_set ?_ GE163.out | refine below_set ?_ GE164.out | refine below_set ?_ GE184.out) | exact HB.out))⟩)
                      · skip
                        refine Kd.R_lit_step k24 _ 24 ?hg (N := 71) ?hd (xs := ([(⟨wrap64 (Int.tdiv x165000_1 2), x165001_1⟩ : S24)] : List (S24))) (inner := [.int .i64 (wrap64 (Int.tdiv x165000_1 2)), .int .i64 x165001_1]) (ok := fun _ => True) (okp := fun _ => True) ?hr ?hp (fun _ hk => hk) trivial (Below.refl _ _) (Nat.le_refl _) (by simp) ?_; (case hd => rfl); (case hg => rfl); (case hr => first | (go_simp; done) | (go_simp; rfl)); (case hp => exact (Reps.c2 (show Kd.M k24 _ _ _ (⟨wrap64 (Int.tdiv x165000_1 2), x165001_1⟩ : S24) [.int .i64 (wrap64 (Int.tdiv x165000_1 2)), .int .i64 x165001_1] from (k24_mkM _ _ _ (⟨wrap64 (Int.tdiv x165000_1 2), x165001_1⟩ : S24) )) (Reps.none _ _)))
                        intro v192 w56 ho57 hb hg_ hnew_
                        clear hg_ hnew_
                        (first | rw [← Ny191.out] at ho57 | (simp only [Int.reduceToNat] at ho57; rw [← Ny191.out] at ho57))
                        have n0_ := Aside0.mk (Kd.R_below (by (with_reducible repeat (first | apply Kd.R_alloc | apply Kd.R_drewN | apply Kd.R_drew)); exact HO_11.out) hb)
                        have n1_ := Aside0.mk (Kd.R_elder' (by (with_reducible repeat (first | apply Kd.R_alloc | apply Kd.R_drewN | apply Kd.R_drew)); exact HO_12.out) (Kd.R_base ho57) hb)
                        have n2_ := Aside0.mk (Kd.R_lower (Kd.R_newB (Kd.R_newB (Kd.R_new' ho57 (Kd.R_lt (by (with_reducible repeat (first | apply Kd.R_alloc | apply Kd.R_drewN | apply Kd.R_drew)); exact HO_12.out))) (g := gb163) (o := .cells #[.int .i64 a2_0, .int .i64 a2_1] 24 (0, 0)) (by (with_reducible repeat (first | refine blk_drewN ?_ _ | refine blk_drew ?_ | refine blk_alloc ?_ _)); exact BK163.out)) (g := gb164) (o := .cells #[.int .i64 (wrap64 (Int.tdiv x165000_1 2)), .int .i64 x165001_1] 24 (0, 0)) (by (with_reducible repeat (first | refine blk_drewN ?_ _ | refine blk_drew ?_ | refine blk_alloc ?_ _)); exact BK164.out)) (below_size (by repeat (first | (with_reducible first | exact HB.out | apply below_alloc | apply pw_below_drewN | apply below_drew1 | refine below_set ?_ GE163.out | refine below_set ?_ GE164.out | refine below_set ?_ GE184.out) | exact HB.out))))
                        have n3_ := Aside0.mk (blk_below (g := gb163) (o := .cells #[.int .i64 a2_0, .int .i64 a2_1] 24 (0, 0)) (by (with_reducible repeat (first | refine blk_drewN ?_ _ | refine blk_drew ?_ | refine blk_alloc ?_ _)); exact BK163.out) hb)
                        have n4_ := Aside0.mk (blk_below (g := gb164) (o := .cells #[.int .i64 (wrap64 (Int.tdiv x165000_1 2)), .int .i64 x165001_1] 24 (0, 0)) (by (with_reducible repeat (first | refine blk_drewN ?_ _ | refine blk_drew ?_ | refine blk_alloc ?_ _)); exact BK164.out) hb)
                        have n5_ := Aside0.mk (blk_below (g := gb184) (o := .cells #[.bool true, .int .i64 (wrap64 (Int.tdiv x165000_1 2)), .bool ((bt a3 x30_1) == 84)] 56 (0, 0)) (by (with_reducible repeat (first | refine blk_drewN ?_ _ | refine blk_drew ?_ | refine blk_alloc ?_ _)); exact BK184.out) hb)
                        have n6_ := Aside0.mk (below_step (by repeat (first | (with_reducible first | exact HB.out | apply below_alloc | apply pw_below_drewN | apply below_drew1 | refine below_set ?_ GE163.out | refine below_set ?_ GE164.out | refine below_set ?_ GE184.out) | exact HB.out)) hb)
                        clear HO_11
                        clear HO_12
                        clear BK163
                        clear BK164
                        clear BK184
                        clear HB
                        have HO_11 := n0_
                        have HO_12 := n1_
                        have HO193 := n2_
                        have BK163 := n3_
                        have BK164 := n4_
                        have BK184 := n5_
                        have HB := n6_
                        clear n0_ n1_ n2_ n3_ n4_ n5_ n6_
                        clear hb ho57
                        refine hK.out _ _ ⟨(blk_cell BK184.out 0).trans rfl, (blk_cell BK184.out 1).trans rfl, (blk_cell BK184.out 2).trans rfl, (blk_cell BK164.out 0).trans rfl, (blk_cell BK164.out 1).trans rfl⟩ (fun hHeld => ?_)
                        clear hK K
                        refine norm_ (a' := ?_) ?_ ?_
                        rotate_left
                        · show Act.put _ (some 71) _ = _
                          simp only [Act.put, List.setIfInBounds_toArray, List.set_cons_zero, List.set_cons_succ, i64_w, i32_w]
                          rfl
                        refine one_ (i := 2) (N := some 67) #[true, true, true, false, true, true, true, false, false, false] rfl rfl (one_of HT_.out (by kernel_rfl)) (by decide) (fun K hK => ?_)
                        refine Kd.R_lit_step k56 _ 56 ?hg (N := 67) ?hd (xs := ([(⟨true, wrap64 (Int.tdiv x165000_1 2), ((bt a3 x30_1) == 84)⟩ : S56)] : List (S56))) (inner := [.bool true, .int .i64 (wrap64 (Int.tdiv x165000_1 2)), .bool ((bt a3 x30_1) == 84)]) (ok := fun _ => True) (okp := fun _ => True) ?hr ?hp (fun _ hk => hk) trivial (Below.refl _ _) (Nat.le_refl _) (by simp) ?_; (case hd => rfl); (case hg => rfl); (case hr => first | (go_simp; done) | (go_simp; rfl)); (case hp => exact (Reps.c3 (show Kd.M k56 _ _ _ (⟨true, wrap64 (Int.tdiv x165000_1 2), ((bt a3 x30_1) == 84)⟩ : S56) [.bool true, .int .i64 (wrap64 (Int.tdiv x165000_1 2)), .bool ((bt a3 x30_1) == 84)] from (k56_mkM _ _ _ (⟨true, wrap64 (Int.tdiv x165000_1 2), ((bt a3 x30_1) == 84)⟩ : S56) )) (Reps.none _ _)))
                        intro v186 w58 ho59 hb hg_ hnew_
                        clear hg_ hnew_
                        (first | rw [← Ny185.out] at ho59 | (simp only [Int.reduceToNat] at ho59; rw [← Ny185.out] at ho59))
                        have n0_ := Aside0.mk (Kd.R_elder' (by (with_reducible repeat (first | apply Kd.R_alloc | apply Kd.R_drewN | apply Kd.R_drew)); exact HO_11.out) (Kd.R_base ho59) hb)
                        have n1_ := Aside0.mk (Kd.R_below (by (with_reducible repeat (first | apply Kd.R_alloc | apply Kd.R_drewN | apply Kd.R_drew)); exact HO_12.out) hb)
                        have n2_ := Aside0.mk (Kd.R_below (by (with_reducible repeat (first | apply Kd.R_alloc | apply Kd.R_drewN | apply Kd.R_drew)); exact HO193.out) hb)
                        have n3_ := Aside0.mk (Kd.R_lower (Kd.R_newB (Kd.R_new' ho59 (Kd.R_lt (by (with_reducible repeat (first | apply Kd.R_alloc | apply Kd.R_drewN | apply Kd.R_drew)); exact HO_11.out))) (g := gb184) (o := .cells #[.bool true, .int .i64 (wrap64 (Int.tdiv x165000_1 2)), .bool ((bt a3 x30_1) == 84)] 56 (0, 0)) (by (with_reducible repeat (first | refine blk_drewN ?_ _ | refine blk_drew ?_ | refine blk_alloc ?_ _)); exact BK184.out)) (below_size (by repeat (first | (with_reducible first | exact HB.out | apply below_alloc | apply pw_below_drewN | apply below_drew1 | refine below_set ?_ GE163.out | refine below_set ?_ GE164.out | refine below_set ?_ GE184.out) | exact HB.out))))
                        have n4_ := Aside0.mk (blk_below (g := gb163) (o := .cells #[.int .i64 a2_0, .int .i64 a2_1] 24 (0, 0)) (by (with_reducible repeat (first | refine blk_drewN ?_ _ | refine blk_drew ?_ | refine blk_alloc ?_ _)); exact BK163.out) hb)
                        have n5_ := Aside0.mk (blk_below (g := gb164) (o := .cells #[.int .i64 (wrap64 (Int.tdiv x165000_1 2)), .int .i64 x165001_1] 24 (0, 0)) (by (with_reducible repeat (first | refine blk_drewN ?_ _ | refine blk_drew ?_ | refine blk_alloc ?_ _)); exact BK164.out) hb)
                        have n6_ := Aside0.mk (blk_below (g := gb184) (o := .cells #[.bool true, .int .i64 (wrap64 (Int.tdiv x165000_1 2)), .bool ((bt a3 x30_1) == 84)] 56 (0, 0)) (by (with_reducible repeat (first | refine blk_drewN ?_ _ | refine blk_drew ?_ | refine blk_alloc ?_ _)); exact BK184.out) hb)
                        have n7_ := Aside0.mk (below_step (by repeat (first | (with_reducible first | exact HB.out | apply below_alloc | apply pw_below_drewN | apply below_drew1 | refine below_set ?_ GE163.out | refine below_set ?_ GE164.out | refine below_set ?_ GE184.out) | exact HB.out)) hb)
                        clear HO_11
                        clear HO_12
                        clear HO193
                        clear BK163
                        clear BK164
                        clear BK184
                        clear HB
                        have HO_11 := n0_
                        have HO_12 := n1_
                        have HO193 := n2_
                        have HO187 := n3_
                        have BK163 := n4_
                        have BK164 := n5_
                        have BK184 := n6_
                        have HB := n7_
                        clear n0_ n1_ n2_ n3_ n4_ n5_ n6_ n7_
                        clear hb ho59
                        obtain ⟨Ao61, co61, eo61⟩ := Kd.R_slice HO187.out
                        (first | subst eo61 | (injection eo61 with f1_ f2_ f3_; have f4_ := f1_.symm; have f5_ := f3_.symm; clear f1_ f2_ f3_; subst f4_; subst f5_))
                        refine hK.out _ _ ⟨(blk_cell BK184.out 0).trans rfl, (blk_cell BK184.out 1).trans rfl, (blk_cell BK184.out 2).trans rfl, (blk_cell BK164.out 0).trans rfl, (blk_cell BK164.out 1).trans rfl⟩ (fun hHeld => ?_)
                        clear hK K
                        refine norm_ (a' := ?_) ?_ ?_
                        rotate_left
                        · show Act.put _ (some 67) _ = _
                          simp only [Act.put, List.setIfInBounds_toArray, List.set_cons_zero, List.set_cons_succ, i64_w, i32_w]
                          rfl
                        refine one_ (i := 3) (N := some 68) #[true, true, true, true, true, true, true, false, false, false] rfl rfl (one_of HT_.out (by kernel_rfl)) (by decide) (fun K hK => ?_)
                        refine Kd.R_append_rows_step k56 (w0 := w) w.heap.size (by rfl) (.tmp 65) (.tmp 67) 30 56 (.agg #[(.bool false), (.int .i64 0), (.bool false)]) 24 rfl Tryd.underlying30 info56 rfl (by decide) (by omega) (.slice Ao52 x11_1.length co52) x11_1 y185 _ _ _ (fun k_ => some k_ ≠ (.slice Ao61 y185.length co61 : Value).ownBlock ∧ k_ ≠ gb184) (fun _ => False) rfl rfl ?aO ?aR (fun _ _ h => h) (fun _ h => h.elim) ?aF ?aB ?aS ?aL ?_
                        (case aR => repeat (first | exact (Kd.R_reads' HO187.out).2.2 | (with_reducible refine Kd.C_alloc ?_ _) | (with_reducible refine Kd.C_drewN ?_ _) | (with_reducible refine Kd.C_drew ?_)))
                        (case aB => exact (by repeat (first | (with_reducible first | exact HB.out | apply below_alloc | apply pw_below_drewN | apply below_drew1 | refine below_set ?_ GE163.out | refine below_set ?_ GE164.out | refine below_set ?_ GE184.out) | exact HB.out)))
                        (case aF => exact (fun k_ hk => ⟨Kd.fresh' (Kd.R_lt (by (with_reducible repeat (first | apply Kd.R_alloc | apply Kd.R_drewN | apply Kd.R_drew)); exact HO187.out)) k_ hk, Kd.freshB (g := gb184) (o := .cells #[.bool true, .int .i64 (wrap64 (Int.tdiv x165000_1 2)), .bool ((bt a3 x30_1) == 84)] 56 (0, 0)) (by (with_reducible repeat (first | refine blk_drewN ?_ _ | refine blk_drew ?_ | refine blk_alloc ?_ _)); exact BK184.out) k_ hk⟩))
                        (case aO => exact (by (with_reducible repeat (first | apply Kd.R_alloc | apply Kd.R_drewN | apply Kd.R_drew)); exact Kd.R_mono HO_11.out (fun _ hk => ⟨hk.2, hk.1⟩)))
                        (case aS => exact (below_size (by repeat (first | (with_reducible first | exact HB.out | apply below_alloc | apply pw_below_drewN | apply below_drew1 | refine below_set ?_ GE163.out | refine below_set ?_ GE164.out | refine below_set ?_ GE184.out) | exact HB.out))))
                        (case aL => have := LMc44.out; omega)
                        intro v189 w60 ho hb hg hat
                        rw [← Ny188.out] at ho
                        have n0_ := Aside0.mk (Kd.R_over' (by (with_reducible repeat (first | apply Kd.R_alloc | apply Kd.R_drewN | apply Kd.R_drew)); exact HO_12.out) (Kd.R_typed (by (with_reducible repeat (first | apply Kd.R_alloc | apply Kd.R_drewN | apply Kd.R_drew)); exact HO_11.out)) (by decide) hg)
                        have n1_ := Aside0.mk (blk_grown (g := gb163) (o := .cells #[.int .i64 a2_0, .int .i64 a2_1] 24 (0, 0)) (by (with_reducible repeat (first | refine blk_drewN ?_ _ | refine blk_drew ?_ | refine blk_alloc ?_ _)); exact BK163.out) hg (Kd.R_ne HO_11.out BK163.out (by decide)))
                        have n2_ := Aside0.mk (blk_grown (g := gb164) (o := .cells #[.int .i64 (wrap64 (Int.tdiv x165000_1 2)), .int .i64 x165001_1] 24 (0, 0)) (by (with_reducible repeat (first | refine blk_drewN ?_ _ | refine blk_drew ?_ | refine blk_alloc ?_ _)); exact BK164.out) hg (Kd.R_ne HO_11.out BK164.out (by decide)))
                        have n3_ := Aside0.mk (blk_grown (g := gb184) (o := .cells #[.bool true, .int .i64 (wrap64 (Int.tdiv x165000_1 2)), .bool ((bt a3 x30_1) == 84)] 56 (0, 0)) (by (with_reducible repeat (first | refine blk_drewN ?_ _ | refine blk_drew ?_ | refine blk_alloc ?_ _)); exact BK184.out) hg (Kd.R_away HO_11.out (fun _ hk => hk.1)))
                        have n4_ := Aside0.mk (Kd.R_over' (by (with_reducible repeat (first | apply Kd.R_alloc | apply Kd.R_drewN | apply Kd.R_drew)); exact HO193.out) (Kd.R_typed (by (with_reducible repeat (first | apply Kd.R_alloc | apply Kd.R_drewN | apply Kd.R_drew)); exact HO_11.out)) (by decide) hg)
                        have n5_ := Aside0.mk (Kd.R_after (ok := (fun k_ => k_ ≠ gb184)) (by (with_reducible repeat (first | apply Kd.R_alloc | apply Kd.R_drewN | apply Kd.R_drew)); exact Kd.R_mono HO187.out (fun _ hk => ⟨hk.2, hk.1.2⟩)) hg hat)
                        have n6_ := Aside0.mk (hb)
                        have n7_ := Aside0.mk (ho)
                        clear HO_12
                        clear BK163
                        clear BK164
                        clear BK184
                        clear HO193
                        clear HO187
                        clear HB
                        clear HO_11
                        have HO_12 := n0_
                        have BK163 := n1_
                        have BK164 := n2_
                        have BK184 := n3_
                        have HO193 := n4_
                        have HO187 := n5_
                        have HB := n6_
                        have HO190 := n7_
                        clear n0_ n1_ n2_ n3_ n4_ n5_ n6_ n7_
                        clear ho hb hg hat
                        refine hK.out _ _ ⟨(blk_cell BK184.out 0).trans rfl, (blk_cell BK184.out 1).trans rfl, (blk_cell BK184.out 2).trans rfl, (blk_cell BK164.out 0).trans rfl, (blk_cell BK164.out 1).trans rfl⟩ (fun hHeld => ?_)
                        clear hK K
                        refine norm_ (a' := ?_) ?_ ?_
                        rotate_left
                        · show Act.put _ (some 68) _ = _
                          simp only [Act.put, List.setIfInBounds_toArray, List.set_cons_zero, List.set_cons_succ, i64_w, i32_w]
                          rfl
                        exact norm_ (by simp only [putAll, Act.put, List.setIfInBounds_toArray, List.set_cons_zero, List.set_cons_succ]) (hCont (.slice Ao61 y185.length co61, v189, v192) _ ⟨hHeld, (by (with_reducible repeat (first | apply Kd.R_alloc | apply Kd.R_drewN | apply Kd.R_drew)); exact Kd.R_mono HO187.out (fun _ hk => ⟨hk.2, hk.1⟩)), (by (with_reducible repeat (first | apply Kd.R_alloc | apply Kd.R_drewN | apply Kd.R_drew)); exact HO190.out), (by (with_reducible repeat (first | apply Kd.R_alloc | apply Kd.R_drewN | apply Kd.R_drew)); exact Kd.R_mono HO193.out (fun _ hk => ⟨hk.1.1.2, ⟨hk.1.2, hk.2⟩⟩)), (by (with_reducible repeat (first | apply Kd.R_alloc | apply Kd.R_drewN | apply Kd.R_drew)); exact Kd.R_mono HO_12.out (fun _ hk => ⟨hk.2, ⟨hk.1.1, hk.1.2⟩⟩)), (by (with_reducible repeat (first | refine blk_drewN ?_ _ | refine blk_drew ?_ | refine blk_alloc ?_ _)); exact BK163.out), (by (with_reducible repeat (first | refine blk_drewN ?_ _ | refine blk_drew ?_ | refine blk_alloc ?_ _)); exact BK164.out), (by (with_reducible repeat (first | refine blk_drewN ?_ _ | refine blk_drew ?_ | refine blk_alloc ?_ _)); exact BK184.out), (by repeat (first | (with_reducible first | exact HB.out | apply below_alloc | apply pw_below_drewN | apply below_drew1 | refine below_set ?_ GE163.out | refine below_set ?_ GE164.out | refine below_set ?_ GE184.out) | exact HB.out))⟩)
                    rintro ⟨v186, v189, v192⟩ w62 ⟨hS_, h0_, h1_, h2_, h3_, h4_, h5_, h6_, h7_⟩
                    have n0_ : Aside0 (Kd.R k56 56 w62 w.heap.size (fun k_ => some k_ ≠ (v189 : Value).ownBlock ∧ k_ ≠ gb184) v186 y185) := ⟨h0_⟩
                    have n1_ : Aside0 (Kd.R k56 56 w62 w.heap.size (fun k_ => some k_ ≠ (v186 : Value).ownBlock ∧ k_ ≠ gb184) v189 y188) := ⟨h1_⟩
                    have n2_ : Aside0 (Kd.R k24 24 w62 w.heap.size (fun k_ => some k_ ≠ (.slice Ao53 x12_1.length co53 : Value).ownBlock ∧ k_ ≠ gb163 ∧ k_ ≠ gb164) v192 y191) := ⟨h2_⟩
                    have n3_ : Aside0 (Kd.R k24 24 w62 w.heap.size (fun k_ => some k_ ≠ (v192 : Value).ownBlock ∧ k_ ≠ gb163 ∧ k_ ≠ gb164) (.slice Ao53 x12_1.length co53) x12_1) := ⟨h3_⟩
                    have n4_ : Aside0 (w62.heap[gb163]? = some (.cells #[.int .i64 a2_0, .int .i64 a2_1] 24 (0, 0))) := ⟨h4_⟩
                    have n5_ : Aside0 (w62.heap[gb164]? = some (.cells #[.int .i64 (wrap64 (Int.tdiv x165000_1 2)), .int .i64 x165001_1] 24 (0, 0))) := ⟨h5_⟩
                    have n6_ : Aside0 (w62.heap[gb184]? = some (.cells #[.bool true, .int .i64 (wrap64 (Int.tdiv x165000_1 2)), .bool ((bt a3 x30_1) == 84)] 56 (0, 0))) := ⟨h6_⟩
                    have n7_ : Aside0 (Below w.heap.size w w62) := ⟨h7_⟩
                    clear HO_11
                    clear HO_12
                    clear BK163
                    clear BK164
                    clear BK184
                    clear HB
                    clear h0_ h1_ h2_ h3_ h4_ h5_ h6_ h7_
                    have HO187 := n0_
                    have HO190 := n1_
                    have HO193 := n2_
                    have HO_12 := n3_
                    have BK163 := n4_
                    have BK164 := n5_
                    have BK184 := n6_
                    have HB := n7_
                    clear n0_ n1_ n2_ n3_ n4_ n5_ n6_ n7_
                    have hHeld : w62.cell? ⟨gb184, 0, none⟩ = some (.bool true) ∧ w62.cell? ⟨gb184, 1, none⟩ = some (.int .i64 (wrap64 (Int.tdiv x165000_1 2))) ∧ w62.cell? ⟨gb184, 2, none⟩ = some (.bool ((bt a3 x30_1) == 84)) ∧ w62.cell? ⟨gb164, 0, none⟩ = some (.int .i64 (wrap64 (Int.tdiv x165000_1 2))) ∧ w62.cell? ⟨gb164, 1, none⟩ = some (.int .i64 x165001_1) := hS_
                    obtain ⟨Ao64, co64, eo64⟩ := Kd.R_slice HO193.out
                    (first | subst eo64 | (injection eo64 with f1_ f2_ f3_; have f4_ := f1_.symm; have f5_ := f3_.symm; clear f1_ f2_ f3_; subst f4_; subst f5_))
                    refine norm_ (a' := ?_) ?_ ?_
                    rotate_left
                    · simp only [putAll, Act.put, List.setIfInBounds_toArray, List.set_cons_zero, List.set_cons_succ]
                      rfl
                    refine one_ (i := 7) (N := some 72) #[true, true, true, true, true, true, true, true, false, false] rfl rfl (one_of HT_.out (by kernel_rfl)) (by decide) (fun K hK => ?_)
                    refine Kd.R_append_rows_step k24 (w0 := w) w.heap.size (by rfl) (.tmp 69) (.tmp 71) 51 24 (.agg #[(.int .i64 0), (.int .i64 0)]) 16 rfl Tryd.underlying51 info24 rfl (by decide) (by omega) (.slice Ao53 x12_1.length co53) x12_1 y191 _ _ _ (fun k_ => some k_ ≠ (.slice Ao64 y191.length co64 : Value).ownBlock ∧ k_ ≠ gb163 ∧ k_ ≠ gb164) (fun _ => False) rfl rfl ?aO ?aR (fun _ _ h => h) (fun _ h => h.elim) ?aF ?aB ?aS ?aL ?_
                    (case aR => repeat (first | exact (Kd.R_reads' HO193.out).2.2 | (with_reducible refine Kd.C_alloc ?_ _) | (with_reducible refine Kd.C_drewN ?_ _) | (with_reducible refine Kd.C_drew ?_)))
                    (case aB => exact (by repeat (first | (with_reducible first | exact HB.out | apply below_alloc | apply pw_below_drewN | apply below_drew1 | refine below_set ?_ GE163.out | refine below_set ?_ GE164.out | refine below_set ?_ GE184.out) | exact HB.out)))
                    (case aF => exact (fun k_ hk => ⟨Kd.fresh' (Kd.R_lt (by (with_reducible repeat (first | apply Kd.R_alloc | apply Kd.R_drewN | apply Kd.R_drew)); exact HO193.out)) k_ hk, Kd.freshB (g := gb163) (o := .cells #[.int .i64 a2_0, .int .i64 a2_1] 24 (0, 0)) (by (with_reducible repeat (first | refine blk_drewN ?_ _ | refine blk_drew ?_ | refine blk_alloc ?_ _)); exact BK163.out) k_ hk, Kd.freshB (g := gb164) (o := .cells #[.int .i64 (wrap64 (Int.tdiv x165000_1 2)), .int .i64 x165001_1] 24 (0, 0)) (by (with_reducible repeat (first | refine blk_drewN ?_ _ | refine blk_drew ?_ | refine blk_alloc ?_ _)); exact BK164.out) k_ hk⟩))
                    (case aO => exact (by (with_reducible repeat (first | apply Kd.R_alloc | apply Kd.R_drewN | apply Kd.R_drew)); exact HO_12.out))
                    (case aS => exact (below_size (by repeat (first | (with_reducible first | exact HB.out | apply below_alloc | apply pw_below_drewN | apply below_drew1 | refine below_set ?_ GE163.out | refine below_set ?_ GE164.out | refine below_set ?_ GE184.out) | exact HB.out))))
                    (case aL => have := LMc45.out; omega)
                    intro v195 w63 ho hb hg hat
                    rw [← Ny194.out] at ho
                    have n0_ := Aside0.mk (blk_grown (g := gb163) (o := .cells #[.int .i64 a2_0, .int .i64 a2_1] 24 (0, 0)) (by (with_reducible repeat (first | refine blk_drewN ?_ _ | refine blk_drew ?_ | refine blk_alloc ?_ _)); exact BK163.out) hg (Kd.R_away HO_12.out (fun _ hk => hk.2.1)))
                    have n1_ := Aside0.mk (blk_grown (g := gb164) (o := .cells #[.int .i64 (wrap64 (Int.tdiv x165000_1 2)), .int .i64 x165001_1] 24 (0, 0)) (by (with_reducible repeat (first | refine blk_drewN ?_ _ | refine blk_drew ?_ | refine blk_alloc ?_ _)); exact BK164.out) hg (Kd.R_away HO_12.out (fun _ hk => hk.2.2)))
                    have n2_ := Aside0.mk (blk_grown (g := gb184) (o := .cells #[.bool true, .int .i64 (wrap64 (Int.tdiv x165000_1 2)), .bool ((bt a3 x30_1) == 84)] 56 (0, 0)) (by (with_reducible repeat (first | refine blk_drewN ?_ _ | refine blk_drew ?_ | refine blk_alloc ?_ _)); exact BK184.out) hg (Kd.R_ne HO_12.out BK184.out (by decide)))
                    have n3_ := Aside0.mk (Kd.R_over' (by (with_reducible repeat (first | apply Kd.R_alloc | apply Kd.R_drewN | apply Kd.R_drew)); exact HO187.out) (Kd.R_typed (by (with_reducible repeat (first | apply Kd.R_alloc | apply Kd.R_drewN | apply Kd.R_drew)); exact HO_12.out)) (by decide) hg)
                    have n4_ := Aside0.mk (Kd.R_over' (by (with_reducible repeat (first | apply Kd.R_alloc | apply Kd.R_drewN | apply Kd.R_drew)); exact HO190.out) (Kd.R_typed (by (with_reducible repeat (first | apply Kd.R_alloc | apply Kd.R_drewN | apply Kd.R_drew)); exact HO_12.out)) (by decide) hg)
                    have n5_ := Aside0.mk (Kd.R_after (ok := (fun k_ => k_ ≠ gb163 ∧ k_ ≠ gb164)) (by (with_reducible repeat (first | apply Kd.R_alloc | apply Kd.R_drewN | apply Kd.R_drew)); exact Kd.R_mono HO193.out (fun _ hk => ⟨⟨hk.2.1, hk.2.2⟩, hk.1⟩)) hg hat)
                    have n6_ := Aside0.mk (hb)
                    have n7_ := Aside0.mk (ho)
                    clear BK163
                    clear BK164
                    clear BK184
                    clear HO187
                    clear HO190
                    clear HO193
                    clear HB
                    clear HO_12
                    have BK163 := n0_
                    have BK164 := n1_
                    have BK184 := n2_
                    have HO187 := n3_
                    have HO190 := n4_
                    have HO193 := n5_
                    have HB := n6_
                    have HO196 := n7_
                    clear n0_ n1_ n2_ n3_ n4_ n5_ n6_ n7_
                    clear ho hb hg hat
                    refine hK.out _ _ ⟨(blk_cell BK184.out 0).trans rfl, (blk_cell BK184.out 1).trans rfl, (blk_cell BK184.out 2).trans rfl, (blk_cell BK164.out 0).trans rfl, (blk_cell BK164.out 1).trans rfl⟩ (fun hHeld => ?_)
                    clear hK K
                    refine norm_ (a' := ?_) ?_ ?_
                    rotate_left
                    · show Act.put _ (some 72) _ = _
                      simp only [Act.put, List.setIfInBounds_toArray, List.set_cons_zero, List.set_cons_succ, i64_w, i32_w]
                      rfl
                    refine pure_ (i := 8) (N := some 11) (v := ?_) (a' := ?_) #[true, true, true, true, true, true, true, true, true, false] rfl rfl (any_of HT_.out (by kernel_rfl)) (fun _ _ _ h => h) (Or.inl ⟨by rfl, ?_⟩) ?_ ?_
                    rotate_left
                    · intro w'
                      go_simp
                      with_reducible rfl
                    rotate_left
                    · simp only [Act.put, List.setIfInBounds_toArray, List.set_cons_zero, List.set_cons_succ, i64_w, i32_w]
                      rfl
                    refine pure_ (i := 9) (N := some 12) (v := ?_) (a' := ?_) #[true, true, true, true, true, true, true, true, true, true] rfl rfl (any_of HT_.out (by kernel_rfl)) (fun _ _ _ h => h) (Or.inl ⟨by rfl, ?_⟩) ?_ ?_
                    rotate_left
                    · intro w'
                      go_simp
                      with_reducible rfl
                    rotate_left
                    · simp only [Act.put, List.setIfInBounds_toArray, List.set_cons_zero, List.set_cons_succ, i64_w, i32_w]
                      rfl
                    refine done_ (done_of HT_.out (by kernel_rfl)) ?_
                    try go_wp2
                    go_roundg k1
                    case measure => have := HK1.out; omega
                    case rel => exact ⟨(y188), (y194), (wrap64 (x30_1 + 1)), (wrap64 (Int.tdiv x165000_1 2)), (x165001_1), (by first | rfl | (simp; done) | (simp [*]; done)), H', ⟨by have := HK1.out; omega⟩, ⟨by (with_reducible repeat (first | apply Kd.R_alloc | apply Kd.R_drewN | apply Kd.R_drew)); exact Kd.R_mono HO190.out (fun _ hk => trivial)⟩, ⟨by (with_reducible repeat (first | apply Kd.R_alloc | apply Kd.R_drewN | apply Kd.R_drew)); exact Kd.R_mono HO196.out (fun _ hk => ⟨hk.2.1, hk.2.2⟩)⟩, ⟨by (with_reducible repeat (first | refine blk_drewN ?_ _ | refine blk_drew ?_ | refine blk_alloc ?_ _)); exact BK163.out⟩, ⟨by (with_reducible repeat (first | refine blk_drewN ?_ _ | refine blk_drew ?_ | refine blk_alloc ?_ _)); exact BK164.out⟩, ⟨by repeat (first | (with_reducible first | exact HB.out | apply below_alloc | apply pw_below_drewN | apply below_drew1 | refine below_set ?_ GE163.out | refine below_set ?_ GE164.out | refine below_set ?_ GE184.out) | exact HB.out)⟩⟩
                  · rw [if_neg c45] at H
                    exact absurd H (by simp)
                · rw [if_neg c44] at H
                  exact absurd H (by simp)
              · rw [if_neg c43] at H
                have c43b0 : ((bt a3 x30_1) == 82) = false := beq_eq_false_iff_ne.mpr c43
                have c43b1 : ((bt a3 x30_1) != 82) = true := bne_iff_ne.mpr c43
                obtain ⟨y197, hy197⟩ : ∃ y_ : List (S56), y_ = (([(⟨false, wrap64 (Int.tdiv x165001_1 2), ((bt a3 x30_1) == 84)⟩ : S56)] : List (S56))) := ⟨_, rfl⟩
                replace H : (if x11_1.length + y197.length < 5864062014805 then ((some (([(⟨x165000_1, wrap64 (Int.tdiv x165001_1 2)⟩ : S24)] : List (S24)) : List (S24))).bind fun y203 => (if x12_1.length + y203.length < 8796093022208 then (impl_setupOf.l0 k1 a3 (x11_1 ++ y197) (x12_1 ++ y203) (a3.size : Int) (wrap64 (x30_1 + 1)) x165000_1 (wrap64 (Int.tdiv x165001_1 2))) else (none))) else (none)) = some (r1, r2) := by first | (rw [hy197]; with_reducible exact H) | (have H2_ := (Option.bind_some _ _).symm.trans H; rw [hy197]; with_reducible exact H2_) | (have H2_ := (Option.bind_some _ _).symm.trans H; with_reducible exact H2_) | with_reducible exact H | (rw [hy197]; exact H) | exact H
                have Ny197 := Aside0.mk hy197
                clear hy197
                by_cases c65 : x11_1.length + y197.length < 5864062014805
                · rw [if_pos c65] at H
                  have LMc65 := Aside0.mk c65
                  clear c65
                  obtain ⟨y200, hy200⟩ : ∃ y_ : List (S56), y_ = (x11_1 ++ y197) := ⟨_, rfl⟩
                  replace H : ((some (([(⟨x165000_1, wrap64 (Int.tdiv x165001_1 2)⟩ : S24)] : List (S24)) : List (S24))).bind fun y203 => (if x12_1.length + y203.length < 8796093022208 then (impl_setupOf.l0 k1 a3 y200 (x12_1 ++ y203) (a3.size : Int) (wrap64 (x30_1 + 1)) x165000_1 (wrap64 (Int.tdiv x165001_1 2))) else (none))) = some (r1, r2) := by first | (rw [hy200]; with_reducible exact H) | (have H2_ := (Option.bind_some _ _).symm.trans H; rw [hy200]; with_reducible exact H2_) | (have H2_ := (Option.bind_some _ _).symm.trans H; with_reducible exact H2_) | with_reducible exact H | (rw [hy200]; exact H) | exact H
                  have Ny200 := Aside0.mk hy200
                  clear hy200
                  obtain ⟨y203, hy203⟩ : ∃ y_ : List (S24), y_ = (([(⟨x165000_1, wrap64 (Int.tdiv x165001_1 2)⟩ : S24)] : List (S24))) := ⟨_, rfl⟩
                  replace H : (if x12_1.length + y203.length < 8796093022208 then (impl_setupOf.l0 k1 a3 y200 (x12_1 ++ y203) (a3.size : Int) (wrap64 (x30_1 + 1)) x165000_1 (wrap64 (Int.tdiv x165001_1 2))) else (none)) = some (r1, r2) := by first | (rw [hy203]; with_reducible exact H) | (have H2_ := (Option.bind_some _ _).symm.trans H; rw [hy203]; with_reducible exact H2_) | (have H2_ := (Option.bind_some _ _).symm.trans H; with_reducible exact H2_) | with_reducible exact H | (rw [hy203]; exact H) | exact H
                  have Ny203 := Aside0.mk hy203
                  clear hy203
                  by_cases c66 : x12_1.length + y203.length < 8796093022208
                  · rw [if_pos c66] at H
                    have LMc66 := Aside0.mk c66
                    clear c66
                    obtain ⟨y206, hy206⟩ : ∃ y_ : List (S24), y_ = (x12_1 ++ y203) := ⟨_, rfl⟩
                    replace H : (impl_setupOf.l0 k1 a3 y200 y206 (a3.size : Int) (wrap64 (x30_1 + 1)) x165000_1 (wrap64 (Int.tdiv x165001_1 2))) = some (r1, r2) := by first | (rw [hy206]; with_reducible exact H) | (have H2_ := (Option.bind_some _ _).symm.trans H; rw [hy206]; with_reducible exact H2_) | (have H2_ := (Option.bind_some _ _).symm.trans H; with_reducible exact H2_) | with_reducible exact H | (rw [hy206]; exact H) | exact H
                    have Ny206 := Aside0.mk hy206
                    clear hy206
                    have H' := Aside0.mk H
                    clear H
                    have p20 : 0 ≤ (x30_1 : Int) := of_decide_eq_true (by first | (with_reducible assumption) | assumption)
                    have q20 : x30_1 < (a3.size : Int) := of_decide_eq_true (by first | (with_reducible assumption) | assumption)
                    have hx20 := bt_at a3 x30_1
                    replace p20 := eq_true p20
                    replace q20 := eq_true q20
                    try go_wp2_with (first | ((with_reducible refine gate_dst (N := 15) rfl ?_); refine box_event ?hg (N := 15) ?hd (cs := #[.bool false, .int .i64 0, .bool false]) (t := 56) ?hr ?_; (case hd => rfl); (case hg => rfl); (case hr => first | (go_simp; done) | (go_simp; rfl)); intro gb184 hg w67 hbox hb; have n0_ := Aside0.mk (Kd.R_below (Kd.R_elderB (by (with_reducible repeat (first | apply Kd.R_alloc | apply Kd.R_drewN | apply Kd.R_drew)); exact HO_11.out) gb184 (Nat.le_of_eq hg.symm)) hb); have n1_ := Aside0.mk (Kd.R_below (by (with_reducible repeat (first | apply Kd.R_alloc | apply Kd.R_drewN | apply Kd.R_drew)); exact HO_12.out) hb); have n2_ := Aside0.mk (blk_below (g := gb163) (o := .cells #[.int .i64 a2_0, .int .i64 a2_1] 24 (0, 0)) (by (with_reducible repeat (first | refine blk_drewN ?_ _ | refine blk_drew ?_ | refine blk_alloc ?_ _)); exact BK163.out) hb); have n3_ := Aside0.mk (blk_below (g := gb164) (o := .cells #[.int .i64 x165000_1, .int .i64 x165001_1] 24 (0, 0)) (by (with_reducible repeat (first | refine blk_drewN ?_ _ | refine blk_drew ?_ | refine blk_alloc ?_ _)); exact BK164.out) hb); have n4_ := Aside0.mk (below_step (by repeat (first | (with_reducible first | exact HB.out | apply below_alloc | apply pw_below_drewN | apply below_drew1 | refine below_set ?_ GE163.out | refine below_set ?_ GE164.out) | exact HB.out)) hb); have n5_ := Aside0.mk (hbox); have n6_ := Aside0.mk ((by rw [hg]; exact (below_size (by repeat (first | (with_reducible first | exact HB.out | apply below_alloc | apply pw_below_drewN | apply below_drew1 | refine below_set ?_ GE163.out | refine below_set ?_ GE164.out) | exact HB.out))) : w.heap.size ≤ gb184)); have n7_ := Aside0.mk ((by rw [hg]; exact (below_size (by repeat (first | (with_reducible first | exact HB.out | apply below_alloc | apply pw_below_drewN | apply below_drew1 | refine below_set ?_ GE163.out | refine below_set ?_ GE164.out) | exact HB.out))) : w.heap.size ≤ gb184)); have n8_ := Aside0.mk ((by rw [hg]; exact Nat.ne_of_lt (blk_lt (g := gb163) (o := .cells #[.int .i64 a2_0, .int .i64 a2_1] 24 (0, 0)) (by (with_reducible repeat (first | refine blk_drewN ?_ _ | refine blk_drew ?_ | refine blk_alloc ?_ _)); exact BK163.out)) : gb163 ≠ gb184)); have n9_ := Aside0.mk ((by rw [hg]; exact Nat.ne_of_gt (blk_lt (g := gb163) (o := .cells #[.int .i64 a2_0, .int .i64 a2_1] 24 (0, 0)) (by (with_reducible repeat (first | refine blk_drewN ?_ _ | refine blk_drew ?_ | refine blk_alloc ?_ _)); exact BK163.out)) : gb184 ≠ gb163)); have n10_ := Aside0.mk ((by rw [hg]; exact Nat.ne_of_lt (blk_lt (g := gb164) (o := .cells #[.int .i64 x165000_1, .int .i64 x165001_1] 24 (0, 0)) (by (with_reducible repeat (first | refine blk_drewN ?_ _ | refine blk_drew ?_ | refine blk_alloc ?_ _)); exact BK164.out)) : gb164 ≠ gb184)); have n11_ := Aside0.mk ((by rw [hg]; exact Nat.ne_of_gt (blk_lt (g := gb164) (o := .cells #[.int .i64 x165000_1, .int .i64 x165001_1] 24 (0, 0)) (by (with_reducible repeat (first | refine blk_drewN ?_ _ | refine blk_drew ?_ | refine blk_alloc ?_ _)); exact BK164.out)) : gb184 ≠ gb164)); clear HO_11; clear HO_12; clear BK163; clear BK164; clear HB; have HO_11 := n0_; have HO_12 := n1_; have BK163 := n2_; have BK164 := n3_; have HB := n4_; have BK184 := n5_; have GW184 := n6_; have GE184 := n7_; have NB163_184 := n8_; have NB184_163 := n9_; have NB164_184 := n10_; have NB184_164 := n11_; clear n0_ n1_ n2_ n3_ n4_ n5_ n6_ n7_ n8_ n9_ n10_ n11_; clear hb hbox hg; have hnb68 := NB184_163.out; have hnc68 := NB163_184.out; have hnb69 := NB184_164.out; have hnc69 := NB164_184.out; have hcz70_0 : w67.cell? ⟨gb184, 0, none⟩ = some (.bool false) := (blk_cell BK184.out 0).trans rfl; have hcz70_1 : w67.cell? ⟨gb184, 1, none⟩ = some (.int .i64 0) := (blk_cell BK184.out 1).trans rfl; have hcz70_2 : w67.cell? ⟨gb184, 2, none⟩ = some (.bool false) := (blk_cell BK184.out 2).trans rfl; have hfz70_0 := blk_frozen BK184.out 0; have hfz70_1 := blk_frozen BK184.out 1; have hfz70_2 := blk_frozen BK184.out 2; have hnb71 := NB164_163.out; have hnc71 := NB163_164.out; have hcz72_0 : w67.cell? ⟨gb164, 0, none⟩ = some (.int .i64 x165000_1) := (blk_cell BK164.out 0).trans rfl; have hcz72_1 : w67.cell? ⟨gb164, 1, none⟩ = some (.int .i64 x165001_1) := (blk_cell BK164.out 1).trans rfl; have hfz72_0 := blk_frozen BK164.out 0; have hfz72_1 := blk_frozen BK164.out 1; obtain ⟨Ao73, co73, eo73⟩ := Kd.R_slice HO_11.out; subst eo73; obtain ⟨Ao74, co74, eo74⟩ := Kd.R_slice HO_12.out; subst eo74))
                    have n0_ : Aside0 (Kd.R k56 56 (((((w67.setCell ⟨gb184, 0, none⟩ (.bool false)).setCell ⟨gb184, 1, none⟩ (.int .i64 0)).setCell ⟨gb184, 2, none⟩ (.bool ((bt a3 x30_1) == 84))).setCell ⟨gb164, 1, none⟩ (.int .i64 (wrap64 (Int.tdiv x165001_1 2)))).setCell ⟨gb184, 1, none⟩ (.int .i64 (wrap64 (Int.tdiv x165001_1 2)))) w.heap.size (fun k_ => k_ ≠ gb184) (.slice Ao73 x11_1.length co73) x11_1) := ⟨by (with_reducible repeat (first | apply Kd.R_alloc | apply Kd.R_drewN | apply Kd.R_drew)); exact Kd.R_mono (Kd.R_far (p := ⟨gb184, 1, none⟩) (Kd.R_far (p := ⟨gb164, 1, none⟩) (Kd.R_far (p := ⟨gb184, 2, none⟩) (Kd.R_far (p := ⟨gb184, 1, none⟩) (Kd.R_far (p := ⟨gb184, 0, none⟩) (Kd.R_types (Kd.R_mono HO_11.out (fun k_ hk => (⟨hk, hk.2⟩ : _ ∧ k_ ≠ gb184))) BK164.out (by decide)) (fun _ hk => hk.1.2) (.bool false)) (fun _ hk => hk.1.2) (.int .i64 0)) (fun _ hk => hk.1.2) (.bool ((bt a3 x30_1) == 84))) (fun _ hk => hk.2) (.int .i64 (wrap64 (Int.tdiv x165001_1 2)))) (fun _ hk => hk.1.2) (.int .i64 (wrap64 (Int.tdiv x165001_1 2)))) (fun _ hk => hk.1.1.2)⟩
                    have n1_ : Aside0 (Kd.R k24 24 (((((w67.setCell ⟨gb184, 0, none⟩ (.bool false)).setCell ⟨gb184, 1, none⟩ (.int .i64 0)).setCell ⟨gb184, 2, none⟩ (.bool ((bt a3 x30_1) == 84))).setCell ⟨gb164, 1, none⟩ (.int .i64 (wrap64 (Int.tdiv x165001_1 2)))).setCell ⟨gb184, 1, none⟩ (.int .i64 (wrap64 (Int.tdiv x165001_1 2)))) w.heap.size (fun k_ => k_ ≠ gb163 ∧ k_ ≠ gb164) (.slice Ao74 x12_1.length co74) x12_1) := ⟨by (with_reducible repeat (first | apply Kd.R_alloc | apply Kd.R_drewN | apply Kd.R_drew)); exact Kd.R_mono (Kd.R_far (p := ⟨gb184, 1, none⟩) (Kd.R_far (p := ⟨gb164, 1, none⟩) (Kd.R_far (p := ⟨gb184, 2, none⟩) (Kd.R_far (p := ⟨gb184, 1, none⟩) (Kd.R_far (p := ⟨gb184, 0, none⟩) (Kd.R_mono (Kd.R_types HO_12.out BK184.out (by decide)) (fun k_ hk => (⟨hk, hk.1.2⟩ : _ ∧ k_ ≠ gb164))) (fun _ hk => hk.1.2) (.bool false)) (fun _ hk => hk.1.2) (.int .i64 0)) (fun _ hk => hk.1.2) (.bool ((bt a3 x30_1) == 84))) (fun _ hk => hk.2) (.int .i64 (wrap64 (Int.tdiv x165001_1 2)))) (fun _ hk => hk.1.2) (.int .i64 (wrap64 (Int.tdiv x165001_1 2)))) (fun _ hk => ⟨hk.1.1.1, hk.1.1.2⟩)⟩
                    have n2_ : Aside0 ((((((w67.setCell ⟨gb184, 0, none⟩ (.bool false)).setCell ⟨gb184, 1, none⟩ (.int .i64 0)).setCell ⟨gb184, 2, none⟩ (.bool ((bt a3 x30_1) == 84))).setCell ⟨gb164, 1, none⟩ (.int .i64 (wrap64 (Int.tdiv x165001_1 2)))).setCell ⟨gb184, 1, none⟩ (.int .i64 (wrap64 (Int.tdiv x165001_1 2)))).heap[gb163]? = some (.cells #[.int .i64 a2_0, .int .i64 a2_1] 24 (0, 0))) := ⟨by (with_reducible repeat (first | refine blk_drewN ?_ _ | refine blk_drew ?_ | refine blk_alloc ?_ _)); refine blk_far ?_ NB163_184.out _; (with_reducible repeat (first | refine blk_drewN ?_ _ | refine blk_drew ?_ | refine blk_alloc ?_ _)); refine blk_far ?_ NB163_164.out _; (with_reducible repeat (first | refine blk_drewN ?_ _ | refine blk_drew ?_ | refine blk_alloc ?_ _)); refine blk_far ?_ NB163_184.out _; (with_reducible repeat (first | refine blk_drewN ?_ _ | refine blk_drew ?_ | refine blk_alloc ?_ _)); refine blk_far ?_ NB163_184.out _; (with_reducible repeat (first | refine blk_drewN ?_ _ | refine blk_drew ?_ | refine blk_alloc ?_ _)); refine blk_far ?_ NB163_184.out _; (with_reducible repeat (first | refine blk_drewN ?_ _ | refine blk_drew ?_ | refine blk_alloc ?_ _)); exact BK163.out⟩
                    have n3_ : Aside0 ((((((w67.setCell ⟨gb184, 0, none⟩ (.bool false)).setCell ⟨gb184, 1, none⟩ (.int .i64 0)).setCell ⟨gb184, 2, none⟩ (.bool ((bt a3 x30_1) == 84))).setCell ⟨gb164, 1, none⟩ (.int .i64 (wrap64 (Int.tdiv x165001_1 2)))).setCell ⟨gb184, 1, none⟩ (.int .i64 (wrap64 (Int.tdiv x165001_1 2)))).heap[gb164]? = some (.cells #[.int .i64 x165000_1, .int .i64 (wrap64 (Int.tdiv x165001_1 2))] 24 (0, 0))) := ⟨by (with_reducible repeat (first | refine blk_drewN ?_ _ | refine blk_drew ?_ | refine blk_alloc ?_ _)); refine blk_far ?_ NB164_184.out _; (with_reducible repeat (first | refine blk_drewN ?_ _ | refine blk_drew ?_ | refine blk_alloc ?_ _)); refine blk_put (cs := #[.int .i64 x165000_1, .int .i64 x165001_1]) ?_ 1 _ rfl; (with_reducible repeat (first | refine blk_drewN ?_ _ | refine blk_drew ?_ | refine blk_alloc ?_ _)); refine blk_far ?_ NB164_184.out _; (with_reducible repeat (first | refine blk_drewN ?_ _ | refine blk_drew ?_ | refine blk_alloc ?_ _)); refine blk_far ?_ NB164_184.out _; (with_reducible repeat (first | refine blk_drewN ?_ _ | refine blk_drew ?_ | refine blk_alloc ?_ _)); refine blk_far ?_ NB164_184.out _; (with_reducible repeat (first | refine blk_drewN ?_ _ | refine blk_drew ?_ | refine blk_alloc ?_ _)); exact BK164.out⟩
                    have n4_ : Aside0 ((((((w67.setCell ⟨gb184, 0, none⟩ (.bool false)).setCell ⟨gb184, 1, none⟩ (.int .i64 0)).setCell ⟨gb184, 2, none⟩ (.bool ((bt a3 x30_1) == 84))).setCell ⟨gb164, 1, none⟩ (.int .i64 (wrap64 (Int.tdiv x165001_1 2)))).setCell ⟨gb184, 1, none⟩ (.int .i64 (wrap64 (Int.tdiv x165001_1 2)))).heap[gb184]? = some (.cells #[.bool false, .int .i64 (wrap64 (Int.tdiv x165001_1 2)), .bool ((bt a3 x30_1) == 84)] 56 (0, 0))) := ⟨by (with_reducible repeat (first | refine blk_drewN ?_ _ | refine blk_drew ?_ | refine blk_alloc ?_ _)); refine blk_put (cs := #[.bool false, .int .i64 0, .bool ((bt a3 x30_1) == 84)]) ?_ 1 _ rfl; (with_reducible repeat (first | refine blk_drewN ?_ _ | refine blk_drew ?_ | refine blk_alloc ?_ _)); refine blk_far ?_ NB184_164.out _; (with_reducible repeat (first | refine blk_drewN ?_ _ | refine blk_drew ?_ | refine blk_alloc ?_ _)); refine blk_put (cs := #[.bool false, .int .i64 0, .bool false]) ?_ 2 _ rfl; (with_reducible repeat (first | refine blk_drewN ?_ _ | refine blk_drew ?_ | refine blk_alloc ?_ _)); refine blk_put (cs := #[.bool false, .int .i64 0, .bool false]) ?_ 1 _ rfl; (with_reducible repeat (first | refine blk_drewN ?_ _ | refine blk_drew ?_ | refine blk_alloc ?_ _)); refine blk_put (cs := #[.bool false, .int .i64 0, .bool false]) ?_ 0 _ rfl; (with_reducible repeat (first | refine blk_drewN ?_ _ | refine blk_drew ?_ | refine blk_alloc ?_ _)); exact BK184.out⟩
                    have n5_ : Aside0 (Below w.heap.size w (((((w67.setCell ⟨gb184, 0, none⟩ (.bool false)).setCell ⟨gb184, 1, none⟩ (.int .i64 0)).setCell ⟨gb184, 2, none⟩ (.bool ((bt a3 x30_1) == 84))).setCell ⟨gb164, 1, none⟩ (.int .i64 (wrap64 (Int.tdiv x165001_1 2)))).setCell ⟨gb184, 1, none⟩ (.int .i64 (wrap64 (Int.tdiv x165001_1 2))))) := ⟨by repeat (first | (with_reducible first | exact HB.out | apply below_alloc | apply pw_below_drewN | apply below_drew1 | refine below_set ?_ GE163.out | refine below_set ?_ GE164.out | refine below_set ?_ GE184.out) | exact HB.out)⟩
                    (try clear HO_11)
                    (try clear HO_12)
                    (try clear BK163)
                    (try clear BK164)
                    (try clear BK184)
                    (try clear HB)
                    generalize (((((w67.setCell ⟨gb184, 0, none⟩ (.bool false)).setCell ⟨gb184, 1, none⟩ (.int .i64 0)).setCell ⟨gb184, 2, none⟩ (.bool ((bt a3 x30_1) == 84))).setCell ⟨gb164, 1, none⟩ (.int .i64 (wrap64 (Int.tdiv x165001_1 2)))).setCell ⟨gb184, 1, none⟩ (.int .i64 (wrap64 (Int.tdiv x165001_1 2)))) = w75 at n0_ n1_ n2_ n3_ n4_ n5_ ⊢
                    have HO_11 := n0_
                    have HO_12 := n1_
                    have BK163 := n2_
                    have BK164 := n3_
                    have BK184 := n4_
                    have HB := n5_
                    clear n0_ n1_ n2_ n3_ n4_ n5_
                    have n0_ := Aside0.mk (Kd.R_drew HO_11.out)
                    have n1_ := Aside0.mk (Kd.R_drew HO_12.out)
                    have n2_ := Aside0.mk (blk_drew BK163.out)
                    have n3_ := Aside0.mk (blk_drew BK164.out)
                    have n4_ := Aside0.mk (blk_drew BK184.out)
                    have n5_ := Aside0.mk (below_drew1 HB.out)
                    clear HO_11
                    clear HO_12
                    clear BK163
                    clear BK164
                    clear BK184
                    clear HB
                    have HO_11 := n0_
                    have HO_12 := n1_
                    have BK163 := n2_
                    have BK164 := n3_
                    have BK184 := n4_
                    have HB := n5_
                    clear n0_ n1_ n2_ n3_ n4_ n5_
                    refine start_ (n := 10) (S := fun w' => w'.cell? ⟨gb184, 0, none⟩ = some (.bool false) ∧ w'.cell? ⟨gb184, 1, none⟩ = some (.int .i64 (wrap64 (Int.tdiv x165001_1 2))) ∧ w'.cell? ⟨gb184, 2, none⟩ = some (.bool ((bt a3 x30_1) == 84)) ∧ w'.cell? ⟨gb164, 0, none⟩ = some (.int .i64 x165000_1) ∧ w'.cell? ⟨gb164, 1, none⟩ = some (.int .i64 (wrap64 (Int.tdiv x165001_1 2)))) (ds := []) #[false, false, false, false, false, false, false, false, false, false] (by kernel_rfl) rfl rfl ⟨(blk_cell BK184.out 0).trans rfl, (blk_cell BK184.out 1).trans rfl, (blk_cell BK184.out 2).trans rfl, (blk_cell BK164.out 0).trans rfl, (blk_cell BK164.out 1).trans rfl⟩ (fun hHeld => ?_); refine with_tabW impl_setupOf.tab13 impl_setupOf.bits13 (fun HT_ HW_ => ?_)
                    generalize w75.drew = w76 at HO_11 HO_12 BK163 BK164 BK184 HB hHeld ⊢
                    refine pure_ (i := 0) (N := some 65) (v := ?_) (a' := ?_) #[true, false, false, false, false, false, false, false, false, false] rfl rfl (any_of HT_.out (by kernel_rfl)) (fun _ _ _ h => h) (Or.inl ⟨by rfl, ?_⟩) ?_ ?_
                    rotate_left
                    · intro w'
                      go_simp
                      with_reducible rfl
                    rotate_left
                    · simp only [Act.put, List.setIfInBounds_toArray, List.set_cons_zero, List.set_cons_succ, i64_w, i32_w]
                      rfl
                    refine pure_ (i := 4) (N := some 69) (v := ?_) (a' := ?_) #[true, false, false, false, true, false, false, false, false, false] rfl rfl (any_of HT_.out (by kernel_rfl)) (fun _ _ _ h => h) (Or.inl ⟨by rfl, ?_⟩) ?_ ?_
                    rotate_left
                    · intro w'
                      go_simp
                      with_reducible rfl
                    rotate_left
                    · simp only [Act.put, List.setIfInBounds_toArray, List.set_cons_zero, List.set_cons_succ, i64_w, i32_w]
                      rfl
                    refine take_ (i := 1) (N := some 66) (v := ?_) (a' := ?_) #[true, true, false, false, true, false, false, false, false, false] rfl rfl (take_ofW HT_.out HW_.out (by kernel_rfl)) (fun _ _ _ h => h) (Or.inl ⟨by rfl, ?_⟩) hHeld ?_ ?_
                    rotate_left
                    · rintro w' ⟨s0, s1, s2, s3, s4⟩
                      go_simp
                      with_reducible rfl
                    rotate_left
                    · simp only [Act.put, List.setIfInBounds_toArray, List.set_cons_zero, List.set_cons_succ, i64_w, i32_w]
                      rfl
                    refine take_ (i := 5) (N := some 70) (v := ?_) (a' := ?_) #[true, true, false, false, true, true, false, false, false, false] rfl rfl (take_ofW HT_.out HW_.out (by kernel_rfl)) (fun _ _ _ h => h) (Or.inl ⟨by rfl, ?_⟩) hHeld ?_ ?_
                    rotate_left
                    · rintro w' ⟨s0, s1, s2, s3, s4⟩
                      go_simp
                      with_reducible rfl
                    rotate_left
                    · simp only [Act.put, List.setIfInBounds_toArray, List.set_cons_zero, List.set_cons_succ, i64_w, i32_w]
                      rfl
                    refine join_ (σ := Value × Value × Value) 3 #[true, true, true, true, true, true, true, false, false, false] (fun s_ => [(67, s_.1), (68, s_.2.1), (71, s_.2.2)]) (fun s_ w' => (w'.cell? ⟨gb184, 0, none⟩ = some (.bool false) ∧ w'.cell? ⟨gb184, 1, none⟩ = some (.int .i64 (wrap64 (Int.tdiv x165001_1 2))) ∧ w'.cell? ⟨gb184, 2, none⟩ = some (.bool ((bt a3 x30_1) == 84)) ∧ w'.cell? ⟨gb164, 0, none⟩ = some (.int .i64 x165000_1) ∧ w'.cell? ⟨gb164, 1, none⟩ = some (.int .i64 (wrap64 (Int.tdiv x165001_1 2)))) ∧ (Kd.R k56 56 w' w.heap.size (fun k_ => some k_ ≠ (s_.2.1 : Value).ownBlock ∧ k_ ≠ gb184) s_.1 y197) ∧ (Kd.R k56 56 w' w.heap.size (fun k_ => some k_ ≠ (s_.1 : Value).ownBlock ∧ k_ ≠ gb184) s_.2.1 y200) ∧ (Kd.R k24 24 w' w.heap.size (fun k_ => some k_ ≠ (.slice Ao74 x12_1.length co74 : Value).ownBlock ∧ k_ ≠ gb163 ∧ k_ ≠ gb164) s_.2.2 y203) ∧ (Kd.R k24 24 w' w.heap.size (fun k_ => some k_ ≠ (s_.2.2 : Value).ownBlock ∧ k_ ≠ gb163 ∧ k_ ≠ gb164) (.slice Ao74 x12_1.length co74) x12_1) ∧ (w'.heap[gb163]? = some (.cells #[.int .i64 a2_0, .int .i64 a2_1] 24 (0, 0))) ∧ (w'.heap[gb164]? = some (.cells #[.int .i64 x165000_1, .int .i64 (wrap64 (Int.tdiv x165001_1 2))] 24 (0, 0))) ∧ (w'.heap[gb184]? = some (.cells #[.bool false, .int .i64 (wrap64 (Int.tdiv x165001_1 2)), .bool ((bt a3 x30_1) == 84)] 56 (0, 0))) ∧ (Below w.heap.size w w')) ?_ ?_
                    rotate_left
                    · intro hCont
                      refine two_ (i := 2) (j := 6) (Ni := some 67) (Nj := some 71) #[true, true, true, false, true, true, false, false, false, false] #[true, true, false, false, true, true, true, false, false, false] rfl rfl rfl rfl (two_of HT_.out (by kernel_rfl)) (by decide) (by decide) (fun K hK => ?_) (fun K hK => ?_)
                      · skip
                        refine Kd.R_lit_step k56 _ 56 ?hg (N := 67) ?hd (xs := ([(⟨false, wrap64 (Int.tdiv x165001_1 2), ((bt a3 x30_1) == 84)⟩ : S56)] : List (S56))) (inner := [.bool false, .int .i64 (wrap64 (Int.tdiv x165001_1 2)), .bool ((bt a3 x30_1) == 84)]) (ok := fun _ => True) (okp := fun _ => True) ?hr ?hp (fun _ hk => hk) trivial (Below.refl _ _) (Nat.le_refl _) (by simp) ?_; (case hd => rfl); (case hg => rfl); (case hr => first | (go_simp; done) | (go_simp; rfl)); (case hp => exact (Reps.c3 (show Kd.M k56 _ _ _ (⟨false, wrap64 (Int.tdiv x165001_1 2), ((bt a3 x30_1) == 84)⟩ : S56) [.bool false, .int .i64 (wrap64 (Int.tdiv x165001_1 2)), .bool ((bt a3 x30_1) == 84)] from (k56_mkM _ _ _ (⟨false, wrap64 (Int.tdiv x165001_1 2), ((bt a3 x30_1) == 84)⟩ : S56) )) (Reps.none _ _)))
                        intro v198 w77 ho78 hb hg_ hnew_
                        clear hg_ hnew_
                        (first | rw [← Ny197.out] at ho78 | (simp only [Int.reduceToNat] at ho78; rw [← Ny197.out] at ho78))
                        have n0_ := Aside0.mk (Kd.R_elder' (by (with_reducible repeat (first | apply Kd.R_alloc | apply Kd.R_drewN | apply Kd.R_drew)); exact HO_11.out) (Kd.R_base ho78) hb)
                        have n1_ := Aside0.mk (Kd.R_below (by (with_reducible repeat (first | apply Kd.R_alloc | apply Kd.R_drewN | apply Kd.R_drew)); exact HO_12.out) hb)
                        have n2_ := Aside0.mk (Kd.R_lower (Kd.R_newB (Kd.R_new' ho78 (Kd.R_lt (by (with_reducible repeat (first | apply Kd.R_alloc | apply Kd.R_drewN | apply Kd.R_drew)); exact HO_11.out))) (g := gb184) (o := .cells #[.bool false, .int .i64 (wrap64 (Int.tdiv x165001_1 2)), .bool ((bt a3 x30_1) == 84)] 56 (0, 0)) (by (with_reducible repeat (first | refine blk_drewN ?_ _ | refine blk_drew ?_ | refine blk_alloc ?_ _)); exact BK184.out)) (below_size (by repeat (first | (with_reducible first | exact HB.out | apply below_alloc | apply pw_below_drewN | apply below_drew1 | refine below_set ?_ GE163.out | refine below_set ?_ GE164.out | refine below_set ?_ GE184.out) | exact HB.out))))
                        have n3_ := Aside0.mk (blk_below (g := gb163) (o := .cells #[.int .i64 a2_0, .int .i64 a2_1] 24 (0, 0)) (by (with_reducible repeat (first | refine blk_drewN ?_ _ | refine blk_drew ?_ | refine blk_alloc ?_ _)); exact BK163.out) hb)
                        have n4_ := Aside0.mk (blk_below (g := gb164) (o := .cells #[.int .i64 x165000_1, .int .i64 (wrap64 (Int.tdiv x165001_1 2))] 24 (0, 0)) (by (with_reducible repeat (first | refine blk_drewN ?_ _ | refine blk_drew ?_ | refine blk_alloc ?_ _)); exact BK164.out) hb)
                        have n5_ := Aside0.mk (blk_below (g := gb184) (o := .cells #[.bool false, .int .i64 (wrap64 (Int.tdiv x165001_1 2)), .bool ((bt a3 x30_1) == 84)] 56 (0, 0)) (by (with_reducible repeat (first | refine blk_drewN ?_ _ | refine blk_drew ?_ | refine blk_alloc ?_ _)); exact BK184.out) hb)
                        have n6_ := Aside0.mk (below_step (by repeat (first | (with_reducible first | exact HB.out | apply below_alloc | apply pw_below_drewN | apply below_drew1 | refine below_set ?_ GE163.out | refine below_set ?_ GE164.out | refine below_set ?_ GE184.out) | exact HB.out)) hb)
                        clear HO_11
                        clear HO_12
                        clear BK163
                        clear BK164
                        clear BK184
                        clear HB
                        have HO_11 := n0_
                        have HO_12 := n1_
                        have HO199 := n2_
                        have BK163 := n3_
                        have BK164 := n4_
                        have BK184 := n5_
                        have HB := n6_
                        clear n0_ n1_ n2_ n3_ n4_ n5_ n6_
                        clear hb ho78
                        obtain ⟨Ao80, co80, eo80⟩ := Kd.R_slice HO199.out
                        (first | subst eo80 | (injection eo80 with f1_ f2_ f3_; have f4_ := f1_.symm; have f5_ := f3_.symm; clear f1_ f2_ f3_; subst f4_; subst f5_))
                        refine hK.out _ _ ⟨(blk_cell BK184.out 0).trans rfl, (blk_cell BK184.out 1).trans rfl, (blk_cell BK184.out 2).trans rfl, (blk_cell BK164.out 0).trans rfl, (blk_cell BK164.out 1).trans rfl⟩ (fun hHeld => ?_)
                        clear hK K
                        refine norm_ (a' := ?_) ?_ ?_
                        rotate_left
                        · show Act.put _ (some 67) _ = _
                          simp only [Act.put, List.setIfInBounds_toArray, List.set_cons_zero, List.set_cons_succ, i64_w, i32_w]
                          rfl
                        refine two_ (i := 3) (j := 6) (Ni := some 68) (Nj := some 71) #[true, true, true, true, true, true, false, false, false, false] #[true, true, true, false, true, true, true, false, false, false] rfl rfl rfl rfl (two_of HT_.out (by kernel_rfl)) (by decide) (by decide) (fun K hK => ?_) (fun K hK => ?_)
                        · skip
                          refine Kd.R_append_rows_step k56 (w0 := w) w.heap.size (by rfl) (.tmp 65) (.tmp 67) 30 56 (.agg #[(.bool false), (.int .i64 0), (.bool false)]) 24 rfl Tryd.underlying30 info56 rfl (by decide) (by omega) (.slice Ao73 x11_1.length co73) x11_1 y197 _ _ _ (fun k_ => some k_ ≠ (.slice Ao80 y197.length co80 : Value).ownBlock ∧ k_ ≠ gb184) (fun _ => False) rfl rfl ?aO ?aR (fun _ _ h => h) (fun _ h => h.elim) ?aF ?aB ?aS ?aL ?_
                          (case aR => repeat (first | exact (Kd.R_reads' HO199.out).2.2 | (with_reducible refine Kd.C_alloc ?_ _) | (with_reducible refine Kd.C_drewN ?_ _) | (with_reducible refine Kd.C_drew ?_)))
                          (case aB => exact (by repeat (first | (with_reducible first | exact HB.out | apply below_alloc | apply pw_below_drewN | apply below_drew1 | refine below_set ?_ GE163.out | refine below_set ?_ GE164.out | refine below_set ?_ GE184.out) | exact HB.out)))
                          (case aF => exact (fun k_ hk => ⟨Kd.fresh' (Kd.R_lt (by (with_reducible repeat (first | apply Kd.R_alloc | apply Kd.R_drewN | apply Kd.R_drew)); exact HO199.out)) k_ hk, Kd.freshB (g := gb184) (o := .cells #[.bool false, .int .i64 (wrap64 (Int.tdiv x165001_1 2)), .bool ((bt a3 x30_1) == 84)] 56 (0, 0)) (by (with_reducible repeat (first | refine blk_drewN ?_ _ | refine blk_drew ?_ | refine blk_alloc ?_ _)); exact BK184.out) k_ hk⟩))
                          (case aO => exact (by (with_reducible repeat (first | apply Kd.R_alloc | apply Kd.R_drewN | apply Kd.R_drew)); exact Kd.R_mono HO_11.out (fun _ hk => ⟨hk.2, hk.1⟩)))
                          (case aS => exact (below_size (by repeat (first | (with_reducible first | exact HB.out | apply below_alloc | apply pw_below_drewN | apply below_drew1 | refine below_set ?_ GE163.out | refine below_set ?_ GE164.out | refine below_set ?_ GE184.out) | exact HB.out))))
                          (case aL => have := LMc65.out; omega)
                          intro v201 w79 ho hb hg hat
                          rw [← Ny200.out] at ho
                          have n0_ := Aside0.mk (Kd.R_over' (by (with_reducible repeat (first | apply Kd.R_alloc | apply Kd.R_drewN | apply Kd.R_drew)); exact HO_12.out) (Kd.R_typed (by (with_reducible repeat (first | apply Kd.R_alloc | apply Kd.R_drewN | apply Kd.R_drew)); exact HO_11.out)) (by decide) hg)
                          have n1_ := Aside0.mk (blk_grown (g := gb163) (o := .cells #[.int .i64 a2_0, .int .i64 a2_1] 24 (0, 0)) (by (with_reducible repeat (first | refine blk_drewN ?_ _ | refine blk_drew ?_ | refine blk_alloc ?_ _)); exact BK163.out) hg (Kd.R_ne HO_11.out BK163.out (by decide)))
                          have n2_ := Aside0.mk (blk_grown (g := gb164) (o := .cells #[.int .i64 x165000_1, .int .i64 (wrap64 (Int.tdiv x165001_1 2))] 24 (0, 0)) (by (with_reducible repeat (first | refine blk_drewN ?_ _ | refine blk_drew ?_ | refine blk_alloc ?_ _)); exact BK164.out) hg (Kd.R_ne HO_11.out BK164.out (by decide)))
                          have n3_ := Aside0.mk (blk_grown (g := gb184) (o := .cells #[.bool false, .int .i64 (wrap64 (Int.tdiv x165001_1 2)), .bool ((bt a3 x30_1) == 84)] 56 (0, 0)) (by (with_reducible repeat (first | refine blk_drewN ?_ _ | refine blk_drew ?_ | refine blk_alloc ?_ _)); exact BK184.out) hg (Kd.R_away HO_11.out (fun _ hk => hk.1)))
                          have n4_ := Aside0.mk (Kd.R_after (ok := (fun k_ => k_ ≠ gb184)) (by (with_reducible repeat (first | apply Kd.R_alloc | apply Kd.R_drewN | apply Kd.R_drew)); exact Kd.R_mono HO199.out (fun _ hk => ⟨hk.2, hk.1.2⟩)) hg hat)
                          have n5_ := Aside0.mk (hb)
                          have n6_ := Aside0.mk (ho)
                          clear HO_12
                          clear BK163
                          clear BK164
                          clear BK184
                          clear HO199
                          clear HB
                          clear HO_11
                          have HO_12 := n0_
                          have BK163 := n1_
                          have BK164 := n2_
                          have BK184 := n3_
                          have HO199 := n4_
                          have HB := n5_
                          have HO202 := n6_
                          clear n0_ n1_ n2_ n3_ n4_ n5_ n6_
                          clear ho hb hg hat
                          refine hK.out _ _ ⟨(blk_cell BK184.out 0).trans rfl, (blk_cell BK184.out 1).trans rfl, (blk_cell BK184.out 2).trans rfl, (blk_cell BK164.out 0).trans rfl, (blk_cell BK164.out 1).trans rfl⟩ (fun hHeld => ?_)
                          clear hK K
                          refine norm_ (a' := ?_) ?_ ?_
                          rotate_left
                          · show Act.put _ (some 68) _ = _
                            simp only [Act.put, List.setIfInBounds_toArray, List.set_cons_zero, List.set_cons_succ, i64_w, i32_w]
                            rfl
                          refine one_ (i := 6) (N := some 71) #[true, true, true, true, true, true, true, false, false, false] rfl rfl (one_of HT_.out (by kernel_rfl)) (by decide) (fun K hK => ?_)
                          refine Kd.R_lit_step k24 _ 24 ?hg (N := 71) ?hd (xs := ([(⟨x165000_1, wrap64 (Int.tdiv x165001_1 2)⟩ : S24)] : List (S24))) (inner := [.int .i64 x165000_1, .int .i64 (wrap64 (Int.tdiv x165001_1 2))]) (ok := fun _ => True) (okp := fun _ => True) ?hr ?hp (fun _ hk => hk) trivial (Below.refl _ _) (Nat.le_refl _) (by simp) ?_; (case hd => rfl); (case hg => rfl); (case hr => first | (go_simp; done) | (go_simp; rfl)); (case hp => exact (Reps.c2 (show Kd.M k24 _ _ _ (⟨x165000_1, wrap64 (Int.tdiv x165001_1 2)⟩ : S24) [.int .i64 x165000_1, .int .i64 (wrap64 (Int.tdiv x165001_1 2))] from (k24_mkM _ _ _ (⟨x165000_1, wrap64 (Int.tdiv x165001_1 2)⟩ : S24) )) (Reps.none _ _)))
                          intro v204 w81 ho82 hb hg_ hnew_
                          clear hg_ hnew_
                          (first | rw [← Ny203.out] at ho82 | (simp only [Int.reduceToNat] at ho82; rw [← Ny203.out] at ho82))
                          have n0_ := Aside0.mk (Kd.R_elder' (by (with_reducible repeat (first | apply Kd.R_alloc | apply Kd.R_drewN | apply Kd.R_drew)); exact HO_12.out) (Kd.R_base ho82) hb)
                          have n1_ := Aside0.mk (Kd.R_below (by (with_reducible repeat (first | apply Kd.R_alloc | apply Kd.R_drewN | apply Kd.R_drew)); exact HO199.out) hb)
                          have n2_ := Aside0.mk (Kd.R_below (by (with_reducible repeat (first | apply Kd.R_alloc | apply Kd.R_drewN | apply Kd.R_drew)); exact HO202.out) hb)
                          have n3_ := Aside0.mk (Kd.R_lower (Kd.R_newB (Kd.R_newB (Kd.R_new' ho82 (Kd.R_lt (by (with_reducible repeat (first | apply Kd.R_alloc | apply Kd.R_drewN | apply Kd.R_drew)); exact HO_12.out))) (g := gb163) (o := .cells #[.int .i64 a2_0, .int .i64 a2_1] 24 (0, 0)) (by (with_reducible repeat (first | refine blk_drewN ?_ _ | refine blk_drew ?_ | refine blk_alloc ?_ _)); exact BK163.out)) (g := gb164) (o := .cells #[.int .i64 x165000_1, .int .i64 (wrap64 (Int.tdiv x165001_1 2))] 24 (0, 0)) (by (with_reducible repeat (first | refine blk_drewN ?_ _ | refine blk_drew ?_ | refine blk_alloc ?_ _)); exact BK164.out)) (below_size (by repeat (first | (with_reducible first | exact HB.out | apply below_alloc | apply pw_below_drewN | apply below_drew1 | refine below_set ?_ GE163.out | refine below_set ?_ GE164.out | refine below_set ?_ GE184.out) | exact HB.out))))
                          have n4_ := Aside0.mk (blk_below (g := gb163) (o := .cells #[.int .i64 a2_0, .int .i64 a2_1] 24 (0, 0)) (by (with_reducible repeat (first | refine blk_drewN ?_ _ | refine blk_drew ?_ | refine blk_alloc ?_ _)); exact BK163.out) hb)
                          have n5_ := Aside0.mk (blk_below (g := gb164) (o := .cells #[.int .i64 x165000_1, .int .i64 (wrap64 (Int.tdiv x165001_1 2))] 24 (0, 0)) (by (with_reducible repeat (first | refine blk_drewN ?_ _ | refine blk_drew ?_ | refine blk_alloc ?_ _)); exact BK164.out) hb)
                          have n6_ := Aside0.mk (blk_below (g := gb184) (o := .cells #[.bool false, .int .i64 (wrap64 (Int.tdiv x165001_1 2)), .bool ((bt a3 x30_1) == 84)] 56 (0, 0)) (by (with_reducible repeat (first | refine blk_drewN ?_ _ | refine blk_drew ?_ | refine blk_alloc ?_ _)); exact BK184.out) hb)
                          have n7_ := Aside0.mk (below_step (by repeat (first | (with_reducible first | exact HB.out | apply below_alloc | apply pw_below_drewN | apply below_drew1 | refine below_set ?_ GE163.out | refine below_set ?_ GE164.out | refine below_set ?_ GE184.out) | exact HB.out)) hb)
                          clear HO_12
                          clear HO199
                          clear HO202
                          clear BK163
                          clear BK164
                          clear BK184
                          clear HB
                          have HO_12 := n0_
                          have HO199 := n1_
                          have HO202 := n2_
                          have HO205 := n3_
                          have BK163 := n4_
                          have BK164 := n5_
                          have BK184 := n6_
                          have HB := n7_
                          clear n0_ n1_ n2_ n3_ n4_ n5_ n6_ n7_
                          clear hb ho82
                          refine hK.out _ _ ⟨(blk_cell BK184.out 0).trans rfl, (blk_cell BK184.out 1).trans rfl, (blk_cell BK184.out 2).trans rfl, (blk_cell BK164.out 0).trans rfl, (blk_cell BK164.out 1).trans rfl⟩ (fun hHeld => ?_)
                          clear hK K
                          refine norm_ (a' := ?_) ?_ ?_
                          rotate_left
                          · show Act.put _ (some 71) _ = _
                            simp only [Act.put, List.setIfInBounds_toArray, List.set_cons_zero, List.set_cons_succ, i64_w, i32_w]
                            rfl
                          exact norm_ (by simp only [putAll, Act.put, List.setIfInBounds_toArray, List.set_cons_zero, List.set_cons_succ]) (hCont (.slice Ao80 y197.length co80, v201, v204) _ ⟨hHeld, (by (with_reducible repeat (first | apply Kd.R_alloc | apply Kd.R_drewN | apply Kd.R_drew)); exact Kd.R_mono HO199.out (fun _ hk => ⟨hk.2, hk.1⟩)), (by (with_reducible repeat (first | apply Kd.R_alloc | apply Kd.R_drewN | apply Kd.R_drew)); exact HO202.out), (by (with_reducible repeat (first | apply Kd.R_alloc | apply Kd.R_drewN | apply Kd.R_drew)); exact Kd.R_mono HO205.out (fun _ hk => ⟨hk.1.1.2, ⟨hk.1.2, hk.2⟩⟩)), (by (with_reducible repeat (first | apply Kd.R_alloc | apply Kd.R_drewN | apply Kd.R_drew)); exact Kd.R_mono HO_12.out (fun _ hk => ⟨hk.2, ⟨hk.1.1, hk.1.2⟩⟩)), (by (with_reducible repeat (first | refine blk_drewN ?_ _ | refine blk_drew ?_ | refine blk_alloc ?_ _)); exact BK163.out), (by (with_reducible repeat (first | refine blk_drewN ?_ _ | refine blk_drew ?_ | refine blk_alloc ?_ _)); exact BK164.out), (by (with_reducible repeat (first | refine blk_drewN ?_ _ | refine blk_drew ?_ | refine blk_alloc ?_ _)); exact BK184.out), (by repeat (first | (with_reducible first | exact HB.out | apply below_alloc | apply pw_below_drewN | apply below_drew1 | refine below_set ?_ GE163.out | refine below_set ?_ GE164.out | refine below_set ?_ GE184.out) | exact HB.out))⟩)
                        · skip
                          refine Kd.R_lit_step k24 _ 24 ?hg (N := 71) ?hd (xs := ([(⟨x165000_1, wrap64 (Int.tdiv x165001_1 2)⟩ : S24)] : List (S24))) (inner := [.int .i64 x165000_1, .int .i64 (wrap64 (Int.tdiv x165001_1 2))]) (ok := fun _ => True) (okp := fun _ => True) ?hr ?hp (fun _ hk => hk) trivial (Below.refl _ _) (Nat.le_refl _) (by simp) ?_; (case hd => rfl); (case hg => rfl); (case hr => first | (go_simp; done) | (go_simp; rfl)); (case hp => exact (Reps.c2 (show Kd.M k24 _ _ _ (⟨x165000_1, wrap64 (Int.tdiv x165001_1 2)⟩ : S24) [.int .i64 x165000_1, .int .i64 (wrap64 (Int.tdiv x165001_1 2))] from (k24_mkM _ _ _ (⟨x165000_1, wrap64 (Int.tdiv x165001_1 2)⟩ : S24) )) (Reps.none _ _)))
                          intro v204 w79 ho80 hb hg_ hnew_
                          clear hg_ hnew_
                          (first | rw [← Ny203.out] at ho80 | (simp only [Int.reduceToNat] at ho80; rw [← Ny203.out] at ho80))
                          have n0_ := Aside0.mk (Kd.R_below (by (with_reducible repeat (first | apply Kd.R_alloc | apply Kd.R_drewN | apply Kd.R_drew)); exact HO_11.out) hb)
                          have n1_ := Aside0.mk (Kd.R_elder' (by (with_reducible repeat (first | apply Kd.R_alloc | apply Kd.R_drewN | apply Kd.R_drew)); exact HO_12.out) (Kd.R_base ho80) hb)
                          have n2_ := Aside0.mk (Kd.R_below (by (with_reducible repeat (first | apply Kd.R_alloc | apply Kd.R_drewN | apply Kd.R_drew)); exact HO199.out) hb)
                          have n3_ := Aside0.mk (Kd.R_lower (Kd.R_newB (Kd.R_newB (Kd.R_new' ho80 (Kd.R_lt (by (with_reducible repeat (first | apply Kd.R_alloc | apply Kd.R_drewN | apply Kd.R_drew)); exact HO_12.out))) (g := gb163) (o := .cells #[.int .i64 a2_0, .int .i64 a2_1] 24 (0, 0)) (by (with_reducible repeat (first | refine blk_drewN ?_ _ | refine blk_drew ?_ | refine blk_alloc ?_ _)); exact BK163.out)) (g := gb164) (o := .cells #[.int .i64 x165000_1, .int .i64 (wrap64 (Int.tdiv x165001_1 2))] 24 (0, 0)) (by (with_reducible repeat (first | refine blk_drewN ?_ _ | refine blk_drew ?_ | refine blk_alloc ?_ _)); exact BK164.out)) (below_size (by repeat (first | (with_reducible first | exact HB.out | apply below_alloc | apply pw_below_drewN | apply below_drew1 | refine below_set ?_ GE163.out | refine below_set ?_ GE164.out | refine below_set ?_ GE184.out) | exact HB.out))))
                          have n4_ := Aside0.mk (blk_below (g := gb163) (o := .cells #[.int .i64 a2_0, .int .i64 a2_1] 24 (0, 0)) (by (with_reducible repeat (first | refine blk_drewN ?_ _ | refine blk_drew ?_ | refine blk_alloc ?_ _)); exact BK163.out) hb)
                          have n5_ := Aside0.mk (blk_below (g := gb164) (o := .cells #[.int .i64 x165000_1, .int .i64 (wrap64 (Int.tdiv x165001_1 2))] 24 (0, 0)) (by (with_reducible repeat (first | refine blk_drewN ?_ _ | refine blk_drew ?_ | refine blk_alloc ?_ _)); exact BK164.out) hb)
                          have n6_ := Aside0.mk (blk_below (g := gb184) (o := .cells #[.bool false, .int .i64 (wrap64 (Int.tdiv x165001_1 2)), .bool ((bt a3 x30_1) == 84)] 56 (0, 0)) (by (with_reducible repeat (first | refine blk_drewN ?_ _ | refine blk_drew ?_ | refine blk_alloc ?_ _)); exact BK184.out) hb)
                          have n7_ := Aside0.mk (below_step (by repeat (first | (with_reducible first | exact HB.out | apply below_alloc | apply pw_below_drewN | apply below_drew1 | refine below_set ?_ GE163.out | refine below_set ?_ GE164.out | refine below_set ?_ GE184.out) | exact HB.out)) hb)
                          clear HO_11
                          clear HO_12
                          clear HO199
                          clear BK163
                          clear BK164
                          clear BK184
                          clear HB
                          have HO_11 := n0_
                          have HO_12 := n1_
                          have HO199 := n2_
                          have HO205 := n3_
                          have BK163 := n4_
                          have BK164 := n5_
                          have BK184 := n6_
                          have HB := n7_
                          clear n0_ n1_ n2_ n3_ n4_ n5_ n6_ n7_
                          clear hb ho80
                          obtain ⟨Ao82, co82, eo82⟩ := Kd.R_slice HO199.out
                          (first | subst eo82 | (injection eo82 with f1_ f2_ f3_; have f4_ := f1_.symm; have f5_ := f3_.symm; clear f1_ f2_ f3_; subst f4_; subst f5_))
                          refine hK.out _ _ ⟨(blk_cell BK184.out 0).trans rfl, (blk_cell BK184.out 1).trans rfl, (blk_cell BK184.out 2).trans rfl, (blk_cell BK164.out 0).trans rfl, (blk_cell BK164.out 1).trans rfl⟩ (fun hHeld => ?_)
                          clear hK K
                          refine norm_ (a' := ?_) ?_ ?_
                          rotate_left
                          · show Act.put _ (some 71) _ = _
                            simp only [Act.put, List.setIfInBounds_toArray, List.set_cons_zero, List.set_cons_succ, i64_w, i32_w]
                            rfl
                          refine one_ (i := 3) (N := some 68) #[true, true, true, true, true, true, true, false, false, false] rfl rfl (one_of HT_.out (by kernel_rfl)) (by decide) (fun K hK => ?_)
                          refine Kd.R_append_rows_step k56 (w0 := w) w.heap.size (by rfl) (.tmp 65) (.tmp 67) 30 56 (.agg #[(.bool false), (.int .i64 0), (.bool false)]) 24 rfl Tryd.underlying30 info56 rfl (by decide) (by omega) (.slice Ao73 x11_1.length co73) x11_1 y197 _ _ _ (fun k_ => some k_ ≠ (.slice Ao82 y197.length co82 : Value).ownBlock ∧ k_ ≠ gb184) (fun _ => False) rfl rfl ?aO ?aR (fun _ _ h => h) (fun _ h => h.elim) ?aF ?aB ?aS ?aL ?_
                          (case aR => repeat (first | exact (Kd.R_reads' HO199.out).2.2 | (with_reducible refine Kd.C_alloc ?_ _) | (with_reducible refine Kd.C_drewN ?_ _) | (with_reducible refine Kd.C_drew ?_)))
                          (case aB => exact (by repeat (first | (with_reducible first | exact HB.out | apply below_alloc | apply pw_below_drewN | apply below_drew1 | refine below_set ?_ GE163.out | refine below_set ?_ GE164.out | refine below_set ?_ GE184.out) | exact HB.out)))
                          (case aF => exact (fun k_ hk => ⟨Kd.fresh' (Kd.R_lt (by (with_reducible repeat (first | apply Kd.R_alloc | apply Kd.R_drewN | apply Kd.R_drew)); exact HO199.out)) k_ hk, Kd.freshB (g := gb184) (o := .cells #[.bool false, .int .i64 (wrap64 (Int.tdiv x165001_1 2)), .bool ((bt a3 x30_1) == 84)] 56 (0, 0)) (by (with_reducible repeat (first | refine blk_drewN ?_ _ | refine blk_drew ?_ | refine blk_alloc ?_ _)); exact BK184.out) k_ hk⟩))
                          (case aO => exact (by (with_reducible repeat (first | apply Kd.R_alloc | apply Kd.R_drewN | apply Kd.R_drew)); exact Kd.R_mono HO_11.out (fun _ hk => ⟨hk.2, hk.1⟩)))
                          (case aS => exact (below_size (by repeat (first | (with_reducible first | exact HB.out | apply below_alloc | apply pw_below_drewN | apply below_drew1 | refine below_set ?_ GE163.out | refine below_set ?_ GE164.out | refine below_set ?_ GE184.out) | exact HB.out))))
                          (case aL => have := LMc65.out; omega)
                          intro v201 w81 ho hb hg hat
                          rw [← Ny200.out] at ho
                          have n0_ := Aside0.mk (Kd.R_over' (by (with_reducible repeat (first | apply Kd.R_alloc | apply Kd.R_drewN | apply Kd.R_drew)); exact HO_12.out) (Kd.R_typed (by (with_reducible repeat (first | apply Kd.R_alloc | apply Kd.R_drewN | apply Kd.R_drew)); exact HO_11.out)) (by decide) hg)
                          have n1_ := Aside0.mk (blk_grown (g := gb163) (o := .cells #[.int .i64 a2_0, .int .i64 a2_1] 24 (0, 0)) (by (with_reducible repeat (first | refine blk_drewN ?_ _ | refine blk_drew ?_ | refine blk_alloc ?_ _)); exact BK163.out) hg (Kd.R_ne HO_11.out BK163.out (by decide)))
                          have n2_ := Aside0.mk (blk_grown (g := gb164) (o := .cells #[.int .i64 x165000_1, .int .i64 (wrap64 (Int.tdiv x165001_1 2))] 24 (0, 0)) (by (with_reducible repeat (first | refine blk_drewN ?_ _ | refine blk_drew ?_ | refine blk_alloc ?_ _)); exact BK164.out) hg (Kd.R_ne HO_11.out BK164.out (by decide)))
                          have n3_ := Aside0.mk (blk_grown (g := gb184) (o := .cells #[.bool false, .int .i64 (wrap64 (Int.tdiv x165001_1 2)), .bool ((bt a3 x30_1) == 84)] 56 (0, 0)) (by (with_reducible repeat (first | refine blk_drewN ?_ _ | refine blk_drew ?_ | refine blk_alloc ?_ _)); exact BK184.out) hg (Kd.R_away HO_11.out (fun _ hk => hk.1)))
                          have n4_ := Aside0.mk (Kd.R_after (ok := (fun k_ => k_ ≠ gb184)) (by (with_reducible repeat (first | apply Kd.R_alloc | apply Kd.R_drewN | apply Kd.R_drew)); exact Kd.R_mono HO199.out (fun _ hk => ⟨hk.2, hk.1.2⟩)) hg hat)
                          have n5_ := Aside0.mk (Kd.R_over' (by (with_reducible repeat (first | apply Kd.R_alloc | apply Kd.R_drewN | apply Kd.R_drew)); exact HO205.out) (Kd.R_typed (by (with_reducible repeat (first | apply Kd.R_alloc | apply Kd.R_drewN | apply Kd.R_drew)); exact HO_11.out)) (by decide) hg)
                          have n6_ := Aside0.mk (hb)
                          have n7_ := Aside0.mk (ho)
                          clear HO_12
                          clear BK163
                          clear BK164
                          clear BK184
                          clear HO199
                          clear HO205
                          clear HB
                          clear HO_11
                          have HO_12 := n0_
                          have BK163 := n1_
                          have BK164 := n2_
                          have BK184 := n3_
                          have HO199 := n4_
                          have HO205 := n5_
                          have HB := n6_
                          have HO202 := n7_
                          clear n0_ n1_ n2_ n3_ n4_ n5_ n6_ n7_
                          clear ho hb hg hat
                          refine hK.out _ _ ⟨(blk_cell BK184.out 0).trans rfl, (blk_cell BK184.out 1).trans rfl, (blk_cell BK184.out 2).trans rfl, (blk_cell BK164.out 0).trans rfl, (blk_cell BK164.out 1).trans rfl⟩ (fun hHeld => ?_)
                          clear hK K
                          refine norm_ (a' := ?_) ?_ ?_
                          rotate_left
                          · show Act.put _ (some 68) _ = _
                            simp only [Act.put, List.setIfInBounds_toArray, List.set_cons_zero, List.set_cons_succ, i64_w, i32_w]
                            rfl
                          exact norm_ (by simp only [putAll, Act.put, List.setIfInBounds_toArray, List.set_cons_zero, List.set_cons_succ]) (hCont (.slice Ao82 y197.length co82, v201, v204) _ ⟨hHeld, (by (with_reducible repeat (first | apply Kd.R_alloc | apply Kd.R_drewN | apply Kd.R_drew)); exact Kd.R_mono HO199.out (fun _ hk => ⟨hk.2, hk.1⟩)), (by (with_reducible repeat (first | apply Kd.R_alloc | apply Kd.R_drewN | apply Kd.R_drew)); exact HO202.out), (by (with_reducible repeat (first | apply Kd.R_alloc | apply Kd.R_drewN | apply Kd.R_drew)); exact Kd.R_mono HO205.out (fun _ hk => ⟨hk.1.1.2, ⟨hk.1.2, hk.2⟩⟩)), (by (with_reducible repeat (first | apply Kd.R_alloc | apply Kd.R_drewN | apply Kd.R_drew)); exact Kd.R_mono HO_12.out (fun _ hk => ⟨hk.2, ⟨hk.1.1, hk.1.2⟩⟩)), (by (with_reducible repeat (first | refine blk_drewN ?_ _ | refine blk_drew ?_ | refine blk_alloc ?_ _)); exact BK163.out), (by (with_reducible repeat (first | refine blk_drewN ?_ _ | refine blk_drew ?_ | refine blk_alloc ?_ _)); exact BK164.out), (by (with_reducible repeat (first | refine blk_drewN ?_ _ | refine blk_drew ?_ | refine blk_alloc ?_ _)); exact BK184.out), (by repeat (first | (with_reducible first | exact HB.out | apply below_alloc | apply pw_below_drewN | apply below_drew1 | refine below_set ?_ GE163.out | refine below_set ?_ GE164.out | refine below_set ?_ GE184.out) | exact HB.out))⟩)
                      · skip
                        refine Kd.R_lit_step k24 _ 24 ?hg (N := 71) ?hd (xs := ([(⟨x165000_1, wrap64 (Int.tdiv x165001_1 2)⟩ : S24)] : List (S24))) (inner := [.int .i64 x165000_1, .int .i64 (wrap64 (Int.tdiv x165001_1 2))]) (ok := fun _ => True) (okp := fun _ => True) ?hr ?hp (fun _ hk => hk) trivial (Below.refl _ _) (Nat.le_refl _) (by simp) ?_; (case hd => rfl); (case hg => rfl); (case hr => first | (go_simp; done) | (go_simp; rfl)); (case hp => exact (Reps.c2 (show Kd.M k24 _ _ _ (⟨x165000_1, wrap64 (Int.tdiv x165001_1 2)⟩ : S24) [.int .i64 x165000_1, .int .i64 (wrap64 (Int.tdiv x165001_1 2))] from (k24_mkM _ _ _ (⟨x165000_1, wrap64 (Int.tdiv x165001_1 2)⟩ : S24) )) (Reps.none _ _)))
                        intro v204 w77 ho78 hb hg_ hnew_
                        clear hg_ hnew_
                        (first | rw [← Ny203.out] at ho78 | (simp only [Int.reduceToNat] at ho78; rw [← Ny203.out] at ho78))
                        have n0_ := Aside0.mk (Kd.R_below (by (with_reducible repeat (first | apply Kd.R_alloc | apply Kd.R_drewN | apply Kd.R_drew)); exact HO_11.out) hb)
                        have n1_ := Aside0.mk (Kd.R_elder' (by (with_reducible repeat (first | apply Kd.R_alloc | apply Kd.R_drewN | apply Kd.R_drew)); exact HO_12.out) (Kd.R_base ho78) hb)
                        have n2_ := Aside0.mk (Kd.R_lower (Kd.R_newB (Kd.R_newB (Kd.R_new' ho78 (Kd.R_lt (by (with_reducible repeat (first | apply Kd.R_alloc | apply Kd.R_drewN | apply Kd.R_drew)); exact HO_12.out))) (g := gb163) (o := .cells #[.int .i64 a2_0, .int .i64 a2_1] 24 (0, 0)) (by (with_reducible repeat (first | refine blk_drewN ?_ _ | refine blk_drew ?_ | refine blk_alloc ?_ _)); exact BK163.out)) (g := gb164) (o := .cells #[.int .i64 x165000_1, .int .i64 (wrap64 (Int.tdiv x165001_1 2))] 24 (0, 0)) (by (with_reducible repeat (first | refine blk_drewN ?_ _ | refine blk_drew ?_ | refine blk_alloc ?_ _)); exact BK164.out)) (below_size (by repeat (first | (with_reducible first | exact HB.out | apply below_alloc | apply pw_below_drewN | apply below_drew1 | refine below_set ?_ GE163.out | refine below_set ?_ GE164.out | refine below_set ?_ GE184.out) | exact HB.out))))
                        have n3_ := Aside0.mk (blk_below (g := gb163) (o := .cells #[.int .i64 a2_0, .int .i64 a2_1] 24 (0, 0)) (by (with_reducible repeat (first | refine blk_drewN ?_ _ | refine blk_drew ?_ | refine blk_alloc ?_ _)); exact BK163.out) hb)
                        have n4_ := Aside0.mk (blk_below (g := gb164) (o := .cells #[.int .i64 x165000_1, .int .i64 (wrap64 (Int.tdiv x165001_1 2))] 24 (0, 0)) (by (with_reducible repeat (first | refine blk_drewN ?_ _ | refine blk_drew ?_ | refine blk_alloc ?_ _)); exact BK164.out) hb)
                        have n5_ := Aside0.mk (blk_below (g := gb184) (o := .cells #[.bool false, .int .i64 (wrap64 (Int.tdiv x165001_1 2)), .bool ((bt a3 x30_1) == 84)] 56 (0, 0)) (by (with_reducible repeat (first | refine blk_drewN ?_ _ | refine blk_drew ?_ | refine blk_alloc ?_ _)); exact BK184.out) hb)
                        have n6_ := Aside0.mk (below_step (by repeat (first | (with_reducible first | exact HB.out | apply below_alloc | apply pw_below_drewN | apply below_drew1 | refine below_set ?_ GE163.out | refine below_set ?_ GE164.out | refine below_set ?_ GE184.out) | exact HB.out)) hb)
                        clear HO_11
                        clear HO_12
                        clear BK163
                        clear BK164
                        clear BK184
                        clear HB
                        have HO_11 := n0_
                        have HO_12 := n1_
                        have HO205 := n2_
                        have BK163 := n3_
                        have BK164 := n4_
                        have BK184 := n5_
                        have HB := n6_
                        clear n0_ n1_ n2_ n3_ n4_ n5_ n6_
                        clear hb ho78
                        refine hK.out _ _ ⟨(blk_cell BK184.out 0).trans rfl, (blk_cell BK184.out 1).trans rfl, (blk_cell BK184.out 2).trans rfl, (blk_cell BK164.out 0).trans rfl, (blk_cell BK164.out 1).trans rfl⟩ (fun hHeld => ?_)
                        clear hK K
                        refine norm_ (a' := ?_) ?_ ?_
                        rotate_left
                        · show Act.put _ (some 71) _ = _
                          simp only [Act.put, List.setIfInBounds_toArray, List.set_cons_zero, List.set_cons_succ, i64_w, i32_w]
                          rfl
                        refine one_ (i := 2) (N := some 67) #[true, true, true, false, true, true, true, false, false, false] rfl rfl (one_of HT_.out (by kernel_rfl)) (by decide) (fun K hK => ?_)
                        refine Kd.R_lit_step k56 _ 56 ?hg (N := 67) ?hd (xs := ([(⟨false, wrap64 (Int.tdiv x165001_1 2), ((bt a3 x30_1) == 84)⟩ : S56)] : List (S56))) (inner := [.bool false, .int .i64 (wrap64 (Int.tdiv x165001_1 2)), .bool ((bt a3 x30_1) == 84)]) (ok := fun _ => True) (okp := fun _ => True) ?hr ?hp (fun _ hk => hk) trivial (Below.refl _ _) (Nat.le_refl _) (by simp) ?_; (case hd => rfl); (case hg => rfl); (case hr => first | (go_simp; done) | (go_simp; rfl)); (case hp => exact (Reps.c3 (show Kd.M k56 _ _ _ (⟨false, wrap64 (Int.tdiv x165001_1 2), ((bt a3 x30_1) == 84)⟩ : S56) [.bool false, .int .i64 (wrap64 (Int.tdiv x165001_1 2)), .bool ((bt a3 x30_1) == 84)] from (k56_mkM _ _ _ (⟨false, wrap64 (Int.tdiv x165001_1 2), ((bt a3 x30_1) == 84)⟩ : S56) )) (Reps.none _ _)))
                        intro v198 w79 ho80 hb hg_ hnew_
                        clear hg_ hnew_
                        (first | rw [← Ny197.out] at ho80 | (simp only [Int.reduceToNat] at ho80; rw [← Ny197.out] at ho80))
                        have n0_ := Aside0.mk (Kd.R_elder' (by (with_reducible repeat (first | apply Kd.R_alloc | apply Kd.R_drewN | apply Kd.R_drew)); exact HO_11.out) (Kd.R_base ho80) hb)
                        have n1_ := Aside0.mk (Kd.R_below (by (with_reducible repeat (first | apply Kd.R_alloc | apply Kd.R_drewN | apply Kd.R_drew)); exact HO_12.out) hb)
                        have n2_ := Aside0.mk (Kd.R_below (by (with_reducible repeat (first | apply Kd.R_alloc | apply Kd.R_drewN | apply Kd.R_drew)); exact HO205.out) hb)
                        have n3_ := Aside0.mk (Kd.R_lower (Kd.R_newB (Kd.R_new' ho80 (Kd.R_lt (by (with_reducible repeat (first | apply Kd.R_alloc | apply Kd.R_drewN | apply Kd.R_drew)); exact HO_11.out))) (g := gb184) (o := .cells #[.bool false, .int .i64 (wrap64 (Int.tdiv x165001_1 2)), .bool ((bt a3 x30_1) == 84)] 56 (0, 0)) (by (with_reducible repeat (first | refine blk_drewN ?_ _ | refine blk_drew ?_ | refine blk_alloc ?_ _)); exact BK184.out)) (below_size (by repeat (first | (with_reducible first | exact HB.out | apply below_alloc | apply pw_below_drewN | apply below_drew1 | refine below_set ?_ GE163.out | refine below_set ?_ GE164.out | refine below_set ?_ GE184.out) | exact HB.out))))
                        have n4_ := Aside0.mk (blk_below (g := gb163) (o := .cells #[.int .i64 a2_0, .int .i64 a2_1] 24 (0, 0)) (by (with_reducible repeat (first | refine blk_drewN ?_ _ | refine blk_drew ?_ | refine blk_alloc ?_ _)); exact BK163.out) hb)
                        have n5_ := Aside0.mk (blk_below (g := gb164) (o := .cells #[.int .i64 x165000_1, .int .i64 (wrap64 (Int.tdiv x165001_1 2))] 24 (0, 0)) (by (with_reducible repeat (first | refine blk_drewN ?_ _ | refine blk_drew ?_ | refine blk_alloc ?_ _)); exact BK164.out) hb)
                        have n6_ := Aside0.mk (blk_below (g := gb184) (o := .cells #[.bool false, .int .i64 (wrap64 (Int.tdiv x165001_1 2)), .bool ((bt a3 x30_1) == 84)] 56 (0, 0)) (by (with_reducible repeat (first | refine blk_drewN ?_ _ | refine blk_drew ?_ | refine blk_alloc ?_ _)); exact BK184.out) hb)
                        have n7_ := Aside0.mk (below_step (by repeat (first | (with_reducible first | exact HB.out | apply below_alloc | apply pw_below_drewN | apply below_drew1 | refine below_set ?_ GE163.out | refine below_set ?_ GE164.out | refine below_set ?_ GE184.out) | exact HB.out)) hb)
                        clear HO_11
                        clear HO_12
                        clear HO205
                        clear BK163
                        clear BK164
                        clear BK184
                        clear HB
                        have HO_11 := n0_
                        have HO_12 := n1_
                        have HO205 := n2_
                        have HO199 := n3_
                        have BK163 := n4_
                        have BK164 := n5_
                        have BK184 := n6_
                        have HB := n7_
                        clear n0_ n1_ n2_ n3_ n4_ n5_ n6_ n7_
                        clear hb ho80
                        obtain ⟨Ao82, co82, eo82⟩ := Kd.R_slice HO199.out
                        (first | subst eo82 | (injection eo82 with f1_ f2_ f3_; have f4_ := f1_.symm; have f5_ := f3_.symm; clear f1_ f2_ f3_; subst f4_; subst f5_))
                        refine hK.out _ _ ⟨(blk_cell BK184.out 0).trans rfl, (blk_cell BK184.out 1).trans rfl, (blk_cell BK184.out 2).trans rfl, (blk_cell BK164.out 0).trans rfl, (blk_cell BK164.out 1).trans rfl⟩ (fun hHeld => ?_)
                        clear hK K
                        refine norm_ (a' := ?_) ?_ ?_
                        rotate_left
                        · show Act.put _ (some 67) _ = _
                          simp only [Act.put, List.setIfInBounds_toArray, List.set_cons_zero, List.set_cons_succ, i64_w, i32_w]
                          rfl
                        refine one_ (i := 3) (N := some 68) #[true, true, true, true, true, true, true, false, false, false] rfl rfl (one_of HT_.out (by kernel_rfl)) (by decide) (fun K hK => ?_)
                        refine Kd.R_append_rows_step k56 (w0 := w) w.heap.size (by rfl) (.tmp 65) (.tmp 67) 30 56 (.agg #[(.bool false), (.int .i64 0), (.bool false)]) 24 rfl Tryd.underlying30 info56 rfl (by decide) (by omega) (.slice Ao73 x11_1.length co73) x11_1 y197 _ _ _ (fun k_ => some k_ ≠ (.slice Ao82 y197.length co82 : Value).ownBlock ∧ k_ ≠ gb184) (fun _ => False) rfl rfl ?aO ?aR (fun _ _ h => h) (fun _ h => h.elim) ?aF ?aB ?aS ?aL ?_
                        (case aR => repeat (first | exact (Kd.R_reads' HO199.out).2.2 | (with_reducible refine Kd.C_alloc ?_ _) | (with_reducible refine Kd.C_drewN ?_ _) | (with_reducible refine Kd.C_drew ?_)))
                        (case aB => exact (by repeat (first | (with_reducible first | exact HB.out | apply below_alloc | apply pw_below_drewN | apply below_drew1 | refine below_set ?_ GE163.out | refine below_set ?_ GE164.out | refine below_set ?_ GE184.out) | exact HB.out)))
                        (case aF => exact (fun k_ hk => ⟨Kd.fresh' (Kd.R_lt (by (with_reducible repeat (first | apply Kd.R_alloc | apply Kd.R_drewN | apply Kd.R_drew)); exact HO199.out)) k_ hk, Kd.freshB (g := gb184) (o := .cells #[.bool false, .int .i64 (wrap64 (Int.tdiv x165001_1 2)), .bool ((bt a3 x30_1) == 84)] 56 (0, 0)) (by (with_reducible repeat (first | refine blk_drewN ?_ _ | refine blk_drew ?_ | refine blk_alloc ?_ _)); exact BK184.out) k_ hk⟩))
                        (case aO => exact (by (with_reducible repeat (first | apply Kd.R_alloc | apply Kd.R_drewN | apply Kd.R_drew)); exact Kd.R_mono HO_11.out (fun _ hk => ⟨hk.2, hk.1⟩)))
                        (case aS => exact (below_size (by repeat (first | (with_reducible first | exact HB.out | apply below_alloc | apply pw_below_drewN | apply below_drew1 | refine below_set ?_ GE163.out | refine below_set ?_ GE164.out | refine below_set ?_ GE184.out) | exact HB.out))))
                        (case aL => have := LMc65.out; omega)
                        intro v201 w81 ho hb hg hat
                        rw [← Ny200.out] at ho
                        have n0_ := Aside0.mk (Kd.R_over' (by (with_reducible repeat (first | apply Kd.R_alloc | apply Kd.R_drewN | apply Kd.R_drew)); exact HO_12.out) (Kd.R_typed (by (with_reducible repeat (first | apply Kd.R_alloc | apply Kd.R_drewN | apply Kd.R_drew)); exact HO_11.out)) (by decide) hg)
                        have n1_ := Aside0.mk (blk_grown (g := gb163) (o := .cells #[.int .i64 a2_0, .int .i64 a2_1] 24 (0, 0)) (by (with_reducible repeat (first | refine blk_drewN ?_ _ | refine blk_drew ?_ | refine blk_alloc ?_ _)); exact BK163.out) hg (Kd.R_ne HO_11.out BK163.out (by decide)))
                        have n2_ := Aside0.mk (blk_grown (g := gb164) (o := .cells #[.int .i64 x165000_1, .int .i64 (wrap64 (Int.tdiv x165001_1 2))] 24 (0, 0)) (by (with_reducible repeat (first | refine blk_drewN ?_ _ | refine blk_drew ?_ | refine blk_alloc ?_ _)); exact BK164.out) hg (Kd.R_ne HO_11.out BK164.out (by decide)))
                        have n3_ := Aside0.mk (blk_grown (g := gb184) (o := .cells #[.bool false, .int .i64 (wrap64 (Int.tdiv x165001_1 2)), .bool ((bt a3 x30_1) == 84)] 56 (0, 0)) (by (with_reducible repeat (first | refine blk_drewN ?_ _ | refine blk_drew ?_ | refine blk_alloc ?_ _)); exact BK184.out) hg (Kd.R_away HO_11.out (fun _ hk => hk.1)))
                        have n4_ := Aside0.mk (Kd.R_over' (by (with_reducible repeat (first | apply Kd.R_alloc | apply Kd.R_drewN | apply Kd.R_drew)); exact HO205.out) (Kd.R_typed (by (with_reducible repeat (first | apply Kd.R_alloc | apply Kd.R_drewN | apply Kd.R_drew)); exact HO_11.out)) (by decide) hg)
                        have n5_ := Aside0.mk (Kd.R_after (ok := (fun k_ => k_ ≠ gb184)) (by (with_reducible repeat (first | apply Kd.R_alloc | apply Kd.R_drewN | apply Kd.R_drew)); exact Kd.R_mono HO199.out (fun _ hk => ⟨hk.2, hk.1.2⟩)) hg hat)
                        have n6_ := Aside0.mk (hb)
                        have n7_ := Aside0.mk (ho)
                        clear HO_12
                        clear BK163
                        clear BK164
                        clear BK184
                        clear HO205
                        clear HO199
                        clear HB
                        clear HO_11
                        have HO_12 := n0_
                        have BK163 := n1_
                        have BK164 := n2_
                        have BK184 := n3_
                        have HO205 := n4_
                        have HO199 := n5_
                        have HB := n6_
                        have HO202 := n7_
                        clear n0_ n1_ n2_ n3_ n4_ n5_ n6_ n7_
                        clear ho hb hg hat
                        refine hK.out _ _ ⟨(blk_cell BK184.out 0).trans rfl, (blk_cell BK184.out 1).trans rfl, (blk_cell BK184.out 2).trans rfl, (blk_cell BK164.out 0).trans rfl, (blk_cell BK164.out 1).trans rfl⟩ (fun hHeld => ?_)
                        clear hK K
                        refine norm_ (a' := ?_) ?_ ?_
                        rotate_left
                        · show Act.put _ (some 68) _ = _
                          simp only [Act.put, List.setIfInBounds_toArray, List.set_cons_zero, List.set_cons_succ, i64_w, i32_w]
                          rfl
                        exact norm_ (by simp only [putAll, Act.put, List.setIfInBounds_toArray, List.set_cons_zero, List.set_cons_succ]) (hCont (.slice Ao82 y197.length co82, v201, v204) _ ⟨hHeld, (by (with_reducible repeat (first | apply Kd.R_alloc | apply Kd.R_drewN | apply Kd.R_drew)); exact Kd.R_mono HO199.out (fun _ hk => ⟨hk.2, hk.1⟩)), (by (with_reducible repeat (first | apply Kd.R_alloc | apply Kd.R_drewN | apply Kd.R_drew)); exact HO202.out), (by (with_reducible repeat (first | apply Kd.R_alloc | apply Kd.R_drewN | apply Kd.R_drew)); exact Kd.R_mono HO205.out (fun _ hk => ⟨hk.1.1.2, ⟨hk.1.2, hk.2⟩⟩)), (by (with_reducible repeat (first | apply Kd.R_alloc | apply Kd.R_drewN | apply Kd.R_drew)); exact Kd.R_mono HO_12.out (fun _ hk => ⟨hk.2, ⟨hk.1.1, hk.1.2⟩⟩)), (by (with_reducible repeat (first | refine blk_drewN ?_ _ | refine blk_drew ?_ | refine blk_alloc ?_ _)); exact BK163.out), (by (with_reducible repeat (first | refine blk_drewN ?_ _ | refine blk_drew ?_ | refine blk_alloc ?_ _)); exact BK164.out), (by (with_reducible repeat (first | refine blk_drewN ?_ _ | refine blk_drew ?_ | refine blk_alloc ?_ _)); exact BK184.out), (by repeat (first | (with_reducible first | exact HB.out | apply below_alloc | apply pw_below_drewN | apply below_drew1 | refine below_set ?_ GE163.out | refine below_set ?_ GE164.out | refine below_set ?_ GE184.out) | exact HB.out))⟩)
                    rintro ⟨v198, v201, v204⟩ w83 ⟨hS_, h0_, h1_, h2_, h3_, h4_, h5_, h6_, h7_⟩
                    have n0_ : Aside0 (Kd.R k56 56 w83 w.heap.size (fun k_ => some k_ ≠ (v201 : Value).ownBlock ∧ k_ ≠ gb184) v198 y197) := ⟨h0_⟩
                    have n1_ : Aside0 (Kd.R k56 56 w83 w.heap.size (fun k_ => some k_ ≠ (v198 : Value).ownBlock ∧ k_ ≠ gb184) v201 y200) := ⟨h1_⟩
                    have n2_ : Aside0 (Kd.R k24 24 w83 w.heap.size (fun k_ => some k_ ≠ (.slice Ao74 x12_1.length co74 : Value).ownBlock ∧ k_ ≠ gb163 ∧ k_ ≠ gb164) v204 y203) := ⟨h2_⟩
                    have n3_ : Aside0 (Kd.R k24 24 w83 w.heap.size (fun k_ => some k_ ≠ (v204 : Value).ownBlock ∧ k_ ≠ gb163 ∧ k_ ≠ gb164) (.slice Ao74 x12_1.length co74) x12_1) := ⟨h3_⟩
                    have n4_ : Aside0 (w83.heap[gb163]? = some (.cells #[.int .i64 a2_0, .int .i64 a2_1] 24 (0, 0))) := ⟨h4_⟩
                    have n5_ : Aside0 (w83.heap[gb164]? = some (.cells #[.int .i64 x165000_1, .int .i64 (wrap64 (Int.tdiv x165001_1 2))] 24 (0, 0))) := ⟨h5_⟩
                    have n6_ : Aside0 (w83.heap[gb184]? = some (.cells #[.bool false, .int .i64 (wrap64 (Int.tdiv x165001_1 2)), .bool ((bt a3 x30_1) == 84)] 56 (0, 0))) := ⟨h6_⟩
                    have n7_ : Aside0 (Below w.heap.size w w83) := ⟨h7_⟩
                    clear HO_11
                    clear HO_12
                    clear BK163
                    clear BK164
                    clear BK184
                    clear HB
                    clear h0_ h1_ h2_ h3_ h4_ h5_ h6_ h7_
                    have HO199 := n0_
                    have HO202 := n1_
                    have HO205 := n2_
                    have HO_12 := n3_
                    have BK163 := n4_
                    have BK164 := n5_
                    have BK184 := n6_
                    have HB := n7_
                    clear n0_ n1_ n2_ n3_ n4_ n5_ n6_ n7_
                    have hHeld : w83.cell? ⟨gb184, 0, none⟩ = some (.bool false) ∧ w83.cell? ⟨gb184, 1, none⟩ = some (.int .i64 (wrap64 (Int.tdiv x165001_1 2))) ∧ w83.cell? ⟨gb184, 2, none⟩ = some (.bool ((bt a3 x30_1) == 84)) ∧ w83.cell? ⟨gb164, 0, none⟩ = some (.int .i64 x165000_1) ∧ w83.cell? ⟨gb164, 1, none⟩ = some (.int .i64 (wrap64 (Int.tdiv x165001_1 2))) := hS_
                    obtain ⟨Ao85, co85, eo85⟩ := Kd.R_slice HO205.out
                    (first | subst eo85 | (injection eo85 with f1_ f2_ f3_; have f4_ := f1_.symm; have f5_ := f3_.symm; clear f1_ f2_ f3_; subst f4_; subst f5_))
                    refine norm_ (a' := ?_) ?_ ?_
                    rotate_left
                    · simp only [putAll, Act.put, List.setIfInBounds_toArray, List.set_cons_zero, List.set_cons_succ]
                      rfl
                    refine one_ (i := 7) (N := some 72) #[true, true, true, true, true, true, true, true, false, false] rfl rfl (one_of HT_.out (by kernel_rfl)) (by decide) (fun K hK => ?_)
                    refine Kd.R_append_rows_step k24 (w0 := w) w.heap.size (by rfl) (.tmp 69) (.tmp 71) 51 24 (.agg #[(.int .i64 0), (.int .i64 0)]) 16 rfl Tryd.underlying51 info24 rfl (by decide) (by omega) (.slice Ao74 x12_1.length co74) x12_1 y203 _ _ _ (fun k_ => some k_ ≠ (.slice Ao85 y203.length co85 : Value).ownBlock ∧ k_ ≠ gb163 ∧ k_ ≠ gb164) (fun _ => False) rfl rfl ?aO ?aR (fun _ _ h => h) (fun _ h => h.elim) ?aF ?aB ?aS ?aL ?_
                    (case aR => repeat (first | exact (Kd.R_reads' HO205.out).2.2 | (with_reducible refine Kd.C_alloc ?_ _) | (with_reducible refine Kd.C_drewN ?_ _) | (with_reducible refine Kd.C_drew ?_)))
                    (case aB => exact (by repeat (first | (with_reducible first | exact HB.out | apply below_alloc | apply pw_below_drewN | apply below_drew1 | refine below_set ?_ GE163.out | refine below_set ?_ GE164.out | refine below_set ?_ GE184.out) | exact HB.out)))
                    (case aF => exact (fun k_ hk => ⟨Kd.fresh' (Kd.R_lt (by (with_reducible repeat (first | apply Kd.R_alloc | apply Kd.R_drewN | apply Kd.R_drew)); exact HO205.out)) k_ hk, Kd.freshB (g := gb163) (o := .cells #[.int .i64 a2_0, .int .i64 a2_1] 24 (0, 0)) (by (with_reducible repeat (first | refine blk_drewN ?_ _ | refine blk_drew ?_ | refine blk_alloc ?_ _)); exact BK163.out) k_ hk, Kd.freshB (g := gb164) (o := .cells #[.int .i64 x165000_1, .int .i64 (wrap64 (Int.tdiv x165001_1 2))] 24 (0, 0)) (by (with_reducible repeat (first | refine blk_drewN ?_ _ | refine blk_drew ?_ | refine blk_alloc ?_ _)); exact BK164.out) k_ hk⟩))
                    (case aO => exact (by (with_reducible repeat (first | apply Kd.R_alloc | apply Kd.R_drewN | apply Kd.R_drew)); exact HO_12.out))
                    (case aS => exact (below_size (by repeat (first | (with_reducible first | exact HB.out | apply below_alloc | apply pw_below_drewN | apply below_drew1 | refine below_set ?_ GE163.out | refine below_set ?_ GE164.out | refine below_set ?_ GE184.out) | exact HB.out))))
                    (case aL => have := LMc66.out; omega)
                    intro v207 w84 ho hb hg hat
                    rw [← Ny206.out] at ho
                    have n0_ := Aside0.mk (blk_grown (g := gb163) (o := .cells #[.int .i64 a2_0, .int .i64 a2_1] 24 (0, 0)) (by (with_reducible repeat (first | refine blk_drewN ?_ _ | refine blk_drew ?_ | refine blk_alloc ?_ _)); exact BK163.out) hg (Kd.R_away HO_12.out (fun _ hk => hk.2.1)))
                    have n1_ := Aside0.mk (blk_grown (g := gb164) (o := .cells #[.int .i64 x165000_1, .int .i64 (wrap64 (Int.tdiv x165001_1 2))] 24 (0, 0)) (by (with_reducible repeat (first | refine blk_drewN ?_ _ | refine blk_drew ?_ | refine blk_alloc ?_ _)); exact BK164.out) hg (Kd.R_away HO_12.out (fun _ hk => hk.2.2)))
                    have n2_ := Aside0.mk (blk_grown (g := gb184) (o := .cells #[.bool false, .int .i64 (wrap64 (Int.tdiv x165001_1 2)), .bool ((bt a3 x30_1) == 84)] 56 (0, 0)) (by (with_reducible repeat (first | refine blk_drewN ?_ _ | refine blk_drew ?_ | refine blk_alloc ?_ _)); exact BK184.out) hg (Kd.R_ne HO_12.out BK184.out (by decide)))
                    have n3_ := Aside0.mk (Kd.R_over' (by (with_reducible repeat (first | apply Kd.R_alloc | apply Kd.R_drewN | apply Kd.R_drew)); exact HO199.out) (Kd.R_typed (by (with_reducible repeat (first | apply Kd.R_alloc | apply Kd.R_drewN | apply Kd.R_drew)); exact HO_12.out)) (by decide) hg)
                    have n4_ := Aside0.mk (Kd.R_over' (by (with_reducible repeat (first | apply Kd.R_alloc | apply Kd.R_drewN | apply Kd.R_drew)); exact HO202.out) (Kd.R_typed (by (with_reducible repeat (first | apply Kd.R_alloc | apply Kd.R_drewN | apply Kd.R_drew)); exact HO_12.out)) (by decide) hg)
                    have n5_ := Aside0.mk (Kd.R_after (ok := (fun k_ => k_ ≠ gb163 ∧ k_ ≠ gb164)) (by (with_reducible repeat (first | apply Kd.R_alloc | apply Kd.R_drewN | apply Kd.R_drew)); exact Kd.R_mono HO205.out (fun _ hk => ⟨⟨hk.2.1, hk.2.2⟩, hk.1⟩)) hg hat)
                    have n6_ := Aside0.mk (hb)
                    have n7_ := Aside0.mk (ho)
                    clear BK163
                    clear BK164
                    clear BK184
                    clear HO199
                    clear HO202
                    clear HO205
                    clear HB
                    clear HO_12
                    have BK163 := n0_
                    have BK164 := n1_
                    have BK184 := n2_
                    have HO199 := n3_
                    have HO202 := n4_
                    have HO205 := n5_
                    have HB := n6_
                    have HO208 := n7_
                    clear n0_ n1_ n2_ n3_ n4_ n5_ n6_ n7_
                    clear ho hb hg hat
                    refine hK.out _ _ ⟨(blk_cell BK184.out 0).trans rfl, (blk_cell BK184.out 1).trans rfl, (blk_cell BK184.out 2).trans rfl, (blk_cell BK164.out 0).trans rfl, (blk_cell BK164.out 1).trans rfl⟩ (fun hHeld => ?_)
                    clear hK K
                    refine norm_ (a' := ?_) ?_ ?_
                    rotate_left
                    · show Act.put _ (some 72) _ = _
                      simp only [Act.put, List.setIfInBounds_toArray, List.set_cons_zero, List.set_cons_succ, i64_w, i32_w]
                      rfl
                    refine pure_ (i := 8) (N := some 11) (v := ?_) (a' := ?_) #[true, true, true, true, true, true, true, true, true, false] rfl rfl (any_of HT_.out (by kernel_rfl)) (fun _ _ _ h => h) (Or.inl ⟨by rfl, ?_⟩) ?_ ?_
                    rotate_left
                    · intro w'
                      go_simp
                      with_reducible rfl
                    rotate_left
                    · simp only [Act.put, List.setIfInBounds_toArray, List.set_cons_zero, List.set_cons_succ, i64_w, i32_w]
                      rfl
                    refine pure_ (i := 9) (N := some 12) (v := ?_) (a' := ?_) #[true, true, true, true, true, true, true, true, true, true] rfl rfl (any_of HT_.out (by kernel_rfl)) (fun _ _ _ h => h) (Or.inl ⟨by rfl, ?_⟩) ?_ ?_
                    rotate_left
                    · intro w'
                      go_simp
                      with_reducible rfl
                    rotate_left
                    · simp only [Act.put, List.setIfInBounds_toArray, List.set_cons_zero, List.set_cons_succ, i64_w, i32_w]
                      rfl
                    refine done_ (done_of HT_.out (by kernel_rfl)) ?_
                    try go_wp2
                    go_roundg k1
                    case measure => have := HK1.out; omega
                    case rel => exact ⟨(y200), (y206), (wrap64 (x30_1 + 1)), (x165000_1), (wrap64 (Int.tdiv x165001_1 2)), (by first | rfl | (simp; done) | (simp [*]; done)), H', ⟨by have := HK1.out; omega⟩, ⟨by (with_reducible repeat (first | apply Kd.R_alloc | apply Kd.R_drewN | apply Kd.R_drew)); exact Kd.R_mono HO202.out (fun _ hk => trivial)⟩, ⟨by (with_reducible repeat (first | apply Kd.R_alloc | apply Kd.R_drewN | apply Kd.R_drew)); exact Kd.R_mono HO208.out (fun _ hk => ⟨hk.2.1, hk.2.2⟩)⟩, ⟨by (with_reducible repeat (first | refine blk_drewN ?_ _ | refine blk_drew ?_ | refine blk_alloc ?_ _)); exact BK163.out⟩, ⟨by (with_reducible repeat (first | refine blk_drewN ?_ _ | refine blk_drew ?_ | refine blk_alloc ?_ _)); exact BK164.out⟩, ⟨by repeat (first | (with_reducible first | exact HB.out | apply below_alloc | apply pw_below_drewN | apply below_drew1 | refine below_set ?_ GE163.out | refine below_set ?_ GE164.out | refine below_set ?_ GE184.out) | exact HB.out)⟩⟩
                  · rw [if_neg c66] at H
                    exact absurd H (by simp)
                · rw [if_neg c65] at H
                  exact absurd H (by simp)
          · rw [if_neg c19] at H
            exact absurd H (by simp)
        · rw [if_neg c18] at H
          exact absurd H (by simp)
      · rw [if_neg c17] at H
        have c17b0 : decide (x30_1 < (a3.size : Int)) = false := decide_eq_false c17
        clear c17
        simp only [Option.some.injEq, Prod.mk.injEq] at H
        obtain ⟨rfl, rfl⟩ := H
        go_wp2
        go_ret2
        exact ⟨_, _, by first | rfl | (simp [errW_none, errW_some] <;> rfl) | (simp [*, errW_none, errW_some] <;> rfl), by (with_reducible repeat (first | apply Kd.R_alloc | apply Kd.R_drewN | apply Kd.R_drew)); exact HO_11.out, by (with_reducible repeat (first | apply Kd.R_alloc | apply Kd.R_drewN | apply Kd.R_drew)); exact Kd.R_mono HO_12.out (fun _ hk => trivial), by repeat (first | (with_reducible first | exact HB.out | apply below_alloc | apply pw_below_drewN | apply below_drew1 | refine below_set ?_ GE163.out | refine below_set ?_ GE164.out) | exact HB.out)⟩

end Go.Proofs.YtpndkekgoadjkaaDoor.PFnExactSetupOf
