-- Written by a program of this session.
import Derived.Test.YthmeohanbggnlaaPFnExplainedx0
import Derived.Test.YthmeohanbggnlaaPFnExplainedx2
import Derived.Test.YthmeohanbggnlaaPFnExplainedx5
import Derived.Maps.RangeWalk
import Derived.Maps.OwnOps
import Derived.Maps.Views
import Derived.Carry
import Derived.DeepKeys4
import Derived.StillTailTactics
namespace Go.Proofs.Ythmeohanbggnlaa.PFnExplained
open Go.RowKit Go.Proofs.YthmeohanbggnlaaW.PrintWords Go.Proofs.YthmeohanbggnlaaW.PrintLast Go.Proofs.YthmeohanbggnlaaW.PrintMore
attribute [local go_sem] max2_int min2_int max_two min_two max_three min_three max_four min_four   -- for this text's walks alone
set_option linter.unusedVariables false
set_option linter.unusedSimpArgs false

/-! ### impl_ExplainBlock: function 31, by a template of this session -/
def impl_explainer.part (s kind x : Int) : List Int := if kind = 1 then [] else if kind = 2 then [s + 1, s + 1] else if kind = 3 then [-(s + 1)] else if kind = 4 then [x] else [s + 1]
def impl_explainer.tail (l y : List Int) (p : Int) : Int := if p + (y.length : Int) > (l.length : Int) then -1 else if y = (l.take (p + (y.length : Int)).toNat).drop p.toNat then p + (y.length : Int) else -1
def impl_explainer.nx (l : List Int) (s p kind : Int) : Int :=
  if kind = 4 ∧ (p = (l.length : Int) ∨ rd l p < 1 ∨ rd l p = s + 1) then -1 else impl_explainer.tail l (impl_explainer.part s kind (rd l p)) p
theorem impl_explainer.rdX (l : List Int) (i : Nat) (h : i < l.length) : rd l (i : Int) = l[i] := by simp [rd, List.getD_eq_getElem?_getD, List.getElem?_eq_getElem h]
theorem impl_explainer.eq_l0 (x y : List Int) (hl : x.length = y.length) (hx : x.length ≤ 100) : ∀ (d j : Nat), j + d = x.length → slices_Equal_int64_int64.l0 (d + 1) x y (x.length : Int) (j : Int) = some (decide (x.drop j = y.drop j)) := by
  intro d
  induction d with
  | zero =>
    intro j hj
    simp only [slices_Equal_int64_int64.l0, show ¬ (j : Int) < (x.length : Int) by omega, if_false]
    rw [List.drop_eq_nil_of_le (by omega), List.drop_eq_nil_of_le (by omega)]
    simp
  | succ d ih =>
    intro j hj
    have h1 : j < x.length := by omega
    have h2 : j < y.length := by omega
    have e1 := List.drop_eq_getElem_cons h1
    have e2 := List.drop_eq_getElem_cons h2
    have hw : wrap64 ((j : Int) + 1) = ((j + 1 : Nat) : Int) := by unfold wrap64; omega
    unfold slices_Equal_int64_int64.l0
    simp only [show (j : Int) < (y.length : Int) by omega, show (j : Int) < (x.length : Int) by omega, show (0 : Int) ≤ (j : Int) by omega, if_true, impl_explainer.rdX x j h1, impl_explainer.rdX y j h2, hw, ih (j + 1) (by omega), e1, e2, List.cons.injEq]
    by_cases c : x[j] = y[j]
    · simp [c]
    · simp [c]
theorem impl_explainer.eq_f (x y : List Int) (hx : x.length ≤ 100) : slices_Equal_int64_int64.f (x.length + 1) x y = some (decide (x = y)) := by
  unfold slices_Equal_int64_int64.f
  by_cases hl : x.length = y.length
  · rw [if_pos (by omega)]
    have := impl_explainer.eq_l0 x y hl hx x.length 0 (by omega)
    simpa using this
  · rw [if_neg (by omega)]
    rw [decide_eq_false (fun h => hl (by rw [h]))]
theorem impl_explainer.left_f (s kind x : Int) (hs : 0 ≤ s ∧ s ≤ 12) (hx : -12 ≤ x ∧ x ≤ 12) : impl_left.f s kind (x - 1) = some (impl_explainer.part s kind x) := by
  have h1 : wrap64 (s + 1) = s + 1 := by unfold wrap64; omega
  have h2 : wrap64 (-(s + 1)) = -(s + 1) := by unfold wrap64; omega
  have h3 : wrap64 (x - 1 + 1) = x := by unfold wrap64; omega
  unfold impl_left.f impl_explainer.part
  rw [h1, h2, h3]
  repeat' split
  all_goals rfl
theorem impl_explainer.left_g (s kind x : Int) (hs : 0 ≤ s ∧ s ≤ 12) (hk : kind ≠ 4) : impl_left.f s kind (-1) = some (impl_explainer.part s kind x) := by
  have h1 : wrap64 (s + 1) = s + 1 := by unfold wrap64; omega
  have h2 : wrap64 (-(s + 1)) = -(s + 1) := by unfold wrap64; omega
  unfold impl_left.f impl_explainer.part
  rw [h1, h2, if_neg hk, if_neg hk]
  repeat' split
  all_goals rfl
theorem impl_explainer.part_len (s kind x : Int) : (impl_explainer.part s kind x).length ≤ 2 := by
  unfold impl_explainer.part
  repeat' split
  all_goals simp
theorem impl_explainer.info : (Try.prog.info? 2).map (fun i => (i.zero, i.size, i.bytes)) = some (some (.int .i64 0), 1, 8) := by kernel_rfl
theorem impl_explainer.rd_in {l : List Int} (hv : ∀ x ∈ l, -12 ≤ x ∧ x ≤ 12) (p : Int) (h0 : 0 ≤ p) (h1 : p < (l.length : Int)) : -12 ≤ rd l p ∧ rd l p ≤ 12 := by
  obtain ⟨i, rfl⟩ := Int.eq_ofNat_of_zero_le h0
  rw [impl_explainer.rdX l i (by omega)]
  exact hv _ (List.getElem_mem _)
set_option maxHeartbeats 1000000 in
set_option maxRecDepth 100000 in
theorem impl_explainer.next3 (l : List Int) (ge : Nat) (A : Option Addr) (c : Nat) (s p kind : Int) (w : World) (hc1 : w.cell? ⟨ge, 1, none⟩ = some (.slice A l.length c)) (hr : Kd.C (Kd.int .i64) w A l.length l) (hc : l.length ≤ c) (hs : 0 ≤ s ∧ s ≤ 12) (hp : 0 ≤ p ∧ p ≤ (l.length : Int)) (hl : l.length ≤ 24) (hk : kind ≠ 4) :
    Calls Try.prog 66 #[.pointer (some ⟨ge, 0, none⟩), .int .i64 s, .int .i64 p, .int .i64 kind] w fun e w' => e = .returned (.int .i64 (impl_explainer.tail l (impl_explainer.part s kind (rd l p)) p)) ∧ Below w.heap.size w w' := by
  have HB := Aside0.mk (Below.refl w.heap.size w)
  have HR := Aside0.mk hr
  have HC := Aside0.mk hc
  have AL := Aside0.mk (impl_explainer.left_g s kind (rd l p) hs hk)
  have HPL := Aside0.mk (impl_explainer.part_len s kind (rd l p))
  have HL := Aside0.mk hl
  have HS := Aside0.mk hs
  have k4 : (kind == 4) = false := beq_eq_false_iff_ne.mpr hk
  obtain ⟨y, hy⟩ : ∃ y, y = impl_explainer.part s kind (rd l p) := ⟨_, rfl⟩
  rw [← hy] at AL HPL ⊢
  have hpl := HPL.out
  have hw : wrap64 (p + (y.length : Int)) = p + (y.length : Int) := by unfold wrap64; omega
  clear hy hs hr hc hk hpl
  unfold impl_explainer.tail
  by_cases c1 : p + (y.length : Int) > (l.length : Int)
  · rw [if_pos c1]
    have c1b : decide ((l.length : Int) < p + (y.length : Int)) = true := decide_eq_true c1
    go_enter Try.func66, Try.ntmps66
    go_wp2_with (first
      | (go_at_call 81; (with_reducible refine (impl_left.calls s kind (-1) y _ AL.out).mono ?_); rintro e w1 ⟨v1, rfl, hy1, hb1⟩; obtain ⟨Ao, co, rfl⟩ := Kd.R_slice hy1; have HY := Aside0.mk (Kd.R_reads' hy1).2.2; have HYC := Aside0.mk (Kd.R_reads' hy1).2.1; have HB1 := Aside0.mk (below_step (show Below w.heap.size w _ from by repeat (first | (with_reducible first | exact HB.out | apply below_alloc | apply pw_below_drewN | apply below_drew1) | exact HB.out)) hb1); have hc11 := pw_cell_below HB1.out hc1; have HR1 := Aside0.mk (Kd.C_below HR.out HB1.out); clear hy1 hb1)
      | (go_at_call 78; (with_reducible refine (impl_length_int64.calls Ao co y (y.length : Int) _ (by repeat (first | exact HY.out | (with_reducible refine Kd.C_drewN ?_ _) | (with_reducible refine Kd.C_drew ?_))) HYC.out rfl).mono ?_); rintro e w' ⟨rfl, ⟨nd, rfl⟩⟩)
      | (go_at_call 78; (with_reducible refine (impl_length_int64.calls A c l (l.length : Int) _ (by repeat (first | exact HR1.out | exact HR.out | (with_reducible refine Kd.C_drewN ?_ _) | (with_reducible refine Kd.C_drew ?_))) HC.out rfl).mono ?_); rintro e w' ⟨rfl, ⟨nd, rfl⟩⟩))
    go_ret
    exact ⟨rfl, by repeat (first | (with_reducible first | exact HB1.out | apply below_alloc | apply pw_below_drewN | apply below_drew1) | exact HB1.out)⟩
  · rw [if_neg c1]
    have c1b : decide ((l.length : Int) < p + (y.length : Int)) = false := decide_eq_false c1
    have AE := Aside0.mk (impl_explainer.eq_f y ((l.take (p + (y.length : Int)).toNat).drop p.toNat) (by have := HPL.out; omega))
    obtain ⟨i031, hi031, _, hsz31, _⟩ := info_parts impl_explainer.info
    obtain ⟨Am, hcutm, hRm, hCm⟩ := print_mid_of (P := Try.prog) (Value.int .i64) 0 22 2 .i64 .i64 Try.underlying22 hi031 hsz31 A c l p (p + (y.length : Int)) hp.1 (by omega) (by omega) HC.out
    have HRM := Aside0.mk (show Kd.C (Kd.int .i64) w Am _ ((l.take (p + (y.length : Int)).toNat).drop p.toNat) from Kd.C_of_reads (h1 := fun _ => rfl) (hRm _ (Kd.reads_of_C HR.out)))
    have HCM := Aside0.mk hCm
    have hq0 : (0 : Int) ≤ p := hp.1
    have hq1 : p ≤ p + (y.length : Int) := by omega
    have hq2 : p + (y.length : Int) ≤ (l.length : Int) := by omega
    clear hRm hCm hi031 hsz31
    have hmlen := Aside0.mk (show ((l.take (p + (y.length : Int)).toNat).drop p.toNat).length = (p + (y.length : Int)).toNat - p.toNat from by rw [List.length_drop, List.length_take]; omega)
    by_cases c2 : y = (l.take (p + (y.length : Int)).toNat).drop p.toNat
    · rw [if_pos c2]
      have AE : Aside0 _ := ⟨(AE.out.trans (congrArg some (decide_eq_true c2)))⟩
      have hd := decide_eq_true c2
      clear c2
      go_enter Try.func66, Try.ntmps66
      go_wp2_with (first
        | (go_at_call 81; (with_reducible refine (impl_left.calls s kind (-1) y _ AL.out).mono ?_); rintro e w1 ⟨v1, rfl, hy1, hb1⟩; obtain ⟨Ao, co, rfl⟩ := Kd.R_slice hy1; have HY := Aside0.mk (Kd.R_reads' hy1).2.2; have HYC := Aside0.mk (Kd.R_reads' hy1).2.1; have HB1 := Aside0.mk (below_step (show Below w.heap.size w _ from by repeat (first | (with_reducible first | exact HB.out | apply below_alloc | apply pw_below_drewN | apply below_drew1) | exact HB.out)) hb1); have hc11 := pw_cell_below HB1.out hc1; have HR1 := Aside0.mk (Kd.C_below HR.out HB1.out); clear hy1 hb1)
        | (go_at_call 78; (with_reducible refine (impl_length_int64.calls Ao co y (y.length : Int) _ (by repeat (first | exact HY.out | (with_reducible refine Kd.C_drewN ?_ _) | (with_reducible refine Kd.C_drew ?_))) HYC.out rfl).mono ?_); rintro e w' ⟨rfl, ⟨nd, rfl⟩⟩)
        | (go_at_call 78; (with_reducible refine (impl_length_int64.calls A c l (l.length : Int) _ (by repeat (first | exact HR1.out | exact HR.out | (with_reducible refine Kd.C_drewN ?_ _) | (with_reducible refine Kd.C_drew ?_))) HC.out rfl).mono ?_); rintro e w' ⟨rfl, ⟨nd, rfl⟩⟩)
        | (go_at_call 69; (try rw [← hmlen.out]); (with_reducible refine (slices_Equal_int64_int64.calls (y.length + 1) Ao co y _ _ ((l.take (p + (y.length : Int)).toNat).drop p.toNat) _ _ (by repeat (first | exact HY.out | (with_reducible refine Kd.C_drewN ?_ _) | (with_reducible refine Kd.C_drew ?_))) HYC.out (by repeat (first | exact (Kd.C_below HRM.out HB1.out) | (with_reducible refine Kd.C_drewN ?_ _) | (with_reducible refine Kd.C_drew ?_))) HCM.out AE.out).mono ?_); rintro e w' ⟨rfl, ⟨nd, rfl⟩⟩))
      go_ret
      exact ⟨rfl, by repeat (first | (with_reducible first | exact HB1.out | apply below_alloc | apply pw_below_drewN | apply below_drew1) | exact HB1.out)⟩
    · rw [if_neg c2]
      have AE : Aside0 _ := ⟨(AE.out.trans (congrArg some (decide_eq_false c2)))⟩
      have hd := decide_eq_false c2
      clear c2
      go_enter Try.func66, Try.ntmps66
      go_wp2_with (first
        | (go_at_call 81; (with_reducible refine (impl_left.calls s kind (-1) y _ AL.out).mono ?_); rintro e w1 ⟨v1, rfl, hy1, hb1⟩; obtain ⟨Ao, co, rfl⟩ := Kd.R_slice hy1; have HY := Aside0.mk (Kd.R_reads' hy1).2.2; have HYC := Aside0.mk (Kd.R_reads' hy1).2.1; have HB1 := Aside0.mk (below_step (show Below w.heap.size w _ from by repeat (first | (with_reducible first | exact HB.out | apply below_alloc | apply pw_below_drewN | apply below_drew1) | exact HB.out)) hb1); have hc11 := pw_cell_below HB1.out hc1; have HR1 := Aside0.mk (Kd.C_below HR.out HB1.out); clear hy1 hb1)
        | (go_at_call 78; (with_reducible refine (impl_length_int64.calls Ao co y (y.length : Int) _ (by repeat (first | exact HY.out | (with_reducible refine Kd.C_drewN ?_ _) | (with_reducible refine Kd.C_drew ?_))) HYC.out rfl).mono ?_); rintro e w' ⟨rfl, ⟨nd, rfl⟩⟩)
        | (go_at_call 78; (with_reducible refine (impl_length_int64.calls A c l (l.length : Int) _ (by repeat (first | exact HR1.out | exact HR.out | (with_reducible refine Kd.C_drewN ?_ _) | (with_reducible refine Kd.C_drew ?_))) HC.out rfl).mono ?_); rintro e w' ⟨rfl, ⟨nd, rfl⟩⟩)
        | (go_at_call 69; (try rw [← hmlen.out]); (with_reducible refine (slices_Equal_int64_int64.calls (y.length + 1) Ao co y _ _ ((l.take (p + (y.length : Int)).toNat).drop p.toNat) _ _ (by repeat (first | exact HY.out | (with_reducible refine Kd.C_drewN ?_ _) | (with_reducible refine Kd.C_drew ?_))) HYC.out (by repeat (first | exact (Kd.C_below HRM.out HB1.out) | (with_reducible refine Kd.C_drewN ?_ _) | (with_reducible refine Kd.C_drew ?_))) HCM.out AE.out).mono ?_); rintro e w' ⟨rfl, ⟨nd, rfl⟩⟩))
      go_ret
      exact ⟨rfl, by repeat (first | (with_reducible first | exact HB1.out | apply below_alloc | apply pw_below_drewN | apply below_drew1) | exact HB1.out)⟩
set_option maxHeartbeats 1000000 in
set_option maxRecDepth 100000 in
theorem impl_explainer.next4 (l : List Int) (ge : Nat) (A : Option Addr) (c : Nat) (s p kind : Int) (w : World) (hc1 : w.cell? ⟨ge, 1, none⟩ = some (.slice A l.length c)) (hr : Kd.C (Kd.int .i64) w A l.length l) (hc : l.length ≤ c) (hs : 0 ≤ s ∧ s ≤ 12) (hp : 0 ≤ p ∧ p ≤ (l.length : Int)) (hl : l.length ≤ 24) (hv : ∀ x ∈ l, -12 ≤ x ∧ x ≤ 12) (hk : kind = 4) (h1 : p ≠ (l.length : Int)) (h2 : ¬ rd l p < 1) (h3 : rd l p ≠ s + 1) :
    Calls Try.prog 66 #[.pointer (some ⟨ge, 0, none⟩), .int .i64 s, .int .i64 p, .int .i64 kind] w fun e w' => e = .returned (.int .i64 (impl_explainer.tail l (impl_explainer.part s kind (rd l p)) p)) ∧ Below w.heap.size w w' := by
  have HB := Aside0.mk (Below.refl w.heap.size w)
  have HR := Aside0.mk hr
  have HC := Aside0.mk hc
  obtain ⟨ad, ea, hx⟩ := Kd.at_int hr p hp.1 (by omega)
  subst ea
  have hq3 : p < (l.length : Int) := by omega
  have hq0 : (0 : Int) ≤ p := hp.1
  have hxb := impl_explainer.rd_in hv p hp.1 hq3
  subst hk
  have AL := Aside0.mk (impl_explainer.left_f s 4 (rd l p) hs hxb)
  have HPL := Aside0.mk (impl_explainer.part_len s  4 (rd l p))
  have HL := Aside0.mk hl
  have HS := Aside0.mk hs
  have k1 : (p == (l.length : Int)) = false := beq_eq_false_iff_ne.mpr h1
  have k2 : decide (rd l p < 1) = false := decide_eq_false h2
  have k3 : (rd l p == wrap64 (s + 1)) = false := by rw [show wrap64 (s + 1) = s + 1 by unfold wrap64; omega]; exact beq_eq_false_iff_ne.mpr h3
  have k5 : wrap64 (rd l p - 1) = rd l p - 1 := by unfold wrap64; omega
  obtain ⟨y, hy⟩ : ∃ y, y = impl_explainer.part s  4 (rd l p) := ⟨_, rfl⟩
  rw [← hy] at AL HPL ⊢
  have hpl := HPL.out
  have hw : wrap64 (p + (y.length : Int)) = p + (y.length : Int) := by unfold wrap64; omega
  clear hy hs hr hc hpl hxb h1 h2 h3 hv
  unfold impl_explainer.tail
  by_cases c1 : p + (y.length : Int) > (l.length : Int)
  · rw [if_pos c1]
    have c1b : decide ((l.length : Int) < p + (y.length : Int)) = true := decide_eq_true c1
    go_enter Try.func66, Try.ntmps66
    go_wp2_with (first
      | (go_at_call 81; (with_reducible refine (impl_left.calls s 4 (rd l p - 1) y _ AL.out).mono ?_); rintro e w1 ⟨v1, rfl, hy1, hb1⟩; obtain ⟨Ao, co, rfl⟩ := Kd.R_slice hy1; have HY := Aside0.mk (Kd.R_reads' hy1).2.2; have HYC := Aside0.mk (Kd.R_reads' hy1).2.1; have HB1 := Aside0.mk (below_step (show Below w.heap.size w _ from by repeat (first | (with_reducible first | exact HB.out | apply below_alloc | apply pw_below_drewN | apply below_drew1) | exact HB.out)) hb1); have hc11 := pw_cell_below HB1.out hc1; have hx11 := pw_cell_below HB1.out hx; have HR1 := Aside0.mk (Kd.C_below HR.out HB1.out); clear hy1 hb1)
      | (go_at_call 78; (with_reducible refine (impl_length_int64.calls Ao co y (y.length : Int) _ (by repeat (first | exact HY.out | (with_reducible refine Kd.C_drewN ?_ _) | (with_reducible refine Kd.C_drew ?_))) HYC.out rfl).mono ?_); rintro e w' ⟨rfl, ⟨nd, rfl⟩⟩)
      | (go_at_call 78; (with_reducible refine (impl_length_int64.calls (some ad) c l (l.length : Int) _ (by repeat (first | exact HR1.out | exact HR.out | (with_reducible refine Kd.C_drewN ?_ _) | (with_reducible refine Kd.C_drew ?_))) HC.out rfl).mono ?_); rintro e w' ⟨rfl, ⟨nd, rfl⟩⟩))
    go_ret
    exact ⟨rfl, by repeat (first | (with_reducible first | exact HB1.out | apply below_alloc | apply pw_below_drewN | apply below_drew1) | exact HB1.out)⟩
  · rw [if_neg c1]
    have c1b : decide ((l.length : Int) < p + (y.length : Int)) = false := decide_eq_false c1
    have AE := Aside0.mk (impl_explainer.eq_f y ((l.take (p + (y.length : Int)).toNat).drop p.toNat) (by have := HPL.out; omega))
    obtain ⟨i031, hi031, _, hsz31, _⟩ := info_parts impl_explainer.info
    obtain ⟨Am, hcutm, hRm, hCm⟩ := print_mid_of (P := Try.prog) (Value.int .i64) 0 22 2 .i64 .i64 Try.underlying22 hi031 hsz31 (some ad) c l p (p + (y.length : Int)) hp.1 (by omega) (by omega) HC.out
    have HRM := Aside0.mk (show Kd.C (Kd.int .i64) w Am _ ((l.take (p + (y.length : Int)).toNat).drop p.toNat) from Kd.C_of_reads (h1 := fun _ => rfl) (hRm _ (Kd.reads_of_C HR.out)))
    have HCM := Aside0.mk hCm
    have hq1 : p ≤ p + (y.length : Int) := by omega
    have hq2 : p + (y.length : Int) ≤ (l.length : Int) := by omega
    clear hRm hCm hi031 hsz31
    have hmlen := Aside0.mk (show ((l.take (p + (y.length : Int)).toNat).drop p.toNat).length = (p + (y.length : Int)).toNat - p.toNat from by rw [List.length_drop, List.length_take]; omega)
    by_cases c2 : y = (l.take (p + (y.length : Int)).toNat).drop p.toNat
    · rw [if_pos c2]
      have AE : Aside0 _ := ⟨(AE.out.trans (congrArg some (decide_eq_true c2)))⟩
      have hd := decide_eq_true c2
      clear c2
      go_enter Try.func66, Try.ntmps66
      go_wp2_with (first
        | (go_at_call 81; (with_reducible refine (impl_left.calls s 4 (rd l p - 1) y _ AL.out).mono ?_); rintro e w1 ⟨v1, rfl, hy1, hb1⟩; obtain ⟨Ao, co, rfl⟩ := Kd.R_slice hy1; have HY := Aside0.mk (Kd.R_reads' hy1).2.2; have HYC := Aside0.mk (Kd.R_reads' hy1).2.1; have HB1 := Aside0.mk (below_step (show Below w.heap.size w _ from by repeat (first | (with_reducible first | exact HB.out | apply below_alloc | apply pw_below_drewN | apply below_drew1) | exact HB.out)) hb1); have hc11 := pw_cell_below HB1.out hc1; have hx11 := pw_cell_below HB1.out hx; have HR1 := Aside0.mk (Kd.C_below HR.out HB1.out); clear hy1 hb1)
        | (go_at_call 78; (with_reducible refine (impl_length_int64.calls Ao co y (y.length : Int) _ (by repeat (first | exact HY.out | (with_reducible refine Kd.C_drewN ?_ _) | (with_reducible refine Kd.C_drew ?_))) HYC.out rfl).mono ?_); rintro e w' ⟨rfl, ⟨nd, rfl⟩⟩)
        | (go_at_call 78; (with_reducible refine (impl_length_int64.calls (some ad) c l (l.length : Int) _ (by repeat (first | exact HR1.out | exact HR.out | (with_reducible refine Kd.C_drewN ?_ _) | (with_reducible refine Kd.C_drew ?_))) HC.out rfl).mono ?_); rintro e w' ⟨rfl, ⟨nd, rfl⟩⟩)
        | (go_at_call 69; (try rw [← hmlen.out]); (with_reducible refine (slices_Equal_int64_int64.calls (y.length + 1) Ao co y _ _ ((l.take (p + (y.length : Int)).toNat).drop p.toNat) _ _ (by repeat (first | exact HY.out | (with_reducible refine Kd.C_drewN ?_ _) | (with_reducible refine Kd.C_drew ?_))) HYC.out (by repeat (first | exact (Kd.C_below HRM.out HB1.out) | (with_reducible refine Kd.C_drewN ?_ _) | (with_reducible refine Kd.C_drew ?_))) HCM.out AE.out).mono ?_); rintro e w' ⟨rfl, ⟨nd, rfl⟩⟩))
      go_ret
      exact ⟨rfl, by repeat (first | (with_reducible first | exact HB1.out | apply below_alloc | apply pw_below_drewN | apply below_drew1) | exact HB1.out)⟩
    · rw [if_neg c2]
      have AE : Aside0 _ := ⟨(AE.out.trans (congrArg some (decide_eq_false c2)))⟩
      have hd := decide_eq_false c2
      clear c2
      go_enter Try.func66, Try.ntmps66
      go_wp2_with (first
        | (go_at_call 81; (with_reducible refine (impl_left.calls s 4 (rd l p - 1) y _ AL.out).mono ?_); rintro e w1 ⟨v1, rfl, hy1, hb1⟩; obtain ⟨Ao, co, rfl⟩ := Kd.R_slice hy1; have HY := Aside0.mk (Kd.R_reads' hy1).2.2; have HYC := Aside0.mk (Kd.R_reads' hy1).2.1; have HB1 := Aside0.mk (below_step (show Below w.heap.size w _ from by repeat (first | (with_reducible first | exact HB.out | apply below_alloc | apply pw_below_drewN | apply below_drew1) | exact HB.out)) hb1); have hc11 := pw_cell_below HB1.out hc1; have hx11 := pw_cell_below HB1.out hx; have HR1 := Aside0.mk (Kd.C_below HR.out HB1.out); clear hy1 hb1)
        | (go_at_call 78; (with_reducible refine (impl_length_int64.calls Ao co y (y.length : Int) _ (by repeat (first | exact HY.out | (with_reducible refine Kd.C_drewN ?_ _) | (with_reducible refine Kd.C_drew ?_))) HYC.out rfl).mono ?_); rintro e w' ⟨rfl, ⟨nd, rfl⟩⟩)
        | (go_at_call 78; (with_reducible refine (impl_length_int64.calls (some ad) c l (l.length : Int) _ (by repeat (first | exact HR1.out | exact HR.out | (with_reducible refine Kd.C_drewN ?_ _) | (with_reducible refine Kd.C_drew ?_))) HC.out rfl).mono ?_); rintro e w' ⟨rfl, ⟨nd, rfl⟩⟩)
        | (go_at_call 69; (try rw [← hmlen.out]); (with_reducible refine (slices_Equal_int64_int64.calls (y.length + 1) Ao co y _ _ ((l.take (p + (y.length : Int)).toNat).drop p.toNat) _ _ (by repeat (first | exact HY.out | (with_reducible refine Kd.C_drewN ?_ _) | (with_reducible refine Kd.C_drew ?_))) HYC.out (by repeat (first | exact (Kd.C_below HRM.out HB1.out) | (with_reducible refine Kd.C_drewN ?_ _) | (with_reducible refine Kd.C_drew ?_))) HCM.out AE.out).mono ?_); rintro e w' ⟨rfl, ⟨nd, rfl⟩⟩))
      go_ret
      exact ⟨rfl, by repeat (first | (with_reducible first | exact HB1.out | apply below_alloc | apply pw_below_drewN | apply below_drew1) | exact HB1.out)⟩
set_option maxHeartbeats 1000000 in
set_option maxRecDepth 100000 in
theorem impl_explainer.next4a (l : List Int) (ge : Nat) (A : Option Addr) (c : Nat) (s p : Int) (w : World) (hc1 : w.cell? ⟨ge, 1, none⟩ = some (.slice A l.length c)) (hr : Kd.C (Kd.int .i64) w A l.length l) (hc : l.length ≤ c) (hs : 0 ≤ s ∧ s ≤ 12) (hp : 0 ≤ p ∧ p ≤ (l.length : Int)) (h1 : p = (l.length : Int)) :
    Calls Try.prog 66 #[.pointer (some ⟨ge, 0, none⟩), .int .i64 s, .int .i64 p, .int .i64 4] w fun e w' => e = .returned (.int .i64 (-1)) ∧ Below w.heap.size w w' := by
  have HB := Aside0.mk (Below.refl w.heap.size w)
  have HR := Aside0.mk hr
  have HC := Aside0.mk hc
  have k1 : (p == (l.length : Int)) = true := beq_iff_eq.mpr h1
  clear hr hc hs h1
  go_enter Try.func66, Try.ntmps66
  go_wp2_with (first
    | (go_at_call 78; (with_reducible refine (impl_length_int64.calls A c l (l.length : Int) _ (by repeat (first | exact HR.out | (with_reducible refine Kd.C_drewN ?_ _) | (with_reducible refine Kd.C_drew ?_))) HC.out rfl).mono ?_); rintro e w' ⟨rfl, ⟨nd, rfl⟩⟩))
  repeat (go_quiet (fail); try go_wp2)
  go_ret
  exact ⟨rfl, by repeat (first | (with_reducible first | exact HB.out | apply below_alloc | apply pw_below_drewN | apply below_drew1) | exact HB.out)⟩
set_option maxHeartbeats 1000000 in
set_option maxRecDepth 100000 in
theorem impl_explainer.next4b (l : List Int) (ge : Nat) (A : Option Addr) (c : Nat) (s p : Int) (w : World) (hc1 : w.cell? ⟨ge, 1, none⟩ = some (.slice A l.length c)) (hr : Kd.C (Kd.int .i64) w A l.length l) (hc : l.length ≤ c) (hs : 0 ≤ s ∧ s ≤ 12) (hp : 0 ≤ p ∧ p ≤ (l.length : Int)) (h1 : p ≠ (l.length : Int)) (h2 : rd l p < 1) :
    Calls Try.prog 66 #[.pointer (some ⟨ge, 0, none⟩), .int .i64 s, .int .i64 p, .int .i64 4] w fun e w' => e = .returned (.int .i64 (-1)) ∧ Below w.heap.size w w' := by
  have HB := Aside0.mk (Below.refl w.heap.size w)
  have HR := Aside0.mk hr
  have HC := Aside0.mk hc
  obtain ⟨ad, ea, hx⟩ := Kd.at_int hr p hp.1 (by omega)
  subst ea
  have hq3 : p < (l.length : Int) := by omega
  have hq0 : (0 : Int) ≤ p := hp.1
  have k1 : (p == (l.length : Int)) = false := beq_eq_false_iff_ne.mpr h1
  have k2 : decide (rd l p < 1) = true := decide_eq_true h2
  clear hr hc hs h1 h2
  go_enter Try.func66, Try.ntmps66
  go_wp2_with (first
    | (go_at_call 78; (with_reducible refine (impl_length_int64.calls (some ad) c l (l.length : Int) _ (by repeat (first | exact HR.out | (with_reducible refine Kd.C_drewN ?_ _) | (with_reducible refine Kd.C_drew ?_))) HC.out rfl).mono ?_); rintro e w' ⟨rfl, ⟨nd, rfl⟩⟩))
  repeat (go_quiet (fail); try go_wp2)
  go_ret
  exact ⟨rfl, by repeat (first | (with_reducible first | exact HB.out | apply below_alloc | apply pw_below_drewN | apply below_drew1) | exact HB.out)⟩
set_option maxHeartbeats 1000000 in
set_option maxRecDepth 100000 in
theorem impl_explainer.next4c (l : List Int) (ge : Nat) (A : Option Addr) (c : Nat) (s p : Int) (w : World) (hc1 : w.cell? ⟨ge, 1, none⟩ = some (.slice A l.length c)) (hr : Kd.C (Kd.int .i64) w A l.length l) (hc : l.length ≤ c) (hs : 0 ≤ s ∧ s ≤ 12) (hp : 0 ≤ p ∧ p ≤ (l.length : Int)) (h1 : p ≠ (l.length : Int)) (h2 : ¬ rd l p < 1) (h3 : rd l p = s + 1) :
    Calls Try.prog 66 #[.pointer (some ⟨ge, 0, none⟩), .int .i64 s, .int .i64 p, .int .i64 4] w fun e w' => e = .returned (.int .i64 (-1)) ∧ Below w.heap.size w w' := by
  have HB := Aside0.mk (Below.refl w.heap.size w)
  have HR := Aside0.mk hr
  have HC := Aside0.mk hc
  obtain ⟨ad, ea, hx⟩ := Kd.at_int hr p hp.1 (by omega)
  subst ea
  have hq3 : p < (l.length : Int) := by omega
  have hq0 : (0 : Int) ≤ p := hp.1
  have k1 : (p == (l.length : Int)) = false := beq_eq_false_iff_ne.mpr h1
  have k2 : decide (rd l p < 1) = false := decide_eq_false h2
  have k3 : (rd l p == wrap64 (s + 1)) = true := by rw [show wrap64 (s + 1) = s + 1 by unfold wrap64; omega]; exact beq_iff_eq.mpr h3
  clear hr hc hs h1 h2 h3
  go_enter Try.func66, Try.ntmps66
  go_wp2_with (first
    | (go_at_call 78; (with_reducible refine (impl_length_int64.calls (some ad) c l (l.length : Int) _ (by repeat (first | exact HR.out | (with_reducible refine Kd.C_drewN ?_ _) | (with_reducible refine Kd.C_drew ?_))) HC.out rfl).mono ?_); rintro e w' ⟨rfl, ⟨nd, rfl⟩⟩))
  repeat (go_quiet (fail); try go_wp2)
  go_ret
  exact ⟨rfl, by repeat (first | (with_reducible first | exact HB.out | apply below_alloc | apply pw_below_drewN | apply below_drew1) | exact HB.out)⟩
theorem impl_explainer.next (l : List Int) (ge : Nat) (A : Option Addr) (c : Nat) (s p kind : Int) (w : World) (hc1 : w.cell? ⟨ge, 1, none⟩ = some (.slice A l.length c)) (hr : Kd.C (Kd.int .i64) w A l.length l) (hc : l.length ≤ c) (hs : 0 ≤ s ∧ s ≤ 12) (hp : 0 ≤ p ∧ p ≤ (l.length : Int)) (hl : l.length ≤ 24) (hv : ∀ x ∈ l, -12 ≤ x ∧ x ≤ 12) :
    Calls Try.prog 66 #[.pointer (some ⟨ge, 0, none⟩), .int .i64 s, .int .i64 p, .int .i64 kind] w fun e w' => e = .returned (.int .i64 (impl_explainer.nx l s p kind)) ∧ Below w.heap.size w w' := by
  unfold impl_explainer.nx
  by_cases hk : kind = 4
  · by_cases h1 : p = (l.length : Int)
    · rw [if_pos ⟨hk, .inl h1⟩, hk]
      exact impl_explainer.next4a l ge A c s p w hc1 hr hc hs hp h1
    · by_cases h2 : rd l p < 1
      · rw [if_pos ⟨hk, .inr (.inl h2)⟩, hk]
        exact impl_explainer.next4b l ge A c s p w hc1 hr hc hs hp h1 h2
      · by_cases h3 : rd l p = s + 1
        · rw [if_pos ⟨hk, .inr (.inr h3)⟩, hk]
          exact impl_explainer.next4c l ge A c s p w hc1 hr hc hs hp h1 h2 h3
        · rw [if_neg (fun g => by rcases g.2 with g | g | g <;> contradiction)]
          exact impl_explainer.next4 l ge A c s p kind w hc1 hr hc hs hp hl hv hk h1 h2 h3
  · rw [if_neg (fun g => hk g.1)]
    exact impl_explainer.next3 l ge A c s p kind w hc1 hr hc hs hp hl hk
def impl_explainer.stepB (l : List Int) (s p : Int) (F : Int → Int) (b : Int) (k : Nat) : Int := if impl_explainer.nx l s p (k : Int) ≥ 0 then min b (F (impl_explainer.nx l s p (k : Int)) + (if k > 0 then 1 else 0)) else b
def impl_explainer.few (l : List Int) (n : Int) : Nat → Int → Int
  | 0, p => if p = (l.length : Int) then 0 else 1000000000
  | d + 1, p => (List.range 5).foldl (impl_explainer.stepB l (n - ((d : Int) + 1)) p (impl_explainer.few l n d)) 1000000000
theorem impl_explainer.fold_le (l : List Int) (s p : Int) (F : Int → Int) (hF : ∀ q, 0 ≤ F q) (ks : List Nat) : ∀ b : Int, 0 ≤ b → 0 ≤ ks.foldl (impl_explainer.stepB l s p F) b ∧ ks.foldl (impl_explainer.stepB l s p F) b ≤ b := by
  induction ks with
  | nil => intro b hb; exact ⟨hb, Int.le_refl _⟩
  | cons k ks ih =>
    intro b hb
    have h1 : 0 ≤ impl_explainer.stepB l s p F b k ∧ impl_explainer.stepB l s p F b k ≤ b := by
      unfold impl_explainer.stepB
      have := hF (impl_explainer.nx l s p (k : Int))
      by_cases c : impl_explainer.nx l s p (k : Int) ≥ 0
      · rw [if_pos c]
        by_cases c2 : k > 0
        · rw [if_pos c2]; omega
        · rw [if_neg c2]; omega
      · rw [if_neg c]; omega
    have h2 := ih _ h1.1
    exact ⟨h2.1, Int.le_trans h2.2 h1.2⟩
theorem impl_explainer.few_in (l : List Int) (n : Int) (d : Nat) : ∀ p, 0 ≤ impl_explainer.few l n d p ∧ impl_explainer.few l n d p ≤ 1000000000 := by
  induction d with
  | zero => intro p; unfold impl_explainer.few; split <;> decide
  | succ d ih => intro p; unfold impl_explainer.few; exact impl_explainer.fold_le l _ p _ (fun q => (ih q).1) _ _ (by decide)
def impl_explainer.K (s p : Int) : Lit := .string (keyBytes [.int .i64 s, .int .i64 p])
theorem impl_explainer.laid : laidOutB Try.prog = true := by kernel_rfl
theorem impl_explainer.arr : WideMaps.ArrKey Try.prog 90 2 2 := ⟨Try.underlying90, by kernel_rfl, by kernel_rfl, by kernel_rfl⟩
theorem impl_explainer.law : Go.Maps.Keyed Try.prog 90 := Go.Maps.Keyed.of_law (deep_law_laid impl_explainer.laid (m := 2) (by omega) (show (90 : TypeId) < Try.prog.types.size from of_decide_eq_true (by kernel_rfl)) (by kernel_rfl) (by rw [Try.underlying90]))
theorem impl_explainer.wf {x : Int} (h : 0 ≤ x ∧ x ≤ 1000000000) : (Lit.int .i64 x).wf = true := by
  simp [Lit.wf, IntKind.min, IntKind.max, IntKind.signed, IntKind.bits]
  omega
theorem impl_explainer.key {s p : Int} (hs : 0 ≤ s ∧ s ≤ 12) (hp : 0 ≤ p ∧ p ≤ 24) : keyOf Try.prog 90 (.agg #[.int .i64 s, .int .i64 p]) = some (impl_explainer.K s p) :=
  WideMaps.keyOf_pair impl_explainer.arr Try.underlying2 ⟨Try.prog.types.size - 1, by kernel_rfl⟩ (impl_explainer.wf (by omega)) (impl_explainer.wf (by omega))
theorem impl_explainer.key_inj {s p s' p' : Int} (hs : 0 ≤ s ∧ s ≤ 12) (hp : 0 ≤ p ∧ p ≤ 24) (hs' : 0 ≤ s' ∧ s' ≤ 12) (hp' : 0 ≤ p' ∧ p' ≤ 24) (h : impl_explainer.K s p = impl_explainer.K s' p') : s = s' ∧ p = p' := by
  have h1 := impl_explainer.law.inj (impl_explainer.key hs hp) ((impl_explainer.key hs' hp').trans (congrArg some h.symm))
  injection h1 with h1
  injection h1 with h1
  injection h1 with a1 h1
  injection h1 with a2 _
  injection a1 with _ a1
  injection a2 with _ a2
  exact ⟨a1, a2⟩
/-- What the memo holds. -/
def impl_explainer.MI (l : List Int) (n : Int) (D : DataW Unit) : Prop := ∀ (d : Nat) (p : Int), (d : Int) ≤ n → 0 ≤ p ∧ p ≤ (l.length : Int) → Go.Maps.has D (impl_explainer.K (n - (d : Int)) p) = true → D.atKey (impl_explainer.K (n - (d : Int)) p) (.lit (.int .i64 0)) = .lit (.int .i64 (impl_explainer.few l n d p))
theorem impl_explainer.mi_nil (l : List Int) (n : Int) : impl_explainer.MI l n (.map []) := by
  intro d p _ _ h
  simp [Go.Maps.has] at h
theorem impl_explainer.mi_put {l : List Int} {n : Int} {D : DataW Unit} (hn : n ≤ 12) (hl : l.length ≤ 24) (hD : Go.Maps.IsMap D) (h : impl_explainer.MI l n D) {d : Nat} {p : Int} (hd : (d : Int) ≤ n) (hp : 0 ≤ p ∧ p ≤ (l.length : Int)) : impl_explainer.MI l n (D.put (impl_explainer.K (n - (d : Int)) p) (.lit (.int .i64 (impl_explainer.few l n d p)))) := by
  intro d' p' hd' hp' hh
  by_cases e : impl_explainer.K (n - (d' : Int)) p' = impl_explainer.K (n - (d : Int)) p
  · obtain ⟨e1, e2⟩ := impl_explainer.key_inj (by omega) (by omega) (by omega) (by omega) e
    have e3 : d' = d := by omega
    subst e3 e2
    rw [Go.Maps.atKey_put_same hD (show WideAt.IsKeyLit (impl_explainer.K _ _) from trivial)]
  · rw [Go.Maps.atKey_put_other e]
    rw [Go.Maps.has_put_other e] at hh
    exact h d' p' hd' hp' hh
theorem impl_explainer.cell {w : World} {g i : Nat} {cs : Array Value} {t : TypeId} {fz : Nat × Nat} {v : Value} (h : w.heap[g]? = some (.cells cs t fz)) (hi : cs[i]? = some v) : w.cell? ⟨g, i, none⟩ = some v := by
  unfold World.cell?
  simp [h, hi]
/-- The explainer in memory. -/
structure impl_explainer.Is (w : World) (ge bm : Nat) (n : Int) (A : Option Addr) (c : Nat) (l : List Int) : Prop where
  blk : w.heap[ge]? = some (.cells #[.int .i64 n, .slice A l.length c, .map (some bm)] 77 (0, 0))
  ne : ge ≠ bm
  row : ∀ W', KeepBut w W' bm none → Kd.C (Kd.int .i64) W' A l.length l
  cap : l.length ≤ c
theorem impl_explainer.Is.keep {w W : World} {ge bm : Nat} {n : Int} {A : Option Addr} {c : Nat} {l : List Int} (h : impl_explainer.Is w ge bm n A c l) (hk : KeepBut w W bm none) : impl_explainer.Is W ge bm n A c l :=
  ⟨hk.blk h.blk h.ne (by simp), h.ne, Kd.C_foot_step h.row hk, h.cap⟩
theorem impl_explainer.Is.c0 {w : World} {ge bm : Nat} {n : Int} {A : Option Addr} {c : Nat} {l : List Int} (h : impl_explainer.Is w ge bm n A c l) : w.cell? ⟨ge, 0, none⟩ = some (.int .i64 n) := impl_explainer.cell h.blk rfl
theorem impl_explainer.Is.c1 {w : World} {ge bm : Nat} {n : Int} {A : Option Addr} {c : Nat} {l : List Int} (h : impl_explainer.Is w ge bm n A c l) : w.cell? ⟨ge, 1, none⟩ = some (.slice A l.length c) := impl_explainer.cell h.blk rfl
theorem impl_explainer.Is.c2 {w : World} {ge bm : Nat} {n : Int} {A : Option Addr} {c : Nat} {l : List Int} (h : impl_explainer.Is w ge bm n A c l) : w.cell? ⟨ge, 2, none⟩ = some (.map (some bm)) := impl_explainer.cell h.blk rfl
theorem impl_explainer.Is.r {w : World} {ge bm : Nat} {n : Int} {A : Option Addr} {c : Nat} {l : List Int} (h : impl_explainer.Is w ge bm n A c l) : Kd.C (Kd.int .i64) w A l.length l := h.row w (KeepBut.refl w bm none)
set_option maxHeartbeats 1000000 in
set_option maxRecDepth 100000 in
theorem impl_explainer.few0 (l : List Int) (n : Int) (ge bm : Nat) (A : Option Addr) (c : Nat) (p : Int) (w : World) (hI : impl_explainer.Is w ge bm n A c l) :
    Calls Try.prog 65 #[.pointer (some ⟨ge, 0, none⟩), .int .i64 n, .int .i64 p] w fun e w' => e = .returned (.int .i64 (impl_explainer.few l n 0 p)) ∧ Below w.heap.size w w' := by
  have HB := Aside0.mk (Below.refl w.heap.size w)
  have HR := Aside0.mk hI.r
  have HC := Aside0.mk hI.cap
  have hc0 := hI.c0
  have hc1 := hI.c1
  clear hI
  unfold impl_explainer.few
  have k0 : (n == n) = true := beq_self_eq_true n
  by_cases h1 : p = (l.length : Int)
  · rw [if_pos h1]
    have k1 : (p == (l.length : Int)) = true := beq_iff_eq.mpr h1
    clear h1
    go_enter Try.func65, Try.ntmps65
    go_wp2_with (first
      | (go_at_call 78; (with_reducible refine (impl_length_int64.calls A c l (l.length : Int) _ (by repeat (first | exact HR.out | (with_reducible refine Kd.C_drewN ?_ _) | (with_reducible refine Kd.C_drew ?_))) HC.out rfl).mono ?_); rintro e w' ⟨rfl, ⟨nd, rfl⟩⟩))
    repeat (go_quiet (fail); try go_wp2)
    go_ret
    exact ⟨rfl, by repeat (first | (with_reducible first | exact HB.out | apply below_alloc | apply pw_below_drewN | apply below_drew1) | exact HB.out)⟩
  · rw [if_neg h1]
    have k1 : (p == (l.length : Int)) = false := beq_eq_false_iff_ne.mpr h1
    clear h1
    go_enter Try.func65, Try.ntmps65
    go_wp2_with (first
      | (go_at_call 78; (with_reducible refine (impl_length_int64.calls A c l (l.length : Int) _ (by repeat (first | exact HR.out | (with_reducible refine Kd.C_drewN ?_ _) | (with_reducible refine Kd.C_drew ?_))) HC.out rfl).mono ?_); rintro e w' ⟨rfl, ⟨nd, rfl⟩⟩))
    repeat (go_quiet (fail); try go_wp2)
    go_ret
    exact ⟨rfl, by repeat (first | (with_reducible first | exact HB.out | apply below_alloc | apply pw_below_drewN | apply below_drew1) | exact HB.out)⟩
theorem impl_explainer.look {W : World} {bm nm : Nat} {D : DataW Unit} (hM : W.ownsMap Try.prog 90 (plainElem Try.prog 2) bm nm D) {s p : Int} (hk : keyOf Try.prog 90 (.agg #[.int .i64 s, .int .i64 p]) = some (impl_explainer.K s p)) :
    ∃ c : Int, (∀ m, (Instr.lookup 75 (.map (some bm)) (.agg #[.int .i64 s, .int .i64 p]) true).run Try.prog (W.drewN m) = .ok (.tuple #[.int .i64 c, .bool (Go.Maps.has D (impl_explainer.K s p))]) (W.drewN m)) ∧ D.atKey (impl_explainer.K s p) (.lit (.int .i64 0)) = .lit (.int .i64 c) := by
  have hz : ∀ X : World, (zeroValue 2).run Try.prog X = .ok (.int .i64 0) X := fun X => by first | rfl | (simp [zeroValue]; rfl)
  have key : ∀ m, ∃ c : Int, (Instr.lookup 75 (.map (some bm)) (.agg #[.int .i64 s, .int .i64 p]) true).run Try.prog (W.drewN m) = .ok (.tuple #[.int .i64 c, .bool (Go.Maps.has D (impl_explainer.K s p))]) (W.drewN m) ∧ D.atKey (impl_explainer.K s p) (.lit (.int .i64 0)) = .lit (.int .i64 c) := fun m => by
    obtain ⟨v, ps, h1, h2⟩ := (show (W.drewN m).ownsMap Try.prog 90 (plainElem Try.prog 2) bm nm D from hM).look_ok impl_explainer.law Try.underlying75 (hz _) (zd := .lit (.int .i64 0)) (zp := []) (plainElem_int Try.underlying2 (by decide)) hk
    obtain ⟨c, rfl, hc, _⟩ := plainElem_int_inv Try.underlying2 h2
    exact ⟨c, h1, congrArg Prod.fst hc⟩
  obtain ⟨c, _, hc⟩ := key 0
  refine ⟨c, fun m => ?_, hc⟩
  obtain ⟨c', h1, hc'⟩ := key m
  have e := hc.symm.trans hc'
  injection e with e
  injection e with _ e
  rw [e]
  exact h1
set_option maxHeartbeats 1000000 in
set_option maxRecDepth 100000 in
theorem impl_explainer.fewHas (l : List Int) (n : Int) (ge bm : Nat) (A : Option Addr) (c : Nat) (d : Nat) (p : Int) (w : World) (nm : Nat) (D : DataW Unit) (hI : impl_explainer.Is w ge bm n A c l) (hM : w.ownsMap Try.prog 90 (plainElem Try.prog 2) bm nm D) (hD : impl_explainer.MI l n D) (hn : n ≤ 12) (hl : l.length ≤ 24) (hd : (d : Int) + 1 ≤ n) (hp : 0 ≤ p ∧ p ≤ (l.length : Int)) (hh : Go.Maps.has D (impl_explainer.K (n - ((d + 1 : Nat) : Int)) p) = true) :
    Calls Try.prog 65 #[.pointer (some ⟨ge, 0, none⟩), .int .i64 (n - ((d + 1 : Nat) : Int)), .int .i64 p] w fun e w' => e = .returned (.int .i64 (impl_explainer.few l n (d + 1) p)) ∧ Below w.heap.size w w' := by
  have hc0 := hI.c0
  have hc2 := hI.c2
  obtain ⟨s, hs⟩ : ∃ s : Int, s = n - ((d + 1 : Nat) : Int) := ⟨_, rfl⟩
  have HAT := Aside0.mk (hD (d + 1) p (by omega) hp (by exact hh))
  rw [← hs] at hh HAT ⊢
  have HKEY := Aside0.mk (impl_explainer.key (s := s) (p := p) (by omega) (by omega))
  have HM := Aside0.mk hM
  obtain ⟨v, hlk, hv⟩ := impl_explainer.look (hM.alloc (.cells #[.int .i64 s, .int .i64 p] 90)) HKEY.out
  have hv := hv.symm.trans HAT.out
  injection hv with hv
  injection hv with _ hv
  subst hv
  rw [hh] at hlk
  have hlk1 : (Instr.lookup 75 (.map (some bm)) (.agg #[.int .i64 s, .int .i64 p]) true).run Try.prog (w.alloc (.cells #[.int .i64 s, .int .i64 p] 90)).drew = .ok (.tuple #[.int .i64 (impl_explainer.few l n (d + 1) p), .bool true]) (w.alloc (.cells #[.int .i64 s, .int .i64 p] 90)).drew := hlk 1
  have hca : (w.alloc (.cells #[.int .i64 s, .int .i64 p] 90)).cell? ⟨ge, 2, none⟩ = some (.map (some bm)) := pw_cell_below (below_alloc (Below.refl w.heap.size w) _) hc2
  have k0 : (s == n) = false := beq_eq_false_iff_ne.mpr (by omega)
  clear hI hD hd hs hlk hc2
  go_enter Try.func65, Try.ntmps65
  go_wp2
  go_region
  go_wp2
  go_ret
  exact ⟨rfl, by repeat (first | (with_reducible first | exact Below.refl _ _ | apply below_alloc | apply pw_below_drewN | apply below_drew1) | exact Below.refl _ _)⟩
theorem impl_explainer.low {w w' : World} {b : Nat} (h : Below w.heap.size w w') (hb : b < w.heap.size) : Below b w w' := ⟨h.os, h.tape, h.output, h.size, fun k hk => h.block k (by omega)⟩
theorem impl_explainer.nx_in {l : List Int} {s p k : Int} (hp : 0 ≤ p ∧ p ≤ (l.length : Int)) (h : impl_explainer.nx l s p k ≥ 0) : 0 ≤ impl_explainer.nx l s p k ∧ impl_explainer.nx l s p k ≤ (l.length : Int) := by
  refine ⟨h, ?_⟩
  unfold impl_explainer.nx impl_explainer.tail at *
  repeat' split
  all_goals first | omega | simp_all
theorem impl_explainer.owns {w W : World} {bm nm : Nat} {D : DataW Unit} (h : w.ownsMap Try.prog 90 (plainElem Try.prog 2) bm nm D) (e : W.heap[bm]? = w.heap[bm]?) : W.ownsMap Try.prog 90 (plainElem Try.prog 2) bm nm D := by
  obtain ⟨es, clock, hb, r⟩ := h
  exact ⟨es, clock, e.trans hb, r⟩
def impl_explainer.Spec (l : List Int) (n : Int) (ge bm : Nat) (A : Option Addr) (c : Nat) (d : Nat) : Prop := ∀ (p : Int) (w : World) (nm : Nat) (D : DataW Unit), impl_explainer.Is w ge bm n A c l → w.ownsMap Try.prog 90 (plainElem Try.prog 2) bm nm D → impl_explainer.MI l n D → 0 ≤ p ∧ p ≤ (l.length : Int) → nm + 6 ^ d ≤ 4611686018427387904 →
    Calls Try.prog 65 #[.pointer (some ⟨ge, 0, none⟩), .int .i64 (n - (d : Int)), .int .i64 p] w fun e w' => e = .returned (.int .i64 (impl_explainer.few l n d p)) ∧ KeepBut w w' bm none ∧ Below bm w w' ∧ ∃ (nm' : Nat) (D' : DataW Unit), nm' ≤ nm + 6 ^ d ∧ w'.ownsMap Try.prog 90 (plainElem Try.prog 2) bm nm' D' ∧ impl_explainer.MI l n D'
def impl_explainer.at_ (l : List Int) (n : Int) (d : Nat) (p : Int) (j : Nat) : Int := (List.range j).foldl (impl_explainer.stepB l (n - ((d : Int) + 1)) p (impl_explainer.few l n d)) 1000000000
theorem impl_explainer.at_succ (l : List Int) (n : Int) (d : Nat) (p : Int) (j : Nat) : impl_explainer.at_ l n d p (j + 1) = impl_explainer.stepB l (n - ((d : Int) + 1)) p (impl_explainer.few l n d) (impl_explainer.at_ l n d p j) j := by
  unfold impl_explainer.at_
  rw [List.range_succ, List.foldl_append]
  rfl
theorem impl_explainer.at_in (l : List Int) (n : Int) (d : Nat) (p : Int) (j : Nat) : 0 ≤ impl_explainer.at_ l n d p j ∧ impl_explainer.at_ l n d p j ≤ 1000000000 := impl_explainer.fold_le l _ p _ (fun q => (impl_explainer.few_in l n d q).1) _ _ (by decide)
set_option maxHeartbeats 1000000 in
set_option maxRecDepth 100000 in
theorem impl_explainer.fewNot (l : List Int) (n : Int) (ge bm : Nat) (A : Option Addr) (c : Nat) (d : Nat) (ih : impl_explainer.Spec l n ge bm A c d) (p : Int) (w : World) (nm : Nat) (D : DataW Unit) (hI : impl_explainer.Is w ge bm n A c l) (hM : w.ownsMap Try.prog 90 (plainElem Try.prog 2) bm nm D) (hD : impl_explainer.MI l n D) (hn : n ≤ 12) (hl : l.length ≤ 24) (hv : ∀ x ∈ l, -12 ≤ x ∧ x ≤ 12) (hd : (d : Int) + 1 ≤ n) (hp : 0 ≤ p ∧ p ≤ (l.length : Int)) (hcap : nm + 6 ^ (d + 1) ≤ 4611686018427387904) (hh : Go.Maps.has D (impl_explainer.K (n - ((d + 1 : Nat) : Int)) p) = false) :
    Calls Try.prog 65 #[.pointer (some ⟨ge, 0, none⟩), .int .i64 (n - ((d + 1 : Nat) : Int)), .int .i64 p] w fun e w' => e = .returned (.int .i64 (impl_explainer.few l n (d + 1) p)) ∧ KeepBut w w' bm none ∧ Below bm w w' ∧ ∃ (nm' : Nat) (D' : DataW Unit), nm' ≤ nm + 6 ^ (d + 1) ∧ w'.ownsMap Try.prog 90 (plainElem Try.prog 2) bm nm' D' ∧ impl_explainer.MI l n D' := by
  have hc0 := hI.c0
  have hc2 := hI.c2
  have IH := Aside0.mk ih
  have HI := Aside0.mk hI
  have HM := Aside0.mk hM
  have HD := Aside0.mk hD
  have HV := Aside0.mk hv
  have HL := Aside0.mk hl
  have HP := Aside0.mk hp
  have HCAP := Aside0.mk hcap
  have HLT := Aside0.mk hM.lt
  obtain ⟨s, hs⟩ : ∃ s : Int, s = n - ((d + 1 : Nat) : Int) := ⟨_, rfl⟩
  have HS := Aside0.mk hs
  obtain ⟨s1, hs1⟩ : ∃ s1 : Int, s1 = n - (d : Int) := ⟨_, rfl⟩
  have HS1 := Aside0.mk hs1
  have HSB := Aside0.mk (show 0 ≤ s ∧ s ≤ 12 by omega)
  rw [← hs] at hh ⊢
  have HKEY := Aside0.mk (impl_explainer.key (s := s) (p := p) (by omega) (by omega))
  have k0 : (s == n) = false := beq_eq_false_iff_ne.mpr (by omega)
  have hw1 : wrap64 (s + 1) = s1 := by unfold wrap64; omega
  obtain ⟨v, hlk, _⟩ := impl_explainer.look (hM.alloc (.cells #[.int .i64 s, .int .i64 p] 90)) HKEY.out
  rw [hh] at hlk
  have hlk1 : (Instr.lookup 75 (.map (some bm)) (.agg #[.int .i64 s, .int .i64 p]) true).run Try.prog (w.alloc (.cells #[.int .i64 s, .int .i64 p] 90)).drew = .ok (.tuple #[.int .i64 v, .bool false]) (w.alloc (.cells #[.int .i64 s, .int .i64 p] 90)).drew := hlk 1
  have hca : (w.alloc (.cells #[.int .i64 s, .int .i64 p] 90)).cell? ⟨ge, 2, none⟩ = some (.map (some bm)) := pw_cell_below (below_alloc (Below.refl w.heap.size w) _) hc2
  have HM1 := Aside0.mk (show ((w.alloc (.cells #[.int .i64 s, .int .i64 p] 90)).drew).ownsMap Try.prog 90 (plainElem Try.prog 2) bm nm D from hM.alloc _)
  have HB1 := Aside0.mk (show Below w.heap.size w ((w.alloc (.cells #[.int .i64 s, .int .i64 p] 90)).drew) from by repeat (first | apply below_drew1 | apply below_alloc | exact Below.refl _ _))
  have HKB := Aside0.mk (show ((w.alloc (.cells #[.int .i64 s, .int .i64 p] 90)).drew).heap[w.heap.size]? = some (.cells #[.int .i64 s, .int .i64 p] 90 (0, 0)) from by show (w.heap.push _)[w.heap.size]? = _; simp)
  clear hI hD hd hs hs1 hlk hc2 hM hv hl hp hcap ih
  go_enter Try.func65, Try.ntmps65
  go_wp2
  go_region
  generalize (w.alloc (.cells #[.int .i64 s, .int .i64 p] 90)).drew = w2 at HM1 HB1 HKB ⊢
  have HI2 := Aside0.mk (HI.out.keep (KeepBut.of_below (show Below w.heap.size w w2 from HB1.out) bm none))
  obtain ⟨kb, hks⟩ : ∃ kb, w.heap.size = kb := ⟨_, rfl⟩
  have HKS := Aside0.mk hks
  rw [hks] at HLT HB1 HKB ⊢
  clear hks
  go_wp2
  go_loopg [10, 40] 5 (fun gg v10 v40 wr => ∃ (j nj : Nat) (Dj : DataW Unit), v10 = .int .i64 (impl_explainer.at_ l n d p j) ∧ v40 = .int .i64 (j : Int) ∧ Aside0 (gg + j = 5) ∧ Aside0 (KeepBut w2 wr bm none) ∧ Aside0 (Below bm w2 wr) ∧ Aside0 (wr.ownsMap Try.prog 90 (plainElem Try.prog 2) bm nj Dj) ∧ Aside0 (nj ≤ nm + j * 6 ^ d) ∧ Aside0 (impl_explainer.MI l n Dj))
  case atStart => exact ⟨0, nm, D, rfl, rfl, ⟨by omega⟩, ⟨KeepBut.refl _ _ _⟩, ⟨Below.refl _ _⟩, HM1, ⟨by omega⟩, HD⟩
  case round =>
    obtain ⟨j, nj, Dj, rfl, rfl, HJ, HK, HBm, HMj, HN, HDj⟩ := hrel
    have HIr := Aside0.mk (HI2.out.keep HK.out)
    have hat := impl_explainer.at_in l n d p j
    have HA := Aside0.mk (impl_explainer.at_succ l n d p j)
    have hci1 := HIr.out.c1
    by_cases cj : (j : Int) < 5
    · have cb : decide ((j : Int) < 5) = true := decide_eq_true cj
      have hwj : wrap64 ((j : Int) + 1) = ((j + 1 : Nat) : Int) := by unfold wrap64; omega
      have HCJ := Aside0.mk cj
      have HNX := Aside0.mk (impl_explainer.next l ge A c s p (j : Int) wr hci1 HIr.out.r HIr.out.cap HSB.out HP.out HL.out HV.out)
      have HREC := Aside0.mk (show ∀ (q : Int) (W : World) (nW : Nat) (DW : DataW Unit), impl_explainer.Is W ge bm n A c l → W.ownsMap Try.prog 90 (plainElem Try.prog 2) bm nW DW → impl_explainer.MI l n DW → 0 ≤ q ∧ q ≤ (l.length : Int) → nW + 6 ^ d ≤ 4611686018427387904 →
        Calls Try.prog 65 #[.pointer (some ⟨ge, 0, none⟩), .int .i64 s1, .int .i64 q] W fun e w' => e = .returned (.int .i64 (impl_explainer.few l n d q)) ∧ KeepBut W w' bm none ∧ Below bm W w' ∧ ∃ (nm' : Nat) (D' : DataW Unit), nm' ≤ nW + 6 ^ d ∧ w'.ownsMap Try.prog 90 (plainElem Try.prog 2) bm nm' D' ∧ impl_explainer.MI l n D' from by rw [HS1.out]; exact IH.out)
      have hfi := impl_explainer.few_in l n d (impl_explainer.nx l s p (j : Int))
      obtain ⟨q, hq⟩ : ∃ q, q = impl_explainer.nx l s p (j : Int) := ⟨_, rfl⟩
      have HQ := Aside0.mk hq
      have HQI := Aside0.mk (show q ≥ 0 → 0 ≤ q ∧ q ≤ (l.length : Int) from fun h => by rw [hq] at h ⊢; exact impl_explainer.nx_in HP.out h)
      rw [← hq] at HNX hfi
      have HFI := Aside0.mk hfi
      have HAT := Aside0.mk hat
      have HCP := Aside0.mk (show nj + 6 ^ d ≤ 4611686018427387904 ∧ nj + 6 ^ d ≤ nm + (j + 1) * 6 ^ d from by
        have h1 := HN.out
        have h2 := HCAP.out
        have e1 : 6 ^ (d + 1) = 6 * 6 ^ d := by rw [Nat.pow_succ, Nat.mul_comm]
        have e2 : (j + 1) * 6 ^ d = j * 6 ^ d + 6 ^ d := Nat.succ_mul _ _
        have e3 : (j + 1) * 6 ^ d ≤ 5 * 6 ^ d := Nat.mul_le_mul_right _ (by omega)
        rw [e1] at h2
        omega)
      have HLTr := Aside0.mk (show bm < wr.heap.size from HMj.out.lt)
      clear hq hfi hat hci1 cj
      by_cases cn : q ≥ 0
      · have cnb : decide (q ≥ 0) = true := decide_eq_true cn
        have cnc : decide (0 ≤ q) = true := decide_eq_true cn
        have HCN := Aside0.mk cn
        have HT := Aside0.mk (show impl_toInt.f (decide (0 < j)) = some (if j > 0 then 1 else 0) from by
          by_cases c : j > 0
          · rw [decide_eq_true (by omega), if_pos c]; rfl
          · rw [decide_eq_false (by omega), if_neg c]; rfl)
        have HTI := Aside0.mk (show (if j > 0 then (1 : Int) else 0) ≤ 1 ∧ 0 ≤ (if j > 0 then (1 : Int) else 0) from by split <;> decide)
        obtain ⟨t, ht⟩ : ∃ t, t = (if j > 0 then (1 : Int) else 0) := ⟨_, rfl⟩
        have HTE := Aside0.mk ht
        rw [← ht] at HT HTI
        have hwf : wrap64 (impl_explainer.few l n d q + t) = impl_explainer.few l n d q + t := by have h1 := HFI.out; have h2 := HTI.out; unfold wrap64; omega
        have HNEXT := Aside0.mk (show impl_explainer.at_ l n d p (j + 1) = min (impl_explainer.at_ l n d p j) (impl_explainer.few l n d q + t) from by
          rw [HA.out]
          have h := HCN.out
          have h2 := HTE.out
          have h3 := HS.out
          unfold impl_explainer.stepB
          rw [show n - ((d : Int) + 1) = s by omega, ← HQ.out, if_pos h, ← h2])
        clear ht cn
        go_wp2_with (first
          | (go_at_call 66; (with_reducible refine HNX.out.mono ?_); rintro e w3 ⟨rfl, hb3⟩; have HK3 := Aside0.mk (KeepBut.of_below hb3 bm none); have HM3 := Aside0.mk (impl_explainer.owns HMj.out (hb3.block bm HLTr.out)); have HBm3 := Aside0.mk (HBm.out.trans (impl_explainer.low hb3 HLTr.out)); clear hb3)
          | (go_at_call 65; (with_reducible refine (HREC.out q _ nj Dj (HIr.out.keep HK3.out) HM3.out HDj.out (HQI.out HCN.out) HCP.out.1).mono ?_); rintro e w4 ⟨rfl, hk4, hbm4, n4, D4, hn4, hm4, hd4⟩; have HBm4 := Aside0.mk (HBm3.out.trans hbm4); have HK4 := Aside0.mk (KeepBut.trans HK3.out hk4 (.inl rfl)); have HN4 := Aside0.mk hn4; have HM4 := Aside0.mk hm4; have HD4 := Aside0.mk hd4; clear hk4 hbm4 hn4 hm4 hd4)
          | (go_at_call 63; (with_reducible refine (impl_toInt.calls (decide (0 < j)) t _ HT.out).mono ?_); rintro e w' ⟨rfl, ⟨nd, rfl⟩⟩))
        all_goals go_roundg (gk - 1)
        all_goals first
          | (case measure => have := HJ.out; have := HCJ.out; omega)
          | (case rel => exact ⟨j + 1, n4, D4, by rw [HNEXT.out]; congr 1; omega, by rw [Int.natCast_add]; rfl, ⟨by have := HJ.out; have := HCJ.out; omega⟩, ⟨KeepBut.trans HK.out HK4.out (.inl rfl)⟩, ⟨pw_below_drewN HBm4.out _⟩, HM4, ⟨by have := HCP.out.2; have := HN4.out; omega⟩, HD4⟩)
      · have cnb : decide (q ≥ 0) = false := decide_eq_false cn
        have cnc : decide (0 ≤ q) = false := decide_eq_false cn
        have HNEXT := Aside0.mk (show impl_explainer.at_ l n d p (j + 1) = impl_explainer.at_ l n d p j from by
          rw [HA.out]
          have h3 := HS.out
          unfold impl_explainer.stepB
          rw [show n - ((d : Int) + 1) = s by omega, ← HQ.out, if_neg cn])
        go_wp2_with (first
          | (go_at_call 66; (with_reducible refine HNX.out.mono ?_); rintro e w3 ⟨rfl, hb3⟩; have HK3 := Aside0.mk (KeepBut.of_below hb3 bm none); have HM3 := Aside0.mk (impl_explainer.owns HMj.out (hb3.block bm HLTr.out)); have HBm3 := Aside0.mk (HBm.out.trans (impl_explainer.low hb3 HLTr.out)); clear hb3))
        go_roundg (gk - 1)
        case measure => have := HJ.out; have := HCJ.out; omega
        case rel => exact ⟨j + 1, nj, Dj, by rw [HNEXT.out], by first | rw [hwj] | (rw [Int.natCast_add]; rfl), ⟨by have := HJ.out; have := HCJ.out; omega⟩, ⟨KeepBut.trans HK.out HK3.out (.inl rfl)⟩, HBm3, HM3, ⟨by have h1_ := HN.out; have h2_ : j * 6 ^ d ≤ (j + 1) * 6 ^ d := Nat.mul_le_mul_right _ (by omega); omega⟩, HDj⟩
    · have cb : decide ((j : Int) < 5) = false := decide_eq_false cj
      have hci2 := HIr.out.c2
      have HKBr := Aside0.mk (show wr.heap[kb]? = some (.cells #[.int .i64 s, .int .i64 p] 90 (0, 0)) from HK.out.blk HKB.out (by have := HLT.out; omega) (by simp))
      have hk0 := impl_explainer.cell HKBr.out (i := 0) rfl
      have hk1 := impl_explainer.cell HKBr.out (i := 1) rfl
      go_wp2
      go_still_tail 6, (by kernel_rfl)
      have HJ5 := Aside0.mk (show j = 5 from by have := HJ.out; omega)
      have HEND := Aside0.mk (show impl_explainer.at_ l n d p j = impl_explainer.few l n (d + 1) p from by rw [HJ5.out]; rfl)
      have HFI := Aside0.mk (impl_explainer.few_in l n (d + 1) p)
      have HBW := Aside0.mk (show KeepBut w wr bm none from KeepBut.trans (KeepBut.of_below (show Below w.heap.size w w2 from by rw [HKS.out]; exact HB1.out) bm none) HK.out (.inl rfl))
      have HBL := Aside0.mk (show Below bm w wr.drew from (impl_explainer.low (show Below w.heap.size w w2 from by rw [HKS.out]; exact HB1.out) HM.out.lt).trans (below_drew1 HBm.out))
      have HCPE := Aside0.mk (show nj + 1 ≤ nm + 6 ^ (d + 1) from by
        have h1 := HN.out
        have e1 : 6 ^ (d + 1) = 6 * 6 ^ d := by rw [Nat.pow_succ, Nat.mul_comm]
        have e2 : 1 ≤ 6 ^ d := Nat.pow_pos (by decide)
        rw [HJ5.out] at h1
        omega)
      rw [HEND.out]
      change wpList _ _ _ _ _ wr.drew
      have HMd := Aside0.mk (show wr.drew.ownsMap Try.prog 90 (plainElem Try.prog 2) bm nj Dj from HMj.out)
      have HBd := Aside0.mk (show KeepBut w wr.drew bm none from HBW.out)
      generalize wr.drew = w5 at HMd HBd HBL ⊢
      go_wp2_with (first
        | (at_mapUpdate; refine wpList_mapUpdate_own _ rfl _ _ _ 75 rfl 90 2 impl_explainer.law Try.underlying75 (plainElem Try.prog 2) bm nj Dj rfl HMd.out (by have := HCPE.out; have := HCAP.out; unfold maxLen; omega) (.agg #[.int .i64 s, .int .i64 p]) (.int .i64 (impl_explainer.few l n (d + 1) p)) (impl_explainer.K s p) rfl rfl HKEY.out (.lit (.int .i64 (impl_explainer.few l n (d + 1) p))) [] (plainElem_int Try.underlying2 (impl_explainer.wf HFI.out)) ?_; intro w6 hm6 hg6; have HM6 := Aside0.mk hm6; have HG6 := Aside0.mk hg6; clear hm6 hg6))
      go_ret
      have hmi := impl_explainer.mi_put hn HL.out HMj.out.isMap HDj.out (d := d + 1) (p := p) (by have := HSB.out; have := HS.out; omega) HP.out
      rw [← HS.out] at hmi
      exact ⟨rfl, KeepBut.trans HBd.out (⟨HG6.out.size, fun i hi hne _ => HG6.out.block i hi (fun e_ => hne (Option.some.inj e_))⟩ : KeepBut w5 w6 bm none) (.inl rfl), Below.grown HBL.out HG6.out (Nat.le_of_lt HMd.out.lt) (fun k_ hk_ => by cases hk_; exact Nat.le_refl _), nj + 1, _, HCPE.out, HM6.out, hmi⟩
theorem impl_explainer.fewest (l : List Int) (n : Int) (ge bm : Nat) (A : Option Addr) (c : Nat) (hn : n ≤ 12) (hl : l.length ≤ 24) (hv : ∀ x ∈ l, -12 ≤ x ∧ x ≤ 12) : ∀ d : Nat, (d : Int) ≤ n → impl_explainer.Spec l n ge bm A c d := by
  intro d
  induction d with
  | zero =>
    intro _ p w nm D hI hM hD hp hcap
    rw [show n - ((0 : Nat) : Int) = n by omega]
    refine (impl_explainer.few0 l n ge bm A c p w hI).mono ?_
    rintro e w' ⟨rfl, hb⟩
    exact ⟨rfl, KeepBut.of_below hb bm none, impl_explainer.low hb hM.lt, nm, D, Nat.le_add_right _ _, impl_explainer.owns hM (hb.block bm hM.lt), hD⟩
  | succ d ih =>
    intro hd p w nm D hI hM hD hp hcap
    cases hh : Go.Maps.has D (impl_explainer.K (n - ((d + 1 : Nat) : Int)) p) with
    | true =>
      refine (impl_explainer.fewHas l n ge bm A c d p w nm D hI hM hD hn hl (by omega) hp hh).mono ?_
      rintro e w' ⟨rfl, hb⟩
      exact ⟨rfl, KeepBut.of_below hb bm none, impl_explainer.low hb hM.lt, nm, D, Nat.le_add_right _ _, impl_explainer.owns hM (hb.block bm hM.lt), hD⟩
    | false => exact impl_explainer.fewNot l n ge bm A c d (ih (by omega)) p w nm D hI hM hD hn hl hv (by omega) hp hcap hh
/-- The program's way back: for each station the first kind that keeps to the fewest. -/
def impl_explainer.good (l : List Int) (n : Int) (d : Nat) (p left : Int) (k : Nat) : Bool := decide (impl_explainer.nx l (n - ((d : Int) + 1)) p (k : Int) ≥ 0) && decide (impl_explainer.few l n d (impl_explainer.nx l (n - ((d : Int) + 1)) p (k : Int)) + (if k > 0 then 1 else 0) = left)
def impl_explainer.back (l : List Int) (n : Int) : Nat → Int → Int → List Int
  | 0, _, _ => []
  | d + 1, p, left => match (List.range 5).find? (impl_explainer.good l n d p left) with
    | none => impl_explainer.back l n d p left
    | some k => (k : Int) :: impl_explainer.back l n d (impl_explainer.nx l (n - ((d : Int) + 1)) p (k : Int)) (left - (if k > 0 then 1 else 0))
def impl_ExplainBlock.r (l : List Int) (n : Nat) : List Int × Int := if impl_explainer.few l n n 0 ≥ 1000000000 then ([], 4) else (impl_explainer.back l n n 0 (impl_explainer.few l n n 0), 0)
def impl_ExplainBlock.f (k : Nat) (a0 : Int) (l1 : List Int) : Option (List Int × Int) := (impl_isBlock.f k a0 l1).bind fun t => if t = true then some (impl_ExplainBlock.r l1 a0.toNat) else some ([], 2)
theorem impl_ExplainBlock.mono : ∀ a0 a1 k, LeO (impl_ExplainBlock.f k a0 a1) (impl_ExplainBlock.f (k + 1) a0 a1) := by
  intro a0 a1 k r h
  unfold impl_ExplainBlock.f at h ⊢
  obtain ⟨t, h1, h2⟩ := Option.bind_eq_some_iff.mp h
  exact Option.bind_eq_some_iff.mpr ⟨t, impl_isBlock.mono a0 a1 k t h1, h2⟩
theorem impl_ExplainBlock.bounds {k : Nat} {n : Int} {l : List Int} (h : impl_isBlock.f k n l = some true) : (1 ≤ n ∧ n ≤ 12) ∧ l.length ≤ 24 ∧ ∀ x ∈ l, -12 ≤ x ∧ x ≤ 12 := by
  unfold impl_isBlock.f at h
  obtain ⟨t, h1, h2⟩ := Option.bind_eq_some_iff.mp h
  cases t with
  | false => simp at h2
  | true =>
    unfold impl_isLine.f impl_inRange.f at h1
    have hn : 1 ≤ n ∧ n ≤ 12 := by
      by_cases c : (1 : Int) ≤ n
      · rw [if_pos c] at h1
        by_cases c2 : n ≤ 12
        · exact ⟨c, c2⟩
        · simp [c2] at h1
      · rw [if_neg c] at h1; simp at h1
    rw [if_pos rfl] at h2
    unfold impl_length_int64.f impl_allIn.f at h2
    simp only [Option.bind_some] at h2
    rw [show wrap64 (2 * n) = 2 * n by unfold wrap64; omega, show wrap64 (-n) = -n by unfold wrap64; omega] at h2
    by_cases c : (l.length : Int) ≤ 2 * n
    · rw [if_pos c] at h2
      by_cases c2 : (l.all fun x => decide (-n ≤ x ∧ x ≤ n)) = true
      · refine ⟨hn, by omega, fun x hx => ?_⟩
        have := of_decide_eq_true (List.all_eq_true.1 c2 x hx)
        omega
      · rw [if_neg c2] at h2; simp at h2
    · rw [if_neg c] at h2; simp at h2
theorem impl_explainer.find_hit {p : Nat → Bool} {k : Nat} (hk : p k = true) (h5 : k < 5) (hp : ∀ j < k, p j = false) : (List.range 5).find? p = some k := by
  have e : List.range 5 = List.range k ++ k :: (List.range (4 - k)).map (fun i => k + 1 + i) := by
    rcases (show k = 0 ∨ k = 1 ∨ k = 2 ∨ k = 3 ∨ k = 4 by omega) with rfl | rfl | rfl | rfl | rfl <;> rfl
  rw [e, List.find?_append]
  have : (List.range k).find? p = none := by
    rw [List.find?_eq_none]
    intro j hj
    rw [hp j (by simpa using hj)]; decide
  rw [this]
  simp [hk]
theorem impl_explainer.find_miss {p : Nat → Bool} (hp : ∀ j < 5, p j = false) : (List.range 5).find? p = none := by
  rw [List.find?_eq_none]
  intro j hj
  rw [hp j (by simpa using hj)]; decide
/-- The explainer, out of what was there at the call, and its block. -/
theorem impl_explainer.Is.mk' {w W : World} {ge bm : Nat} {n : Int} {A : Option Addr} {c : Nat} {l : List Int} (hr : Kd.C (Kd.int .i64) w A l.length l) (hc : l.length ≤ c) (hB : Below w.heap.size w W) (hb : w.heap.size ≤ bm) (hne : ge ≠ bm) (hk : W.heap[ge]? = some (.cells #[.int .i64 n, .slice A l.length c, .map (some bm)] 77 (0, 0))) (hs : w.heap.size ≤ W.heap.size) : impl_explainer.Is W ge bm n A c l :=
  ⟨hk, hne, fun W' h => Kd.C_foot_came (Kd.heap_int _) hr hB hb W' h, hc⟩

set_option maxHeartbeats 4000000 in
set_option maxRecDepth 100000 in
theorem impl_ExplainBlock.yes (k : Nat) (n : Nat) (A1 : Option Addr) (c1 : Nat) (l1 : List Int) (w : World) (hr1 : Kd.C (Kd.int .i64) w A1 l1.length l1) (hc1 : l1.length ≤ c1) (h : impl_isBlock.f k (n : Int) l1 = some true) :
    Calls Try.prog 31 #[.int .i64 (n : Int), .slice A1 l1.length c1] w fun e w' => ∃ v0_ : Value, e = .returned (.tuple #[v0_, .int .i64 (impl_ExplainBlock.r l1 n).2]) ∧ Kd.R (Kd.int .i64) 2 w' w.heap.size (fun _ => True) v0_ (impl_ExplainBlock.r l1 n).1 ∧ Below w.heap.size w w' := by
  have HR := Aside0.mk hr1
  have HC := Aside0.mk hc1
  have HB := Aside0.mk (Below.refl w.heap.size w)
  have hbd := impl_ExplainBlock.bounds h
  have HN := Aside0.mk hbd.1
  have HL := Aside0.mk hbd.2.1
  have HV := Aside0.mk hbd.2.2
  have A3 := Aside0.mk h
  have hfi := impl_explainer.few_in l1 (n : Int) n 0
  have HFI := Aside0.mk hfi
  have hmm : ∀ W, (Instr.makeMap 75 none).run Try.prog W = .ok (.map (some W.heap.size)) (W.alloc (.map #[] 0)) := fun W => run_makeMap 75 W
  have hrr : impl_ExplainBlock.r l1 n = impl_ExplainBlock.r l1 n := rfl
  clear hbd h hr1 hc1
  obtain ⟨L, hLe⟩ : ∃ L : Int, L = impl_explainer.few l1 (n : Int) n 0 := ⟨_, rfl⟩
  have HLE := Aside0.mk hLe
  rw [← hLe] at hfi
  obtain ⟨rr, hre⟩ : ∃ rr, rr = impl_ExplainBlock.r l1 n := ⟨_, rfl⟩
  have HRE := Aside0.mk hre
  rw [← hre]
  clear hrr hre hLe
  go_enter Try.func31, Try.ntmps31
  go_wp2_with (first
    | (go_at_call 57; (with_reducible refine (impl_isBlock.calls k (n : Int) A1 c1 l1 true _ HR.out HC.out A3.out).mono ?_); rintro e w1 ⟨rfl, hb⟩; have HB1 := Aside0.mk hb; clear hb))
  have HM2 := Aside0.mk (show ((w1.alloc (.map #[] 0)).alloc (.cells #[.int .i64 (n : Int), .slice A1 l1.length c1, .map (some w1.heap.size)] 77)).ownsMap Try.prog 90 (plainElem Try.prog 2) w1.heap.size 0 (.map []) from (World.ownsMap_made (H := Unit) w1 Try.prog 90 (plainElem Try.prog 2)).alloc _)
  have HB2 := Aside0.mk (below_alloc (below_alloc HB1.out (.map #[] 0)) (.cells #[.int .i64 (n : Int), .slice A1 l1.length c1, .map (some w1.heap.size)] 77))
  have HG2 := Aside0.mk (show ((w1.alloc (.map #[] 0)).alloc (.cells #[.int .i64 (n : Int), .slice A1 l1.length c1, .map (some w1.heap.size)] 77)).heap[w1.heap.size + 1]? = some (.cells #[.int .i64 (n : Int), .slice A1 l1.length c1, .map (some w1.heap.size)] 77 (0, 0)) from by
    show ((w1.heap.push (.map #[] 0)).push _)[w1.heap.size + 1]? = _
    rw [show w1.heap.size + 1 = (w1.heap.push (.map #[] 0)).size by simp]
    exact Array.getElem?_push_size)
  have HS2 := Aside0.mk (show w1.heap.size + 1 < ((w1.alloc (.map #[] 0)).alloc (.cells #[.int .i64 (n : Int), .slice A1 l1.length c1, .map (some w1.heap.size)] 77)).heap.size from blk_lt HG2.out)
  have HBB := Aside0.mk (below_size HB1.out)
  generalize (w1.alloc (.map #[] 0)).alloc (.cells #[.int .i64 (n : Int), .slice A1 l1.length c1, .map (some w1.heap.size)] 77) = w2 at HM2 HB2 HG2 HS2 ⊢
  generalize w1.heap.size = bm at HM2 HG2 HS2 HBB ⊢
  clear hmm HB1 HB
  have hIs : ∀ W, Below w.heap.size w W → W.heap[bm + 1]? = some (.cells #[.int .i64 (n : Int), .slice A1 l1.length c1, .map (some bm)] 77 (0, 0)) → impl_explainer.Is W (bm + 1) bm (n : Int) A1 c1 l1 := fun W hB hk => impl_explainer.Is.mk' HR.out HC.out hB HBB.out (by omega) hk (below_size hB)
  have HIS := Aside0.mk hIs
  have hFW := impl_explainer.fewest l1 (n : Int) (bm + 1) bm A1 c1 (by have := HN.out; omega) HL.out HV.out
  have HFW := Aside0.mk hFW
  have HCALL := Aside0.mk (hFW n (Int.le_refl _) 0 w2 0 (.map []) (hIs w2 HB2.out HG2.out) HM2.out (impl_explainer.mi_nil _ _) ⟨Int.le_refl _, by omega⟩ (by
    have h1 : 6 ^ n ≤ 6 ^ 12 := Nat.pow_le_pow_right (by decide) (by have := HN.out; omega)
    have h2 : (6 : Nat) ^ 12 = 2176782336 := by decide
    omega))
  have HP6 := Aside0.mk (show ∀ d : Nat, d ≤ n → 6 ^ d ≤ 2176782336 from fun d hd => by
    have h1 : 6 ^ d ≤ 6 ^ 12 := Nat.pow_le_pow_right (by decide) (by have := HN.out; omega)
    have h2 : (6 : Nat) ^ 12 = 2176782336 := by decide
    omega)
  rw [show (n : Int) - (n : Int) = 0 by omega, ← HLE.out] at HCALL
  clear hIs hFW
  refine HCALL.out.mono ?_
  rintro e w3 ⟨rfl, hk3, hbm3, n3, D3, hn3, hm3, hd3⟩
  have HB3 := Aside0.mk (show Below w.heap.size w w3 from HB2.out.trans ⟨hbm3.os, hbm3.tape, hbm3.output, hbm3.size, fun k_ hk_ => hbm3.block k_ (by have := HBB.out; omega)⟩)
  have HG3 := Aside0.mk (hk3.blk HG2.out (by omega) (by simp))
  have HM3 := Aside0.mk hm3
  have HD3 := Aside0.mk hd3
  have HN3 := Aside0.mk (show n3 ≤ 2176782336 from by have := HP6.out n (Nat.le_refl _); omega)
  have HS3 := Aside0.mk (show bm + 1 < w3.heap.size from blk_lt HG3.out)
  clear hk3 hbm3 hn3 hm3 hd3 HCALL HM2 HB2 HG2 HS2
  by_cases cL : L ≥ 1000000000
  · have cb : decide (1000000000 ≤ L) = true := decide_eq_true cL
    have cb2 : decide (L ≥ 1000000000) = true := decide_eq_true cL
    have e_ : rr = ([], 4) := by rw [HRE.out]; unfold impl_ExplainBlock.r; rw [if_pos (by rw [← HLE.out]; exact cL)]
    subst e_
    clear HRE
    go_wp2
    go_ret2
    exact ⟨_, rfl, Kd.R_nil _ _ _ _ _, HB3.out⟩
  · have cb : decide (1000000000 ≤ L) = false := decide_eq_false cL
    have cb2 : decide (L ≥ 1000000000) = false := decide_eq_false cL
    have e_ : rr = (impl_explainer.back l1 n n 0 L, 0) := by rw [HRE.out]; unfold impl_ExplainBlock.r; rw [if_neg (by rw [← HLE.out]; exact cL), ← HLE.out]
    have HE := Aside0.mk e_
    clear e_ HRE
    go_wp2_with (first
      | ((with_reducible refine gate_dst (N := 26) rfl ?_); refine Kd.R_lit (Kd.int .i64) w.heap.size 2 ?hg (N := 26) ?hd (xs := ([] : List Int)) (inner := []) (ok := fun k_ => bm + 1 < k_) (okp := fun k_ => bm + 1 < k_) ?hr ?hp (fun _ hk => hk) HS3.out HB3.out (below_size HB3.out) (by simp) ?_; (case hd => rfl); (case hg => rfl); (case hr => first | (go_simp; done) | (go_simp; rfl)); (case hp => exact (Reps.none _ _)); intro v26 w4 ho4 hb4 hg4 hnew4; have HO4 := Aside0.mk ho4; have HB4 := Aside0.mk hb4; have HG4 := Aside0.mk hg4; clear ho4 hb4 hg4 hnew4))
    have HB5 := HB4
    have HGr4 := Aside0.mk ((HG4.out.block (bm + 1) HS3.out (by simp)).trans HG3.out)
    have HM4 := Aside0.mk (impl_explainer.owns HM3.out (HG4.out.block bm (by have := HS3.out; omega) (by simp)))
    clear HB3 HG3 HM3 HS3 HG4
    have HLB := Aside0.mk (show 0 ≤ L ∧ L ≤ 1000000000 from hfi)
    clear hfi cL cb cb2
    go_loopg [7, 8, 9, 28] n (fun gg s7 s8 s9 s28 wr => ∃ (i ni : Nat) (Di : DataW Unit) (p left : Int) (out : List Int), s28 = .int .i64 (i : Int) ∧ s9 = .int .i64 p ∧ s7 = .int .i64 left ∧ Aside0 (gg + i = n) ∧ Aside0 (0 ≤ p ∧ p ≤ (l1.length : Int)) ∧ Aside0 (-(i : Int) ≤ left ∧ left ≤ 1000000000) ∧ Aside0 (out.length ≤ i) ∧ Aside0 (out ++ impl_explainer.back l1 (n : Int) (n - i) p left = rr.1) ∧ Aside0 (Kd.R (Kd.int .i64) 2 wr w.heap.size (fun k_ => bm + 1 < k_) s8 out) ∧ Aside0 (Below w.heap.size w wr) ∧ Aside0 (wr.heap[bm + 1]? = some (.cells #[.int .i64 (n : Int), .slice A1 l1.length c1, .map (some bm)] 77 (0, 0))) ∧ Aside0 (wr.ownsMap Try.prog 90 (plainElem Try.prog 2) bm ni Di) ∧ Aside0 (impl_explainer.MI l1 (n : Int) Di) ∧ Aside0 (ni ≤ (1 + 5 * i) * 2176782336))
    case atStart => exact ⟨0, n3, D3, 0, L, [], rfl, rfl, rfl, ⟨by omega⟩, ⟨⟨Int.le_refl _, by omega⟩⟩, ⟨by have := HLB.out; omega⟩, ⟨Nat.le_refl _⟩, ⟨by rw [HE.out]; rfl⟩, HO4, HB4, HGr4, HM4, HD3, ⟨by have := HN3.out; omega⟩⟩
    case round =>
      clear HO4 HB4 HB5 HGr4 HM4 HD3 HN3
      obtain ⟨i, ni, Di, p, left, out, rfl, rfl, rfl, HGG, HP, HLF, HOL, HX, HO, HB, HG, HM, HD, HNI⟩ := hrel
      by_cases ci : i < n
      · have cb : decide (i < n) = true := decide_eq_true ci
        have hwi : wrap64 ((i : Int) + 1) = (i : Int) + 1 := by have := HN.out; unfold wrap64; omega
        obtain ⟨d, hd⟩ : ∃ d, n = i + d + 1 := ⟨n - i - 1, by omega⟩
        have HDD := Aside0.mk hd
        have HCI := Aside0.mk ci
        clear hd ci
        go_wp2
        go_loopg [7, 8, 9, 31] 5 (fun gg s7 s8 s9 s31 wr => ∃ (j nj : Nat) (Dj : DataW Unit), s31 = .int .i64 (j : Int) ∧ s9 = .int .i64 p ∧ s7 = .int .i64 left ∧ Aside0 (gg + j = 5) ∧ Aside0 (∀ j' < j, impl_explainer.good l1 (n : Int) d p left j' = false) ∧ Aside0 (Kd.R (Kd.int .i64) 2 wr w.heap.size (fun k_ => bm + 1 < k_) s8 out) ∧ Aside0 (Below w.heap.size w wr) ∧ Aside0 (wr.heap[bm + 1]? = some (.cells #[.int .i64 (n : Int), .slice A1 l1.length c1, .map (some bm)] 77 (0, 0))) ∧ Aside0 (wr.ownsMap Try.prog 90 (plainElem Try.prog 2) bm nj Dj) ∧ Aside0 (impl_explainer.MI l1 (n : Int) Dj) ∧ Aside0 (nj ≤ (1 + 5 * i + j) * 2176782336))
        case atStart => exact ⟨0, ni, Di, rfl, rfl, rfl, ⟨by omega⟩, ⟨fun j' h => by omega⟩, HO, HB, HG, HM, HD, ⟨by have := HNI.out; omega⟩⟩
        case round =>
          clear HO HB HG HM HD HNI
          obtain ⟨j, nj, Dj, rfl, rfl, rfl, HGJ, HNO, HO, HB, HG, HM, HD, HNJ⟩ := hrel
          by_cases cj : (j : Int) < 5
          · have cb : decide ((j : Int) < 5) = true := decide_eq_true cj
            have hIr := HIS.out _ HB.out HG.out
            have HIr := Aside0.mk hIr
            have HNX := Aside0.mk (impl_explainer.next l1 (bm + 1) A1 c1 (i : Int) p (j : Int) _ hIr.c1 hIr.r hIr.cap (by have := HN.out; have := HCI.out; omega) HP.out HL.out HV.out)
            have HST := Aside0.mk (show (n : Int) - ((d : Int) + 1) = (i : Int) from by have := HDD.out; omega)
            obtain ⟨q, hq⟩ : ∃ q, q = impl_explainer.nx l1 (i : Int) p (j : Int) := ⟨_, rfl⟩
            have HQ := Aside0.mk hq
            have HQI := Aside0.mk (show q ≥ 0 → 0 ≤ q ∧ q ≤ (l1.length : Int) from fun h => by rw [hq] at h ⊢; exact impl_explainer.nx_in HP.out h)
            rw [← hq] at HNX
            have hfq := impl_explainer.few_in l1 (n : Int) d q
            have HFQ := Aside0.mk hfq
            have HCJ := Aside0.mk cj
            have HWJ := Aside0.mk (show wrap64 ((j : Int) + 1) = ((j + 1 : Nat) : Int) from by unfold wrap64; omega)
            have HGD := Aside0.mk (show impl_explainer.good l1 (n : Int) d p left j = (decide (q ≥ 0) && decide (impl_explainer.few l1 (n : Int) d q + (if j > 0 then 1 else 0) = left)) from by unfold impl_explainer.good; rw [HST.out, ← hq])
            clear hq hIr hfq cj
            by_cases cn : q ≥ 0
            · have cnb : decide (q ≥ 0) = true := decide_eq_true cn
              have cnc : decide (0 ≤ q) = true := decide_eq_true cn
              have HCN := Aside0.mk cn
              have hFC := HFW.out d (by have := HDD.out; omega)
              have HREC := Aside0.mk (show ∀ (W : World), impl_explainer.Is W (bm + 1) bm (n : Int) A1 c1 l1 → W.ownsMap Try.prog 90 (plainElem Try.prog 2) bm nj Dj → Calls Try.prog 65 #[.pointer (some ⟨bm + 1, 0, none⟩), .int .i64 ((i : Int) + 1), .int .i64 q] W fun e w' => e = .returned (.int .i64 (impl_explainer.few l1 (n : Int) d q)) ∧ KeepBut W w' bm none ∧ Below bm W w' ∧ ∃ (nm' : Nat) (D' : DataW Unit), nm' ≤ nj + 6 ^ d ∧ w'.ownsMap Try.prog 90 (plainElem Try.prog 2) bm nm' D' ∧ impl_explainer.MI l1 (n : Int) D' from fun W h1 h2 => by
                have := hFC q W nj Dj h1 h2 HD.out (HQI.out cn) (by have h3 := HP6.out d (by have := HDD.out; omega); have h4 := HNJ.out; have h5 : (1 + 5 * i + j) * 2176782336 ≤ 100 * 2176782336 := Nat.mul_le_mul_right _ (by have := HCJ.out; have := HDD.out; have := HN.out; omega); omega)
                rw [show (n : Int) - (d : Int) = (i : Int) + 1 by have := HDD.out; omega] at this
                exact this)
              have HT := Aside0.mk (show impl_toInt.f (decide (0 < j)) = some (if j > 0 then 1 else 0) from by
                by_cases c : j > 0
                · rw [decide_eq_true (by omega), if_pos c]; rfl
                · rw [decide_eq_false (by omega), if_neg c]; rfl)
              have HTI := Aside0.mk (show (if j > 0 then (1 : Int) else 0) ≤ 1 ∧ 0 ≤ (if j > 0 then (1 : Int) else 0) from by split <;> decide)
              obtain ⟨t, ht⟩ : ∃ t, t = (if j > 0 then (1 : Int) else 0) := ⟨_, rfl⟩
              have HTE := Aside0.mk ht
              rw [← ht] at HT HTI HGD
              have hwf : wrap64 (impl_explainer.few l1 (n : Int) d q + t) = impl_explainer.few l1 (n : Int) d q + t := by have h1 := HFQ.out; have h2 := HTI.out; unfold wrap64; omega
              have hwl : wrap64 (left - t) = left - t := by have h1 := HLF.out; have h2 := HTI.out; have := HDD.out; have := HN.out; unfold wrap64; omega
              clear ht cn hFC
              have HBM := Aside0.mk HM.out.lt
              have HN6 := Aside0.mk (HP6.out d (by have := HDD.out; omega))
              by_cases ce : impl_explainer.few l1 (n : Int) d q + t = left
              · have ceb : (impl_explainer.few l1 (n : Int) d q + t == left) = true := beq_iff_eq.mpr ce
                have HGT := Aside0.mk (show impl_explainer.good l1 (n : Int) d p left j = true from by rw [HGD.out, cnb, decide_eq_true ce]; rfl)
                clear ce
                go_wp2_with (first
                  | (go_at_call 66; (with_reducible refine HNX.out.mono ?_); rintro e w5 ⟨rfl, hb5⟩; have HB5 := Aside0.mk (below_step HB.out hb5); have HG5 := Aside0.mk ((hb5.block (bm + 1) (blk_lt HG.out)).trans HG.out); have HM5 := Aside0.mk (impl_explainer.owns HM.out (hb5.block bm HBM.out)); have HO5 := Aside0.mk (Kd.R_below HO.out hb5); clear hb5)
                  | (go_at_call 65; (with_reducible refine (HREC.out _ (HIS.out _ HB5.out HG5.out) HM5.out).mono ?_); rintro e w6 ⟨rfl, hk6, hbm6, n6, D6, hn6, hm6, hd6⟩; have HB6 := Aside0.mk (show Below w.heap.size w w6 from HB5.out.trans ⟨hbm6.os, hbm6.tape, hbm6.output, hbm6.size, fun k_ hk_ => hbm6.block k_ (by have := HBB.out; omega)⟩); have HG6 := Aside0.mk (hk6.blk HG5.out (by omega) (by simp)); have HM6 := Aside0.mk hm6; have HD6 := Aside0.mk hd6; have HN6' := Aside0.mk hn6; have HO6 := Aside0.mk (Kd.R_keep HO5.out hk6 (fun k_ hk_ => by omega)); clear hk6 hbm6 hn6 hm6 hd6)
                  | (go_at_call 63; (with_reducible refine (impl_toInt.calls (decide (0 < j)) t _ HT.out).mono ?_); rintro e w' ⟨rfl, ⟨nd, rfl⟩⟩)
                  | ((with_reducible refine gate_builtin (b := .append) (xs := #[.tmp 54, .tmp 56]) rfl ?_); at_builtin; refine Kd.R_append (Kd.int .i64) (w0 := w) w.heap.size rfl (.tmp 54) (.tmp 56) 22 2 (.int .i64 0) 8 rfl Try.underlying22 impl_explainer.info rfl (by decide) (by omega) u8 out (j : Int) [.int .i64 (j : Int)] (fun k_ => bm + 1 < k_) (fun _ => False) rfl rfl ?aP (fun _ hk => hk.elim) ?aF ?aO ?aB ?aS ?aL ?_; (case aP => exact rfl); (case aB => exact (by repeat (first | (with_reducible first | exact HB6.out | apply below_alloc | apply pw_below_drewN | apply below_drew1) | exact HB6.out))); (case aF => exact (fun k_ hk_ => Nat.lt_of_lt_of_le (blk_lt HG6.out) hk_)); (case aO => exact (by (with_reducible repeat (first | apply Kd.R_alloc | apply Kd.R_drewN | apply Kd.R_drew)); exact HO6.out)); (case aS => exact (below_size (by repeat (first | (with_reducible first | exact HB6.out | apply below_alloc | apply pw_below_drewN | apply below_drew1) | exact HB6.out)))); (case aL => have := HOL.out; have := HDD.out; have := HN.out; omega); intro v57 w7 ho hb hg hat; have HB7 := Aside0.mk hb; have HO7 := Aside0.mk ho; have HGW7 := Aside0.mk hg; clear ho hb hg hat))
                have HG7 := Aside0.mk ((HGW7.out.block (bm + 1) (blk_lt HG6.out) (fun e_ => Nat.lt_irrefl _ (HO6.out.1 _ e_.symm))).trans (blk_drewN HG6.out _))
                have HM7 := Aside0.mk (impl_explainer.owns (show (w6.drewN nd).ownsMap Try.prog 90 (plainElem Try.prog 2) bm n6 D6 from HM6.out) (HGW7.out.block bm HM6.out.lt (fun e_ => by have := HO6.out.1 _ e_.symm; omega)))
                have HFIND := Aside0.mk (impl_explainer.find_hit HGT.out (by have := HCJ.out; omega) HNO.out)
                have HXX := Aside0.mk (show (out ++ [(j : Int)]) ++ impl_explainer.back l1 (n : Int) (n - (i + 1)) q (left - t) = rr.1 from by
                  have h1 := HX.out
                  rw [show n - i = d + 1 by have := HDD.out; omega] at h1
                  unfold impl_explainer.back at h1
                  rw [HFIND.out] at h1
                  simp only [] at h1
                  rw [HST.out, ← HQ.out, ← HTE.out] at h1
                  rw [show n - (i + 1) = d by have := HDD.out; omega, List.append_assoc]
                  exact h1)
                go_roundg d
                case measure => have := HGG.out; have := HDD.out; omega
                case rel => exact ⟨i + 1, n6, D6, q, left - t, out ++ [(j : Int)], by first | rfl | (rw [hwi, Int.natCast_add]; rfl) | (rw [Int.natCast_add]; rfl), rfl, by first | rfl | rw [hwl], ⟨by have := HDD.out; omega⟩, ⟨HQI.out HCN.out⟩, ⟨by have := HLF.out; have := HTI.out; omega⟩, ⟨by rw [List.length_append, List.length_singleton]; have := HOL.out; omega⟩, HXX, ⟨Kd.R_drewN HO7.out _⟩, ⟨pw_below_drewN HB7.out _⟩, HG7, HM7, HD6, ⟨by have h1 := HNJ.out; have h2 := HN6'.out; have h3 := HN6.out; have h4 := HCJ.out; omega⟩⟩
              · have ceb : (impl_explainer.few l1 (n : Int) d q + t == left) = false := beq_eq_false_iff_ne.mpr ce
                have HGT := Aside0.mk (show impl_explainer.good l1 (n : Int) d p left j = false from by rw [HGD.out, cnb, decide_eq_false ce]; rfl)
                clear ce
                go_wp2_with (first
                  | (go_at_call 66; (with_reducible refine HNX.out.mono ?_); rintro e w5 ⟨rfl, hb5⟩; have HB5 := Aside0.mk (below_step HB.out hb5); have HG5 := Aside0.mk ((hb5.block (bm + 1) (blk_lt HG.out)).trans HG.out); have HM5 := Aside0.mk (impl_explainer.owns HM.out (hb5.block bm HBM.out)); have HO5 := Aside0.mk (Kd.R_below HO.out hb5); clear hb5)
                  | (go_at_call 65; (with_reducible refine (HREC.out _ (HIS.out _ HB5.out HG5.out) HM5.out).mono ?_); rintro e w6 ⟨rfl, hk6, hbm6, n6, D6, hn6, hm6, hd6⟩; have HB6 := Aside0.mk (show Below w.heap.size w w6 from HB5.out.trans ⟨hbm6.os, hbm6.tape, hbm6.output, hbm6.size, fun k_ hk_ => hbm6.block k_ (by have := HBB.out; omega)⟩); have HG6 := Aside0.mk (hk6.blk HG5.out (by omega) (by simp)); have HM6 := Aside0.mk hm6; have HD6 := Aside0.mk hd6; have HN6' := Aside0.mk hn6; have HO6 := Aside0.mk (Kd.R_keep HO5.out hk6 (fun k_ hk_ => by omega)); clear hk6 hbm6 hn6 hm6 hd6)
                  | (go_at_call 63; (with_reducible refine (impl_toInt.calls (decide (0 < j)) t _ HT.out).mono ?_); rintro e w' ⟨rfl, ⟨nd, rfl⟩⟩))
                go_roundg (gk - 1)
                case measure => have := HGJ.out; have := HCJ.out; omega
                case rel => exact ⟨j + 1, n6, D6, by first | rfl | (rw [HWJ.out]) | (rw [Int.natCast_add]; rfl), rfl, rfl, ⟨by have := HGJ.out; have := HCJ.out; omega⟩, ⟨fun j' h => by rcases Nat.lt_or_ge j' j with h1 | h1; exact HNO.out j' h1; rw [show j' = j by omega]; exact HGT.out⟩, ⟨Kd.R_drewN HO6.out _⟩, ⟨pw_below_drewN HB6.out _⟩, HG6, HM6, HD6, ⟨by have := HNJ.out; have := HN6'.out; have := HN6.out; omega⟩⟩
            · have cnb : decide (q ≥ 0) = false := decide_eq_false cn
              have cnc : decide (0 ≤ q) = false := decide_eq_false cn
              have HGT := Aside0.mk (show impl_explainer.good l1 (n : Int) d p left j = false from by rw [HGD.out, cnb]; rfl)
              have HBM := Aside0.mk HM.out.lt
              go_wp2_with (first
                | (go_at_call 66; (with_reducible refine HNX.out.mono ?_); rintro e w5 ⟨rfl, hb5⟩; have HB5 := Aside0.mk (below_step HB.out hb5); have HG5 := Aside0.mk ((hb5.block (bm + 1) (blk_lt HG.out)).trans HG.out); have HM5 := Aside0.mk (impl_explainer.owns HM.out (hb5.block bm HBM.out)); have HO5 := Aside0.mk (Kd.R_below HO.out hb5); clear hb5))
              go_roundg (gk - 1)
              case measure => have := HGJ.out; have := HCJ.out; omega
              case rel => exact ⟨j + 1, nj, Dj, by first | rfl | (rw [HWJ.out]) | (rw [Int.natCast_add]; rfl), rfl, rfl, ⟨by have := HGJ.out; have := HCJ.out; omega⟩, ⟨fun j' h => by rcases Nat.lt_or_ge j' j with h1 | h1; exact HNO.out j' h1; rw [show j' = j by omega]; exact HGT.out⟩, HO5, HB5, HG5, HM5, HD, ⟨Nat.le_trans HNJ.out (Nat.mul_le_mul_right _ (by omega))⟩⟩
          · have cb : decide ((j : Int) < 5) = false := decide_eq_false cj
            have HFIND := Aside0.mk (impl_explainer.find_miss (p := impl_explainer.good l1 (n : Int) d p left) (fun j' h => HNO.out j' (by omega)))
            have HXX := Aside0.mk (show out ++ impl_explainer.back l1 (n : Int) (n - (i + 1)) p left = rr.1 from by
              have h1 := HX.out
              rw [show n - i = d + 1 by have := HDD.out; omega] at h1
              unfold impl_explainer.back at h1
              rw [HFIND.out] at h1
              rw [show n - (i + 1) = d by have := HDD.out; omega]
              exact h1)
            have HJ5 := Aside0.mk (show j = 5 from by have := HGJ.out; omega)
            go_wp2
            go_roundg d
            case measure => have := HGG.out; have := HDD.out; omega
            case rel => exact ⟨i + 1, nj, Dj, p, left, out, by first | rfl | (rw [hwi, Int.natCast_add]; rfl) | (rw [Int.natCast_add]; rfl), rfl, rfl, ⟨by have := HDD.out; omega⟩, HP, ⟨by have := HLF.out; omega⟩, ⟨by have := HOL.out; omega⟩, HXX, HO, HB, HG, HM, HD, ⟨by have h1 := HNJ.out; rw [HJ5.out] at h1; exact h1⟩⟩
      · have cb : decide (i < n) = false := decide_eq_false ci
        have HEQ := Aside0.mk (show out = rr.1 from by
          have h1 := HX.out
          rw [show n - i = 0 by omega] at h1
          simpa [impl_explainer.back] using h1)
        go_wp2
        go_ret2
        rw [HE.out]
        exact ⟨_, rfl, by have h_ := HEQ.out; rw [HE.out] at h_; rw [← h_]; exact Kd.R_mono HO.out (fun _ _ => trivial), HB.out⟩
set_option maxHeartbeats 4000000 in
set_option maxRecDepth 100000 in
theorem impl_ExplainBlock.calls (k : Nat) (a0 : Int) (A1 : Option Addr) (c1 : Nat) (l1 : List Int) (r1 : List Int) (r2 : Int) (w : World) (hr1 : Kd.C (Kd.int .i64) w A1 l1.length l1) (hc1 : l1.length ≤ c1) (h : impl_ExplainBlock.f k a0 l1 = some (r1, r2)) :
    Calls Try.prog 31 #[.int .i64 a0, .slice A1 l1.length c1] w fun e w' => ∃ v0_ : Value, e = .returned (.tuple #[v0_, .int .i64 r2]) ∧ Kd.R (Kd.int .i64) 2 w' w.heap.size (fun _ => True) v0_ r1 ∧ Below w.heap.size w w' := by
  unfold impl_ExplainBlock.f at h
  obtain ⟨t, h1, h2⟩ := Option.bind_eq_some_iff.mp h
  cases t with
  | true =>
    rw [if_pos rfl] at h2
    have hb := impl_ExplainBlock.bounds h1
    obtain ⟨n, rfl⟩ := Int.eq_ofNat_of_zero_le (show 0 ≤ a0 by omega)
    rw [Int.toNat_natCast] at h2
    have h3 := impl_ExplainBlock.yes k n A1 c1 l1 w hr1 hc1 h1
    rw [Option.some.inj h2] at h3
    exact h3
  | false =>
    rw [if_neg (by decide)] at h2
    simp only [Option.some.injEq, Prod.mk.injEq] at h2
    obtain ⟨rfl, rfl⟩ := h2
    have HR := Aside0.mk hr1
    have HC := Aside0.mk hc1
    have A3 := Aside0.mk h1
    clear hr1 hc1 h1 h
    go_enter Try.func31, Try.ntmps31
    go_wp2_with (first
      | (go_at_call 57; (with_reducible refine (impl_isBlock.calls k a0 A1 c1 l1 false _ HR.out HC.out A3.out).mono ?_); rintro e w1 ⟨rfl, hb⟩; have HB1 := Aside0.mk hb; clear hb))
    go_ret2
    exact ⟨_, rfl, Kd.R_nil _ _ _ _ _, HB1.out⟩

end Go.Proofs.Ythmeohanbggnlaa.PFnExplained
