-- Written by a program of this session.
import Derived.Test.YtdelnmbfokipoaaPFnExactMirrorHolesx0
import Derived.Test.YtdelnmbfokipoaaPFnExactMirrorHolesx1
import Derived.Test.YtdelnmbfokipoaaPFnExactMirrorHolesx2
import Derived.RangeFuncBox
import Derived.RangeFuncLeaves
import Derived.Shelf.Abstract
import Derived.WalkKit
import Derived.OwnWalkIn
import Derived.TacticsInMore
import Derived.LoopNIn
import Derived.LoopIn
import Derived.Shelf.RegionOpen
namespace Go.Proofs.Ytdelnmbfokipoaa.PFnExactMirrorHoles
open Go.RowKit Go.Proofs.YtdelnmbfokipoaaW.PrintWords Go.Proofs.YtdelnmbfokipoaaW.PrintLast Go.Proofs.YtdelnmbfokipoaaW.PrintMore
attribute [local go_sem] max2_int min2_int max_two min_two max_three min_three max_four min_four   -- for this text's walks alone
set_option linter.unusedVariables false
set_option linter.unusedSimpArgs false

/-! ### impl_MirrorHoles: function 30, by a template of this session -/
section
attribute [local go_sem] Oper.semAt_some
/-- What has come when k rounds are over: the last element, the one ahead of it, .. -/
def impl_MirrorHoles.down (zs : List Int) (k : Nat) : List (Nat × Int) := (List.range k).map fun t => (zs.length - 1 - t, rd zs ((zs.length - 1 - t : Nat) : Int))
theorem impl_MirrorHoles.down_succ (zs : List Int) (k : Nat) : impl_MirrorHoles.down zs (k + 1) = impl_MirrorHoles.down zs k ++ [(zs.length - 1 - k, rd zs ((zs.length - 1 - k : Nat) : Int))] := by simp [impl_MirrorHoles.down, List.range_succ]
theorem impl_MirrorHoles.down_len (zs : List Int) (k : Nat) : (impl_MirrorHoles.down zs k).length = k := by simp [impl_MirrorHoles.down]
/-- The holes seen from the other end. -/
def impl_MirrorHoles.mir (a : Int) (pre : List (Nat × Int)) : List Int := pre.map fun x => wrap64 (a - x.2)
theorem impl_MirrorHoles.mir_snoc (a : Int) (pre : List (Nat × Int)) (x : Nat × Int) : impl_MirrorHoles.mir a (pre ++ [x]) = impl_MirrorHoles.mir a pre ++ [wrap64 (a - x.2)] := by simp [impl_MirrorHoles.mir]
def impl_MirrorHoles.f (k : Nat) (l0 : List Int) (a1 : Int) : Option (List Int × Int) := (impl_AreHoles.f k l0).bind fun t => if t = true then (if 1 ≤ l0.length ∧ l0.length ≤ 1048576 then (if rd l0 ((l0.length - 1 : Nat) : Int) ≤ a1 ∧ a1 ≤ 20000 then some (impl_MirrorHoles.mir a1 (impl_MirrorHoles.down l0 l0.length), 0) else some ([], 2)) else none) else some ([], 2)
theorem impl_MirrorHoles.mono : ∀ l0 a1 k, LeO (impl_MirrorHoles.f k l0 a1) (impl_MirrorHoles.f (k + 1) l0 a1) := by
  intro l0 a1 k r h
  unfold impl_MirrorHoles.f at h ⊢
  obtain ⟨t, h1, h2⟩ := Option.bind_eq_some_iff.mp h
  rw [impl_AreHoles.mono l0 k t h1]
  exact h2
/-- What a body must keep: what lay below n₀, and the block Bs. -/
def impl_MirrorHoles.Kp (n₀ Bs : Nat) (A B : World) : Prop := Below n₀ A B ∧ B.heap[Bs]? = A.heap[Bs]?
theorem impl_MirrorHoles.Kp_t {n₀ Bs : Nat} {A B C : World} (h : impl_MirrorHoles.Kp n₀ Bs A B) (k : impl_MirrorHoles.Kp n₀ Bs B C) : impl_MirrorHoles.Kp n₀ Bs A C := ⟨h.1.trans k.1, k.2.trans h.2⟩
theorem impl_MirrorHoles.Kp_b {n₀ Bs : Nat} {w : World} (hn : n₀ ≤ w.heap.size) (hb : Bs < w.heap.size) (W : World) (l : Nat) (o o' : Obj) (hl : w.heap.size ≤ l) (h : W.heap[l]? = some o) (h1 : o.isCells = false) (h2 : o.isWalk = false) : impl_MirrorHoles.Kp n₀ Bs W (W.putObj l o') :=
  ⟨belowK_b hn W l o o' hl h h1 h2, World.putObj_heap_other (by omega)⟩
theorem impl_MirrorHoles.boxed_own {β : Type} (B : Nat) (t : TypeId) (v : Value) : Own (fun (_ : β) W => Boxed W B t v) := by
  rintro s X Y row hv hg hrow
  refine hv.kept hg (fun e' => ?_)
  obtain ⟨o, ho, hc⟩ := hrow B e'.symm
  rw [show X.heap[B]? = _ from hv] at ho; cases ho; cases hc
/-- A post of which a way that is none says nothing of the act. -/
def impl_MirrorHoles.calm (Q : Exit → Act → World → Prop) : Exit → Act → World → Prop
  | .normal => Q .normal
  | _ => fun _ _ => False
theorem impl_MirrorHoles.calmly {F : Fence} {n : Nat} {P : Program} {c : Code} {Q : Exit → Act → World → Prop} {a : Act} {w : World} (h : c.wpIn F n P (impl_MirrorHoles.calm Q) a w) : c.wpIn F n P Q a w :=
  wpIn_mono h (fun e a w hh => by cases e <;> first | exact hh | exact hh.elim)
set_option maxRecDepth 100000 in
set_option maxHeartbeats 4000000 in
/-- slices.Backward's literal, for every body that keeps what lay below n₀ and the literal's own variable. -/
theorem impl_MirrorHoles.back1 (F : Fence) (n : Nat) (hF : F.fn 72) (hro : F.round = none) (hn : 1 ≤ n) (l Bs n₀ cap : Nat) (ad : Addr) (zs : List Int) (hz : zs.length ≤ 1048576) (J Jx : List (Nat × Int) → World → Prop)
    (hY : ∀ pre x W, J pre W → pre.length < zs.length → YieldAt F (n - 1) Try.prog l #[.int .i64 (x.1 : Int), .int .i64 x.2] W fun e W' =>
      (e = .returned (.bool true) ∧ J (pre ++ [x]) W' ∧ impl_MirrorHoles.Kp n₀ Bs W W') ∨ (e = .returned (.bool false) ∧ Jx (pre ++ [x]) W'))
    (W : World) (hBs : W.cell? ⟨Bs, 0, none⟩ = some (.slice (some ad) zs.length cap)) (hc : ∀ q : Nat, q < zs.length → W.cell? (ad.add q) = some (.int .i64 (rd zs (q : Int))) ∧ (ad.add q).block < n₀) (h0 : J [] W) :
    CallsIn F n Try.prog 72 #[.func (.yield l) #[] #[], .pointer (some ⟨Bs, 0, none⟩)] W fun e W' => (∃ v, e = .returned v) ∧
      ((∃ ys, ys = impl_MirrorHoles.down zs zs.length ∧ J ys W') ∨ (∃ pre, (∃ k, k ≤ zs.length ∧ pre = impl_MirrorHoles.down zs k) ∧ Jx pre W')) := by
  have hc := Aside0.mk hc
  have hzz := Aside0.mk hz
  have hw0 : IntKind.i64.wrap ((zs.length : Int) - 1) = (zs.length : Int) - 1 := IntWalk.i64_in _ (by omega)
  refine callsIn_of_wp Try.func72 rfl hF ?_ hro
  simp only [Try.ntmps72, List.size_toArray, List.length_cons, List.length_nil, Nat.reduceAdd, Nat.reduceSub, Array.replicate_succ, Array.replicate_zero, List.push_toArray, List.append_toArray, List.nil_append, List.cons_append]
  gi_wp2
  gi_loopw [3] (fun i wr => ∃ j : Nat, j ≤ zs.length ∧ i = .int .i64 ((j : Int) - 1) ∧ J (impl_MirrorHoles.down zs (zs.length - j)) wr ∧ impl_MirrorHoles.Kp n₀ Bs W wr)
    (fun i _ => (intOf i + 1).toNat)
  case atStart => exact ⟨zs.length, Nat.le_refl _, by first | rfl | rw [hw0], by rw [Nat.sub_self]; exact h0, Below.refl _ _, rfl⟩
  case round =>
    obtain ⟨j, hj, rfl, hJs, hnx⟩ := hrel
    have hBs' : wr.cell? ⟨Bs, 0, none⟩ = some (.slice (some ad) zs.length cap) := (World.cell?_of_block (a := ⟨Bs, 0, none⟩) hnx.2).trans hBs
    by_cases hlt : 0 < j
    · obtain ⟨q, rfl⟩ : ∃ q, j = q + 1 := ⟨j - 1, by omega⟩
      have hq : q < zs.length := by omega
      have hcx : wr.cell? (ad.add q) = some (.int .i64 (rd zs (q : Int))) := (hnx.1.cell (p := ad.add q) (hc.out q hq).2).trans (hc.out q hq).1
      have e0 : ((q + 1 : Nat) : Int) - 1 = (q : Int) := by omega
      have hw1 : IntKind.i64.wrap ((q : Int) - 1) = (q : Int) - 1 := IntWalk.i64_in _ (by omega)
      rw [e0]
      obtain ⟨fn, tmps, assign, body, hy, hR⟩ := hY _ (q, rd zs (q : Int)) wr hJs (by rw [impl_MirrorHoles.down_len]; omega)
      have hx1 : zs.length - (q + 1) + 1 = zs.length - q := by omega
      have hJn : impl_MirrorHoles.down zs (zs.length - q) = impl_MirrorHoles.down zs (zs.length - (q + 1)) ++ [(q, rd zs (q : Int))] := by
        rw [← hx1, impl_MirrorHoles.down_succ, show zs.length - 1 - (zs.length - (q + 1)) = q by omega]
      have hJn := Aside0.mk hJn
      generalize rd zs (q : Int) = y at hcx hy hR hJn
      dsimp only at hy
      have g1 : (0 : Int) ≤ (q : Int) := by omega
      have g2 : (q : Int) < (zs.length : Int) := by omega
      clear e0 hx1
      gi_wp2
      refine hR.mono ?_
      rintro e W3 (⟨rfl, hJ3, hk3⟩ | ⟨rfl, hJx3⟩)
      · gi_wp2
        go_roundw
        case rel => exact ⟨q, by omega, by first | rfl | rw [hw1] | simp [hw1], by rw [hJn.out]; exact hJ3, impl_MirrorHoles.Kp_t hnx hk3⟩
        case measure => first | (simp [intOf]; done) | (simp [intOf]; omega)
      · gi_wp2
        refine bodyPost_ret (results_none rfl _ _ _) rfl ?_
        exact ⟨⟨_, rfl⟩, .inr ⟨_, ⟨zs.length - q, by omega, hJn.out.symm⟩, hJx3⟩⟩
    · obtain rfl : j = 0 := by omega
      gi_wp2
      go_end0
      exact ⟨⟨_, rfl⟩, .inl ⟨_, rfl, hJs⟩⟩
set_option maxHeartbeats 1000000 in
/-- slices.Backward(s): the slice lies in a variable of its own, which the literal captures. -/
theorem impl_MirrorHoles.back (F : Fence) (n : Nat) (hF : F.fn 58) (hro : F.round = none) (a : Option Addr) (len cap : Nat) (w : World) :
    CallsIn F n Try.prog 58 #[.slice a len cap] w fun e w' => e = .returned (.func (.func 72) #[] #[.pointer (some ⟨w.heap.size, 0, none⟩)]) ∧ w' = w.alloc (.cells #[.slice a len cap] 28) := by
  refine callsIn_of_wp Try.func58 rfl hF ?_ hro
  simp only [Try.ntmps58, List.size_toArray, List.length_cons, List.length_nil, Nat.reduceAdd, Nat.reduceSub, Array.replicate_succ, Array.replicate_zero, List.push_toArray, List.append_toArray, List.nil_append, List.cons_append]
  gi_wp2
  go_ret
  exact ⟨rfl, rfl⟩
theorem impl_MirrorHoles.stops (F : Fence) (n : Nat) (hF : F.fn 72) (hro : F.round = none) (hn : 1 ≤ n) (Bs n₀ cap : Nat) (ad : Addr) (zs : List Int) (hz : zs.length ≤ 1048576) (w : World) (hb : Bs < w.heap.size) (hn₀ : n₀ ≤ w.heap.size)
    (hBs : w.cell? ⟨Bs, 0, none⟩ = some (.slice (some ad) zs.length cap)) (hc : ∀ q : Nat, q < zs.length → w.cell? (ad.add q) = some (.int .i64 (rd zs (q : Int))) ∧ (ad.add q).block < n₀) :
    SeqStopsK F n Try.prog 72 #[.pointer (some ⟨Bs, 0, none⟩)] (fun x : Nat × Int => #[Value.int .i64 (x.1 : Int), Value.int .i64 x.2]) (impl_MirrorHoles.Kp n₀ Bs) (fun ys => ys = impl_MirrorHoles.down zs zs.length)
      (fun pre => ∃ k, k ≤ zs.length ∧ pre = impl_MirrorHoles.down zs k) zs.length w := fun l J Jx W hW _ _ hY h0 =>
  impl_MirrorHoles.back1 F n hF hro hn l Bs n₀ cap ad zs hz J Jx hY W ((hW.cell (p := ⟨Bs, 0, none⟩) hb).trans hBs) (fun q hq => ⟨(hW.cell (p := ad.add q) (Nat.lt_of_lt_of_le (hc q hq).2 hn₀)).trans (hc q hq).1, (hc q hq).2⟩) h0
theorem impl_MirrorHoles.info : (Try.prog.info? 2).map (fun i => (i.zero, i.size, i.bytes)) = some (some (.int .i64 0), 1, 8) := by kernel_rfl
set_option maxRecDepth 100000 in
set_option maxHeartbeats 4000000 in
theorem impl_MirrorHoles.good (k n : Nat) (hn : 8 ≤ n) (A0 : Option Addr) (c0 : Nat) (l0 : List Int) (a1 : Int) (w : World) (hr0 : Kd.C (Kd.int .i64) w A0 l0.length l0) (hc0 : l0.length ≤ c0) (h40 : impl_AreHoles.f k l0 = some true) (h1 : 1 ≤ l0.length) (h2 : l0.length ≤ 1048576)
    (h3 : rd l0 ((l0.length - 1 : Nat) : Int) ≤ a1) (h4 : a1 ≤ 20000) :
    CallsIn Fence.wide n Try.prog 30 #[.slice A0 l0.length c0, .int .i64 a1] w fun e w' => ∃ v0_ : Value, e = .returned (.tuple #[v0_, .int .i64 0]) ∧ Kd.R (Kd.int .i64) 2 w' w.heap.size (fun _ => True) v0_ (impl_MirrorHoles.mir a1 (impl_MirrorHoles.down l0 l0.length)) ∧ Below w.heap.size w w' := by
  obtain ⟨i0, hi, hz0, hz1, hz2⟩ := info_parts impl_MirrorHoles.info
  have hIn : impl_inRange.f a1 (rd l0 ((l0.length - 1 : Nat) : Int)) 20000 = some true := by unfold impl_inRange.f; rw [if_pos h3, decide_eq_true h4]
  obtain ⟨ad, ead, hlast⟩ := Kd.at_int hr0 ((l0.length - 1 : Nat) : Int) (by omega) (by omega)
  cases ead
  have hcs : ∀ q : Nat, q < l0.length → w.cell? (ad.add q) = some (.int .i64 (rd l0 (q : Int))) ∧ (ad.add q).block < w.heap.size := fun q hq => by
    obtain ⟨ad', e', hx⟩ := Kd.at_int hr0 (q : Int) (by omega) (by omega)
    cases e'
    have hx : w.cell? (ad.add q) = some (.int .i64 (rd l0 (q : Int))) := by simpa using hx
    exact ⟨hx, World.block_lt_of_cell? _ _ hx⟩
  have HCS := Aside0.mk hcs
  have HR := Aside0.mk hr0
  have HLen := Aside0.mk h2
  rw [show (((l0.length - 1 : Nat) : Int)).toNat = l0.length - 1 by omega] at hlast
  have hw1 : IntKind.i64.wrap ((l0.length : Int) - 1) = ((l0.length - 1 : Nat) : Int) := by rw [IntWalk.i64_in _ (by omega)]; omega
  have g1 : (0 : Int) ≤ ((l0.length - 1 : Nat) : Int) := by omega
  have g2 : ((l0.length - 1 : Nat) : Int) < (l0.length : Int) := by omega
  clear hr0 hcs
  generalize rd l0 ((l0.length - 1 : Nat) : Int) = y at hlast hIn
  have mixed : Try.prog.follows .mixedOrders = true := by kernel_rfl
  have hd1 : 1 ≤ n := by omega
  have bH0 := Boxed.new w 2 (.int .i64 a1)
  have H40 := Aside0.mk (show ∀ (m : Nat) (W : World), Below w.heap.size w W → CallsIn Fence.wide m Try.prog 40 #[.slice (some ad) l0.length c0] W (fun e w' => e = .returned (.bool true) ∧ Below W.heap.size W w') from fun m W hW => callsIn_wide.2 (impl_AreHoles.calls k (some ad) c0 l0 true W (Kd.C_below HR.out hW) hc0 h40))
  have H53 := Aside0.mk (show ∀ (m : Nat) (W : World), CallsIn Fence.wide m Try.prog 53 #[.int .i64 a1, .int .i64 y, .int .i64 20000] W (fun e w' => e = .returned (.bool true) ∧ Drawn0 W w') from fun m W => callsIn_wide.2 (impl_inRange.calls a1 y 20000 true W hIn))
  clear hIn h40
  have hHA := bH0.cell
  have hLA : (w.alloc (.cells #[.int .i64 a1] 2)).cell? (ad.add (l0.length - 1)) = some (.int .i64 y) := ((below_alloc (Below.refl w.heap.size w) (.cells #[.int .i64 a1] 2)).cell (p := ad.add (l0.length - 1)) (HCS.out (l0.length - 1) (by omega)).2).trans hlast
  have hbz : w.heap.size < (w.alloc (.cells #[.int .i64 a1] 2)).heap.size := by simp
  have hbl : (ad.add (l0.length - 1)).block < (w.alloc (.cells #[.int .i64 a1] 2)).heap.size := by have := (HCS.out (l0.length - 1) (by omega)).2; simp; omega
  have hfa : Fence.wide.fn 40 := trivial
  have hfi : Fence.wide.fn 53 := trivial
  have hfk : Fence.wide.fn 58 := trivial
  refine callsIn_of_wp_marks Try.func30 rfl trivial ?_ rfl
  simp only [Try.ntmps30, List.size_toArray, List.length_cons, List.length_nil, Nat.reduceAdd, Nat.reduceSub, Array.replicate_succ, Array.replicate_zero, List.push_toArray, List.append_toArray, List.nil_append, List.cons_append]
  gi_wp2
  refine impl_MirrorHoles.calmly ?_
  gi_region_with_o (first | (gi_at_call 40; refine (H40.out _ _ (by repeat (first | exact Below.refl _ _ | refine below_alloc ?_ _ | refine pw_below_drewN ?_ _))).mono ?_; rintro e w1 ⟨rfl, hB1⟩; have k1 : w1.cell? ⟨w.heap.size, 0, none⟩ = some (.int .i64 a1) := (hB1.cell (p := ⟨w.heap.size, 0, none⟩) hbz).trans hHA; have k2 : w1.cell? (ad.add (l0.length - 1)) = some (.int .i64 y) := (hB1.cell (p := ad.add (l0.length - 1)) hbl).trans hLA; have HB1 := Aside0.mk hB1; clear hB1) | (gi_at_call 53; refine (H53.out _ _).mono ?_; rintro e w2 ⟨rfl, ⟨m2, rfl⟩⟩))
  all_goals simp only [impl_MirrorHoles.calm]
  all_goals (clear mixed)
  all_goals (gi_wp2_with (gi_at_call 58; refine (impl_MirrorHoles.back Fence.wide _ hfk rfl _ _ _ _).mono ?_; rintro e w' ⟨rfl, rfl⟩))
  all_goals (
    have hnb : w.heap.size < w1.heap.size := by have := HB1.out.size; simp at this; omega
    have HBw : Below w.heap.size w (w1.drewN m2) := pw_below_drewN ((below_drew1 (below_alloc (Below.refl w.heap.size w) (.cells #[.int .i64 a1] 2))).trans (HB1.out.mono (B' := w.heap.size) (by simp))) m2
    have bH1 : Boxed (w1.drewN m2) w.heap.size 2 (.int .i64 a1) := (HB1.out.block w.heap.size (by simp)).trans bH0
    obtain ⟨W1, hW1⟩ : ∃ W1, W1 = w1.drewN m2 := ⟨_, rfl⟩
    have hs1 : w1.heap.size = W1.heap.size := by rw [hW1]; rfl
    rw [← hW1] at HBw bH1 ⊢
    rw [hs1] at hnb ⊢
    clear hW1 hs1 HB1 k1 k2 H40 H53 hHA hLA hbz hbl hlast bH0
    have hBu := Try.underlying28
    have bO : Boxed (((W1.alloc (.cells #[] 2)).alloc (.cells #[.slice (some ⟨W1.heap.size, 0, none⟩) 0 0] 28)).alloc (.cells #[.slice (some ad) l0.length c0] 28)) (W1.heap.size + 1) 28 (.slice (some ⟨W1.heap.size, 0, none⟩) 0 0) := by
      have := (Boxed.new (W1.alloc (.cells #[] 2)) 28 (.slice (some ⟨W1.heap.size, 0, none⟩) 0 0)).alloc (.cells #[.slice (some ad) l0.length c0] 28)
      rwa [World.size_alloc] at this
    have bS : Boxed (((W1.alloc (.cells #[] 2)).alloc (.cells #[.slice (some ⟨W1.heap.size, 0, none⟩) 0 0] 28)).alloc (.cells #[.slice (some ad) l0.length c0] 28)) (W1.heap.size + 1 + 1) 28 (.slice (some ad) l0.length c0) := by
      have := Boxed.new ((W1.alloc (.cells #[] 2)).alloc (.cells #[.slice (some ⟨W1.heap.size, 0, none⟩) 0 0] 28)) 28 (.slice (some ad) l0.length c0)
      rwa [World.size_alloc, World.size_alloc] at this
    have hB4 : Below W1.heap.size W1 (((W1.alloc (.cells #[] 2)).alloc (.cells #[.slice (some ⟨W1.heap.size, 0, none⟩) 0 0] 28)).alloc (.cells #[.slice (some ad) l0.length c0] 28)) := (((Below.refl _ W1).alloc (Nat.le_refl _) _).alloc (by simp) _).alloc (by simp; omega) _
    have own0 : (((W1.alloc (.cells #[] 2)).alloc (.cells #[.slice (some ⟨W1.heap.size, 0, none⟩) 0 0] 28)).alloc (.cells #[.slice (some ad) l0.length c0] 28)).ownsRow W1.heap.size 2 1 (.slice (some ⟨W1.heap.size, 0, none⟩) 0 0) 0 [] := by
      refine ⟨rfl, .inr ⟨W1.heap.size, 0, #[], rfl, Nat.le_refl _, ?_, Nat.le_refl _, Nat.zero_le _, rfl, rfl⟩⟩
      exact (Below.heap_alloc _ _ _ (by simp; omega)).trans ((Below.heap_alloc _ _ _ (by simp)).trans (World.alloc_heap_new W1 _))
    have hsz : (((W1.alloc (.cells #[] 2)).alloc (.cells #[.slice (some ⟨W1.heap.size, 0, none⟩) 0 0] 28)).alloc (.cells #[.slice (some ad) l0.length c0] 28)).heap.size = W1.heap.size + 3 := by simp
    have hcs4 : ∀ q : Nat, q < l0.length → (((W1.alloc (.cells #[] 2)).alloc (.cells #[.slice (some ⟨W1.heap.size, 0, none⟩) 0 0] 28)).alloc (.cells #[.slice (some ad) l0.length c0] 28)).cell? (ad.add q) = some (.int .i64 (rd l0 (q : Int))) ∧ (ad.add q).block < W1.heap.size := fun q hq => by
      obtain ⟨x1, x2⟩ := HCS.out q hq
      have x3 : (ad.add q).block < W1.heap.size := by omega
      exact ⟨(hB4.cell (p := ad.add q) x3).trans ((HBw.cell (p := ad.add q) x2).trans x1), x3⟩
    generalize (((W1.alloc (.cells #[] 2)).alloc (.cells #[.slice (some ⟨W1.heap.size, 0, none⟩) 0 0] 28)).alloc (.cells #[.slice (some ad) l0.length c0] 28)) = W4 at bO bS hB4 own0 hsz hcs4 ⊢
    refine wpIn_rangeFunc_ownG rfl hd1 (gf := 72) (lb := #[.pointer (some ⟨W1.heap.size + 1 + 1, 0, none⟩)]) rfl trivial (enters_of Try.func72 (by kernel_rfl) rfl)
      (impl_MirrorHoles.stops Fence.wide (n - 1) trivial rfl (by omega) (W1.heap.size + 1 + 1) W1.heap.size c0 ad l0 h2 W4 (by omega) (by omega) bS.cell hcs4) (fun h k => impl_MirrorHoles.Kp_t h k) (impl_MirrorHoles.Kp_b (by omega) (by omega)) (Below.refl _ _) (fun _ => rfl)
      (fun pre W => (∃ v, Boxed W (W1.heap.size + 1) 28 v ∧ W.ownsRow W1.heap.size 2 1 v pre.length ((impl_MirrorHoles.mir a1 pre).map (Value.int .i64)) ∧ True) ∧ Boxed W (W1.heap.size + 1 + 1) 28 (.slice (some ad) l0.length c0) ∧ Below W1.heap.size W1 W)
      (fun _ _ _ => False)
      (OwnFrom.and (Own.from (holdsRow_own W1.heap.size (W1.heap.size + 1) 28 2 1 (fun pre => pre.length) (fun pre => (impl_MirrorHoles.mir a1 pre).map (Value.int .i64)) (fun _ _ => True)) _) (OwnFrom.and (Own.from (impl_MirrorHoles.boxed_own _ _ _) _) (ownFrom_below (Nat.le_refl _) (by omega))))
      (fun _ _ _ _ _ hs _ _ => hs)
      ⟨⟨_, bO, own0, trivial⟩, bS, hB4⟩
      (fun x => { tmps := #[.slice (some ad) l0.length c0, .int .i64 a1, undef, .pointer (some ⟨w.heap.size, 0, none⟩), .slice none 0 0, .int .i64 0, .pointer (some ⟨W1.heap.size + 1, 0, none⟩), undef, .int .i64 x.2, .slice (some ad) l0.length c0, .bool true, .bool false, .bool false, .int .i64 a1, .slice (some ad) l0.length c0, .slice (some ad) l0.length c0, .int .i64 l0.length, .int .i64 ((l0.length - 1 : Nat) : Int), .pointer (some (ad.add (l0.length - 1))), .int .i64 y, .bool true, .bool false, .bool false, .slice (some ⟨W1.heap.size, 0, none⟩) 0 0, .slice (some ad) l0.length c0, .func (.func 72) #[] #[.pointer (some ⟨W1.heap.size + 1 + 1, 0, none⟩)], .int .i64 (x.1 : Int), .int .i64 x.2, undef, undef, undef, undef, undef, undef, undef], defers := [] }) ?assign ?body ?done ?stop
    case assign =>
      intro l x W K hK
      gi_wp2
      exact hK
    case body =>
      rintro l pre x W ⟨⟨v, hv, hrow, _⟩, hbS, hB⟩ hlt
      have hc := hv.cell
      have hbH : Boxed W w.heap.size 2 (.int .i64 a1) := (hB.block w.heap.size hnb).trans bH1
      have hcH := hbH.cell
      gi_wp2_with (gi_at_builtin; refine wpListIn_append_own _ rfl _ _ 28 rfl W1.heap.size 2 i0 (.int .i64 0) 1 8 hBu hi hz0 hz1 hz2 rfl (by decide) _ _ _ rfl (hrow.alloc _) ⟨W.heap.size, 0, none⟩ 1 1 [.int .i64 (wrap64 (a1 - x.2))] rfl rfl (cell_one_new _ _ _) (by simp [Value.oneCell']) (by unfold maxLen; omega) (by omega) (by have := hB.size; simp; omega) ?_; intro v' w9 hown' hgrow _; obtain ⟨g', cap', rfl⟩ := ownsRow_succ hown'; obtain ⟨hv1, hv2, hr2, hk2, hb2⟩ := hv.appended (by decide) hrow hB.size (by omega) hown' hgrow; have hc1 := hv1.cell; have hf1 := hv1.frozen)
      have hne : some (W1.heap.size + 1 + 1) ≠ v.ownBlock := hbS.not_row (by decide) hrow
      have hb3 : w9.heap[W1.heap.size + 1 + 1]? = W.heap[W1.heap.size + 1 + 1]? := (hgrow.block _ (by have := hbS.lt; simp; omega) hne).trans (Below.heap_alloc _ _ _ hbS.lt)
      have hb4 := (Below.heap_setCell w9 ⟨W1.heap.size + 1, 0, none⟩ (.slice (some ⟨g', 0, none⟩) (pre.length + 1) cap') (W1.heap.size + 1 + 1) (by simp)).trans hb3
      exact ⟨hk2.from _, ⟨hb2, hb4⟩, ⟨_, hv2, by rw [impl_MirrorHoles.mir_snoc]; simpa using hr2, trivial⟩, hb4.trans hbS, hB.trans hb2⟩
    case done =>
      rintro D ys W hD rfl ⟨⟨v, hv, hrow, _⟩, hbS, hB⟩ hK
      have hc := hv.cell
      gi_wp2
      refine ⟨by simp, .inl ⟨_, _, rfl, run_takeDeferred hK, ?_⟩⟩
      refine ⟨_, results_tmp2 rfl _ _ _, v, rfl, ?_, HBw.trans ((hB.trans (belowK_b (w := W4) (by omega) W D _ _ hD hK rfl rfl)).mono (by omega))⟩
      have ho := ownsRow_putObj hrow (.deferred none) hK rfl
      have ho2 := own_weaken ho (show w.heap.size ≤ W1.heap.size by omega)
      rw [show (impl_MirrorHoles.down l0 l0.length).length = (impl_MirrorHoles.mir a1 (impl_MirrorHoles.down l0 l0.length)).length by simp [impl_MirrorHoles.mir]] at ho2
      exact Kd.R_of_own ho2 (fun _ _ => trivial)
    case stop =>
      rintro D c pre W _ _ h _
      exact h.elim)
set_option maxRecDepth 100000 in
set_option maxHeartbeats 4000000 in
theorem impl_MirrorHoles.bad2 (k n : Nat) (hn : 8 ≤ n) (A0 : Option Addr) (c0 : Nat) (l0 : List Int) (a1 : Int) (w : World) (hr0 : Kd.C (Kd.int .i64) w A0 l0.length l0) (hc0 : l0.length ≤ c0) (h40 : impl_AreHoles.f k l0 = some true) (h1 : 1 ≤ l0.length) (h2 : l0.length ≤ 1048576)
    (h3 : ¬ (rd l0 ((l0.length - 1 : Nat) : Int) ≤ a1 ∧ a1 ≤ 20000)) :
    CallsIn Fence.wide n Try.prog 30 #[.slice A0 l0.length c0, .int .i64 a1] w fun e w' => e = .returned (.tuple #[.slice none 0 0, .int .i64 2]) ∧ Below w.heap.size w w' := by
  have hIn : impl_inRange.f a1 (rd l0 ((l0.length - 1 : Nat) : Int)) 20000 = some false := by
    unfold impl_inRange.f
    by_cases h5 : rd l0 ((l0.length - 1 : Nat) : Int) ≤ a1
    · rw [if_pos h5, decide_eq_false (fun h6 => h3 ⟨h5, h6⟩)]
    · rw [if_neg h5]
  obtain ⟨ad, ead, hlast⟩ := Kd.at_int hr0 ((l0.length - 1 : Nat) : Int) (by omega) (by omega)
  cases ead
  have hcs : ∀ q : Nat, q < l0.length → w.cell? (ad.add q) = some (.int .i64 (rd l0 (q : Int))) ∧ (ad.add q).block < w.heap.size := fun q hq => by
    obtain ⟨ad', e', hx⟩ := Kd.at_int hr0 (q : Int) (by omega) (by omega)
    cases e'
    have hx : w.cell? (ad.add q) = some (.int .i64 (rd l0 (q : Int))) := by simpa using hx
    exact ⟨hx, World.block_lt_of_cell? _ _ hx⟩
  have HCS := Aside0.mk hcs
  have HR := Aside0.mk hr0
  have HLen := Aside0.mk h2
  rw [show (((l0.length - 1 : Nat) : Int)).toNat = l0.length - 1 by omega] at hlast
  have hw1 : IntKind.i64.wrap ((l0.length : Int) - 1) = ((l0.length - 1 : Nat) : Int) := by rw [IntWalk.i64_in _ (by omega)]; omega
  have g1 : (0 : Int) ≤ ((l0.length - 1 : Nat) : Int) := by omega
  have g2 : ((l0.length - 1 : Nat) : Int) < (l0.length : Int) := by omega
  clear hr0 hcs
  generalize rd l0 ((l0.length - 1 : Nat) : Int) = y at hlast hIn
  have mixed : Try.prog.follows .mixedOrders = true := by kernel_rfl
  have hd1 : 1 ≤ n := by omega
  have bH0 := Boxed.new w 2 (.int .i64 a1)
  have H40 := Aside0.mk (show ∀ (m : Nat) (W : World), Below w.heap.size w W → CallsIn Fence.wide m Try.prog 40 #[.slice (some ad) l0.length c0] W (fun e w' => e = .returned (.bool true) ∧ Below W.heap.size W w') from fun m W hW => callsIn_wide.2 (impl_AreHoles.calls k (some ad) c0 l0 true W (Kd.C_below HR.out hW) hc0 h40))
  have H53 := Aside0.mk (show ∀ (m : Nat) (W : World), CallsIn Fence.wide m Try.prog 53 #[.int .i64 a1, .int .i64 y, .int .i64 20000] W (fun e w' => e = .returned (.bool false) ∧ Drawn0 W w') from fun m W => callsIn_wide.2 (impl_inRange.calls a1 y 20000 false W hIn))
  clear hIn h40
  have hHA := bH0.cell
  have hLA : (w.alloc (.cells #[.int .i64 a1] 2)).cell? (ad.add (l0.length - 1)) = some (.int .i64 y) := ((below_alloc (Below.refl w.heap.size w) (.cells #[.int .i64 a1] 2)).cell (p := ad.add (l0.length - 1)) (HCS.out (l0.length - 1) (by omega)).2).trans hlast
  have hbz : w.heap.size < (w.alloc (.cells #[.int .i64 a1] 2)).heap.size := by simp
  have hbl : (ad.add (l0.length - 1)).block < (w.alloc (.cells #[.int .i64 a1] 2)).heap.size := by have := (HCS.out (l0.length - 1) (by omega)).2; simp; omega
  have hfa : Fence.wide.fn 40 := trivial
  have hfi : Fence.wide.fn 53 := trivial
  have hfk : Fence.wide.fn 58 := trivial
  clear h3
  refine callsIn_of_wp Try.func30 rfl trivial ?_ rfl
  simp only [Try.ntmps30, List.size_toArray, List.length_cons, List.length_nil, Nat.reduceAdd, Nat.reduceSub, Array.replicate_succ, Array.replicate_zero, List.push_toArray, List.append_toArray, List.nil_append, List.cons_append]
  gi_wp2
  refine impl_MirrorHoles.calmly ?_
  gi_region_with_o (first | (gi_at_call 40; refine (H40.out _ _ (by repeat (first | exact Below.refl _ _ | refine below_alloc ?_ _ | refine pw_below_drewN ?_ _))).mono ?_; rintro e w1 ⟨rfl, hB1⟩; have k1 : w1.cell? ⟨w.heap.size, 0, none⟩ = some (.int .i64 a1) := (hB1.cell (p := ⟨w.heap.size, 0, none⟩) hbz).trans hHA; have k2 : w1.cell? (ad.add (l0.length - 1)) = some (.int .i64 y) := (hB1.cell (p := ad.add (l0.length - 1)) hbl).trans hLA; have HB1 := Aside0.mk hB1; clear hB1) | (gi_at_call 53; refine (H53.out _ _).mono ?_; rintro e w2 ⟨rfl, ⟨m2, rfl⟩⟩))
  all_goals simp only [impl_MirrorHoles.calm]
  all_goals (clear mixed)
  all_goals (gi_wp2; refine bodyPost_ret (results_tmp2 rfl _ _ _) rfl ?_)
  all_goals exact ⟨rfl, pw_below_drewN ((below_drew1 (below_alloc (Below.refl w.heap.size w) (.cells #[.int .i64 a1] 2))).trans (HB1.out.mono (B' := w.heap.size) (by simp))) m2⟩
set_option maxRecDepth 100000 in
set_option maxHeartbeats 4000000 in
theorem impl_MirrorHoles.bad1 (k n : Nat) (hn : 8 ≤ n) (A0 : Option Addr) (c0 : Nat) (l0 : List Int) (a1 : Int) (w : World) (hr0 : Kd.C (Kd.int .i64) w A0 l0.length l0) (hc0 : l0.length ≤ c0) (h40 : impl_AreHoles.f k l0 = some false) :
    CallsIn Fence.wide n Try.prog 30 #[.slice A0 l0.length c0, .int .i64 a1] w fun e w' => e = .returned (.tuple #[.slice none 0 0, .int .i64 2]) ∧ Below w.heap.size w w' := by
  have HR := Aside0.mk hr0
  clear hr0
  have mixed : Try.prog.follows .mixedOrders = true := by kernel_rfl
  have hd1 : 1 ≤ n := by omega
  have H40 := Aside0.mk (show ∀ (m : Nat) (W : World), Below w.heap.size w W → CallsIn Fence.wide m Try.prog 40 #[.slice A0 l0.length c0] W (fun e w' => e = .returned (.bool false) ∧ Below W.heap.size W w') from fun m W hW => callsIn_wide.2 (impl_AreHoles.calls k A0 c0 l0 false W (Kd.C_below HR.out hW) hc0 h40))
  clear h40
  have hfa : Fence.wide.fn 40 := trivial
  have hfi : Fence.wide.fn 53 := trivial
  refine callsIn_of_wp Try.func30 rfl trivial ?_ rfl
  simp only [Try.ntmps30, List.size_toArray, List.length_cons, List.length_nil, Nat.reduceAdd, Nat.reduceSub, Array.replicate_succ, Array.replicate_zero, List.push_toArray, List.append_toArray, List.nil_append, List.cons_append]
  gi_wp2
  refine impl_MirrorHoles.calmly ?_
  (first | (gi_region_with_o (gi_at_call 40; refine (H40.out _ _ (by repeat (first | exact Below.refl _ _ | refine below_alloc ?_ _ | refine pw_below_drewN ?_ _))).mono ?_; rintro e w1 ⟨rfl, hB1⟩; have HB1 := Aside0.mk hB1; clear hB1)) | fail)
  all_goals simp only [impl_MirrorHoles.calm]
  all_goals (clear mixed)
  all_goals (gi_wp2; refine bodyPost_ret (results_tmp2 rfl _ _ _) rfl ?_)
  all_goals exact ⟨rfl, (below_drew1 (below_alloc (Below.refl w.heap.size w) (.cells #[.int .i64 a1] 2))).trans (HB1.out.mono (B' := w.heap.size) (by simp))⟩
theorem impl_MirrorHoles.calls (k : Nat) (A0 : Option Addr) (c0 : Nat) (l0 : List Int) (a1 : Int) (r1 : List Int) (r2 : Int) (w : World) (hr0 : Kd.C (Kd.int .i64) w A0 l0.length l0) (hc0 : l0.length ≤ c0) (h : impl_MirrorHoles.f k l0 a1 = some (r1, r2)) :
    Calls Try.prog 30 #[.slice A0 l0.length c0, .int .i64 a1] w fun e w' => ∃ v0_ : Value, e = .returned (.tuple #[v0_, .int .i64 r2]) ∧ Kd.R (Kd.int .i64) 2 w' w.heap.size (fun _ => True) v0_ r1 ∧ Below w.heap.size w w' := by
  unfold impl_MirrorHoles.f at h
  obtain ⟨t, h40, h⟩ := Option.bind_eq_some_iff.mp h
  cases t with
  | false =>
    rw [if_neg (by decide)] at h
    obtain ⟨rfl, rfl⟩ := Prod.mk.inj (Option.some.inj h)
    refine callsIn_wide.1 ((impl_MirrorHoles.bad1 k 8 (Nat.le_refl _) A0 c0 l0 a1 w hr0 hc0 h40).mono ?_)
    rintro e w' ⟨rfl, hB⟩
    exact ⟨_, rfl, Kd.R_nil _ _ _ _ _, hB⟩
  | true =>
    rw [if_pos rfl] at h
    by_cases h1 : 1 ≤ l0.length ∧ l0.length ≤ 1048576
    · rw [if_pos h1] at h
      by_cases h3 : rd l0 ((l0.length - 1 : Nat) : Int) ≤ a1 ∧ a1 ≤ 20000
      · rw [if_pos h3] at h
        obtain ⟨rfl, rfl⟩ := Prod.mk.inj (Option.some.inj h)
        exact callsIn_wide.1 (impl_MirrorHoles.good k 8 (Nat.le_refl _) A0 c0 l0 a1 w hr0 hc0 h40 h1.1 h1.2 h3.1 h3.2)
      · rw [if_neg h3] at h
        obtain ⟨rfl, rfl⟩ := Prod.mk.inj (Option.some.inj h)
        refine callsIn_wide.1 ((impl_MirrorHoles.bad2 k 8 (Nat.le_refl _) A0 c0 l0 a1 w hr0 hc0 h40 h1.1 h1.2 h3).mono ?_)
        rintro e w' ⟨rfl, hB⟩
        exact ⟨_, rfl, Kd.R_nil _ _ _ _ _, hB⟩
    · rw [if_neg h1] at h
      cases h
end

/-! ### laws_FnExactMirrorHoles: function 7 -/
mutual
def laws_FnExactMirrorHoles.j0 : Nat → List Int → Int → List Int → Int → List Int → List Int → Int → Bool → Option (Bool)
  | 0, _, _, _, _, _, _, _, _ => none
  | k + 1, x0, x1, x5, x6, x7, x8, x9, x41 => if x41 = true then (some false) else ((laws_toInt64S.f k x0).bind fun t146 => ((laws_eqInt64S.f k x7 t146).bind fun t149 => (if t149 = true then ((laws_markInt64S.f k x7 1).bind fun bt150 => (if bt150.1 < 0 then (laws_FnExactMirrorHoles.j1 k x0 x1 x5 x6 x8 true) else ((laws_eqInt64S.f k x8 x5).bind fun t152 => (if t152 = true then (laws_FnExactMirrorHoles.j1 k x0 x1 x5 x6 x8 (x9 != x6)) else (laws_FnExactMirrorHoles.j1 k x0 x1 x5 x6 x8 true))))) else (some false))))
def laws_FnExactMirrorHoles.j1 : Nat → List Int → Int → List Int → Int → List Int → Bool → Option (Bool)
  | 0, _, _, _, _, _, _ => none
  | k + 1, x0, x1, x5, x6, x8, x62 => if x62 = true then (some false) else ((laws_markInt64S.f k x8 1).bind fun bt153 => ((laws_heldInt64S.f k bt153.2 1).bind fun t155 => (if t155 < 0 then (some false) else (if t155 = bt153.1 then ((laws_toInt64S.f k x0).bind fun t156 => ((impl_MirrorHoles.f k t156 x1).bind fun bt159 => ((laws_eqInt64S.f k bt159.1 x5).bind fun t163 => (if t163 = true then (laws_FnExactMirrorHoles.j2 k bt153.2 bt153.1 (bt159.2 != x6)) else (laws_FnExactMirrorHoles.j2 k bt153.2 bt153.1 true))))) else (some false)))))
def laws_FnExactMirrorHoles.j2 : Nat → List Int → Int → Bool → Option (Bool)
  | 0, _, _, _ => none
  | k + 1, x8, x11, x89 => if x89 = true then (some false) else ((laws_heldInt64S.f k x8 1).bind fun t164 => (if t164 < 0 then (some false) else (if t164 = x11 then (some true) else (some false))))
end
def laws_FnExactMirrorHoles.f (k : Nat) (l0 : List Int) (a1 : Int) : Option (Bool) := if (l0.length : Int) > 1048576 then (some true) else ((laws_toInt64S.f k l0).bind fun t131 => ((spec_MirrorHoles.f k t131 a1).bind fun bt134 => ((laws_toInt64S.f k l0).bind fun t138 => ((impl_MirrorHoles.f k t138 a1).bind fun bt141 => ((laws_eqInt64S.f k bt141.1 bt134.1).bind fun t145 => (if t145 = true then (laws_FnExactMirrorHoles.j0 k l0 a1 bt134.1 bt134.2 t138 bt141.1 bt141.2 (bt141.2 != bt134.2)) else (laws_FnExactMirrorHoles.j0 k l0 a1 bt134.1 bt134.2 t138 bt141.1 bt141.2 true)))))))
theorem laws_FnExactMirrorHoles.mono_l : ∀ k, (∀ y0 y1 y2 y3 y4 y5 y6 y7, LeO (laws_FnExactMirrorHoles.j0 k y0 y1 y2 y3 y4 y5 y6 y7) (laws_FnExactMirrorHoles.j0 (k + 1) y0 y1 y2 y3 y4 y5 y6 y7)) ∧ (∀ y0 y1 y2 y3 y4 y5, LeO (laws_FnExactMirrorHoles.j1 k y0 y1 y2 y3 y4 y5) (laws_FnExactMirrorHoles.j1 (k + 1) y0 y1 y2 y3 y4 y5)) ∧ (∀ y0 y1 y2, LeO (laws_FnExactMirrorHoles.j2 k y0 y1 y2) (laws_FnExactMirrorHoles.j2 (k + 1) y0 y1 y2))
  | 0 => ⟨fun _ _ _ _ _ _ _ _ r h => by simp [laws_FnExactMirrorHoles.j0] at h, fun _ _ _ _ _ _ r h => by simp [laws_FnExactMirrorHoles.j1] at h, fun _ _ _ r h => by simp [laws_FnExactMirrorHoles.j2] at h⟩
  | k + 1 => by
    obtain ⟨ih0, ih1, ih2⟩ := laws_FnExactMirrorHoles.mono_l k
    refine ⟨?_, ?_, ?_⟩
    · intro y0 y1 y2 y3 y4 y5 y6 y7
      unfold laws_FnExactMirrorHoles.j0
      repeat' first
      | (with_reducible exact ih0 _ _ _ _ _ _ _ _)
      | (with_reducible exact ih1 _ _ _ _ _ _)
      | (with_reducible exact ih2 _ _ _)
      | (with_reducible exact impl_MirrorHoles.mono _ _ _)
      | (with_reducible exact laws_eqInt64S.mono _ _ _)
      | (with_reducible exact laws_heldInt64S.mono _ _ _)
      | (with_reducible exact laws_markInt64S.mono _ _ _)
      | (with_reducible exact laws_toInt64S.mono _ _)
      | (with_reducible exact spec_MirrorHoles.mono _ _ _)
      | (with_reducible exact LeO.refl _)
      | (with_reducible exact LeO.none _)
      | (with_reducible refine LeO.ite ?_ ?_)
      | (with_reducible refine LeO.bind ?_ (fun _ => ?_))
      | exact ih0 _ _ _ _ _ _ _ _
      | exact ih1 _ _ _ _ _ _
      | exact ih2 _ _ _
      | exact impl_MirrorHoles.mono _ _ _
      | exact laws_eqInt64S.mono _ _ _
      | exact laws_heldInt64S.mono _ _ _
      | exact laws_markInt64S.mono _ _ _
      | exact laws_toInt64S.mono _ _
      | exact spec_MirrorHoles.mono _ _ _
      | exact LeO.none _
      | refine LeO.ite ?_ ?_
      | refine LeO.bind ?_ (fun _ => ?_)
    · intro y0 y1 y2 y3 y4 y5
      unfold laws_FnExactMirrorHoles.j1
      repeat' first
      | (with_reducible exact ih0 _ _ _ _ _ _ _ _)
      | (with_reducible exact ih1 _ _ _ _ _ _)
      | (with_reducible exact ih2 _ _ _)
      | (with_reducible exact impl_MirrorHoles.mono _ _ _)
      | (with_reducible exact laws_eqInt64S.mono _ _ _)
      | (with_reducible exact laws_heldInt64S.mono _ _ _)
      | (with_reducible exact laws_markInt64S.mono _ _ _)
      | (with_reducible exact laws_toInt64S.mono _ _)
      | (with_reducible exact spec_MirrorHoles.mono _ _ _)
      | (with_reducible exact LeO.refl _)
      | (with_reducible exact LeO.none _)
      | (with_reducible refine LeO.ite ?_ ?_)
      | (with_reducible refine LeO.bind ?_ (fun _ => ?_))
      | exact ih0 _ _ _ _ _ _ _ _
      | exact ih1 _ _ _ _ _ _
      | exact ih2 _ _ _
      | exact impl_MirrorHoles.mono _ _ _
      | exact laws_eqInt64S.mono _ _ _
      | exact laws_heldInt64S.mono _ _ _
      | exact laws_markInt64S.mono _ _ _
      | exact laws_toInt64S.mono _ _
      | exact spec_MirrorHoles.mono _ _ _
      | exact LeO.none _
      | refine LeO.ite ?_ ?_
      | refine LeO.bind ?_ (fun _ => ?_)
    · intro y0 y1 y2
      unfold laws_FnExactMirrorHoles.j2
      repeat' first
      | (with_reducible exact ih0 _ _ _ _ _ _ _ _)
      | (with_reducible exact ih1 _ _ _ _ _ _)
      | (with_reducible exact ih2 _ _ _)
      | (with_reducible exact impl_MirrorHoles.mono _ _ _)
      | (with_reducible exact laws_eqInt64S.mono _ _ _)
      | (with_reducible exact laws_heldInt64S.mono _ _ _)
      | (with_reducible exact laws_markInt64S.mono _ _ _)
      | (with_reducible exact laws_toInt64S.mono _ _)
      | (with_reducible exact spec_MirrorHoles.mono _ _ _)
      | (with_reducible exact LeO.refl _)
      | (with_reducible exact LeO.none _)
      | (with_reducible refine LeO.ite ?_ ?_)
      | (with_reducible refine LeO.bind ?_ (fun _ => ?_))
      | exact ih0 _ _ _ _ _ _ _ _
      | exact ih1 _ _ _ _ _ _
      | exact ih2 _ _ _
      | exact impl_MirrorHoles.mono _ _ _
      | exact laws_eqInt64S.mono _ _ _
      | exact laws_heldInt64S.mono _ _ _
      | exact laws_markInt64S.mono _ _ _
      | exact laws_toInt64S.mono _ _
      | exact spec_MirrorHoles.mono _ _ _
      | exact LeO.none _
      | refine LeO.ite ?_ ?_
      | refine LeO.bind ?_ (fun _ => ?_)
theorem laws_FnExactMirrorHoles.mono : ∀ a0 a1 k, LeO (laws_FnExactMirrorHoles.f k a0 a1) (laws_FnExactMirrorHoles.f (k + 1) a0 a1) := by
  intro a0 a1 k
  obtain ⟨ih0, ih1, ih2⟩ := laws_FnExactMirrorHoles.mono_l k
  unfold laws_FnExactMirrorHoles.f
  repeat' first
      | (with_reducible exact ih0 _ _ _ _ _ _ _ _)
      | (with_reducible exact ih1 _ _ _ _ _ _)
      | (with_reducible exact ih2 _ _ _)
      | (with_reducible exact impl_MirrorHoles.mono _ _ _)
      | (with_reducible exact laws_eqInt64S.mono _ _ _)
      | (with_reducible exact laws_heldInt64S.mono _ _ _)
      | (with_reducible exact laws_markInt64S.mono _ _ _)
      | (with_reducible exact laws_toInt64S.mono _ _)
      | (with_reducible exact spec_MirrorHoles.mono _ _ _)
      | (with_reducible exact LeO.refl _)
      | (with_reducible exact LeO.none _)
      | (with_reducible refine LeO.ite ?_ ?_)
      | (with_reducible refine LeO.bind ?_ (fun _ => ?_))
      | exact ih0 _ _ _ _ _ _ _ _
      | exact ih1 _ _ _ _ _ _
      | exact ih2 _ _ _
      | exact impl_MirrorHoles.mono _ _ _
      | exact laws_eqInt64S.mono _ _ _
      | exact laws_heldInt64S.mono _ _ _
      | exact laws_markInt64S.mono _ _ _
      | exact laws_toInt64S.mono _ _
      | exact spec_MirrorHoles.mono _ _ _
      | exact LeO.none _
      | refine LeO.ite ?_ ?_
      | refine LeO.bind ?_ (fun _ => ?_)
set_option maxHeartbeats 8000000 in
set_option maxRecDepth 100000 in
theorem laws_FnExactMirrorHoles.calls (k : Nat) (A0 : Option Addr) (c0 : Nat) (l0 : List Int) (a1 : Int) (r : Bool) (w : World) (hr0 : Kd.C (Kd.int .i64) w A0 l0.length l0) (hc0 : l0.length ≤ c0) (hr_ : Aside0 (r = true)) (h : laws_FnExactMirrorHoles.f k l0 a1 = some r) :
    Calls Try.prog 7 #[.slice A0 l0.length c0, .int .i64 a1] w fun e w' => e = .returned (.bool r) ∧ Below w.heap.size w w' := by
  have HR0 := Aside0.mk hr0
  have HC0 := Aside0.mk hc0
  clear hr0 hc0
  have HB := Aside0.mk (Below.refl w.heap.size w)
  have H : (if (l0.length : Int) > 1048576 then (some true) else ((laws_toInt64S.f k l0).bind fun t131 => ((spec_MirrorHoles.f k t131 a1).bind fun bt134 => ((laws_toInt64S.f k l0).bind fun t138 => ((impl_MirrorHoles.f k t138 a1).bind fun bt141 => ((laws_eqInt64S.f k bt141.1 bt134.1).bind fun t145 => (if t145 = true then (laws_FnExactMirrorHoles.j0 k l0 a1 bt134.1 bt134.2 t138 bt141.1 bt141.2 (bt141.2 != bt134.2)) else (laws_FnExactMirrorHoles.j0 k l0 a1 bt134.1 bt134.2 t138 bt141.1 bt141.2 true)))))))) = some r := h
  clear h
  by_cases c3 : (l0.length : Int) > 1048576
  · rw [if_pos c3] at H
    have c3b0 : decide (1048576 < (l0.length : Int)) = true := decide_eq_true c3
    have c3b1 : decide (1048576 < l0.length) = true := decide_eq_true (by omega)
    clear c3
    obtain rfl := Option.some.inj H
    go_enter Try.func7, Try.ntmps7
    go_wp2
    go_ret
    exact ⟨by first | rfl | (simp [errW_none, errW_some] <;> rfl) | (simp [*, errW_none, errW_some] <;> rfl), by repeat (first | (with_reducible first | exact HB.out | apply below_alloc | apply pw_below_drewN | apply below_drew1) | exact HB.out)⟩
  · rw [if_neg c3] at H
    have c3b0 : decide (1048576 < (l0.length : Int)) = false := decide_eq_false c3
    have c3b1 : decide (1048576 < l0.length) = false := decide_eq_false (by omega)
    clear c3
    replace H := Option.bind_eq_some_iff.mp H
    obtain ⟨t131, A40, H⟩ := H
    replace H : ((spec_MirrorHoles.f k t131 a1).bind fun bt134 => ((laws_toInt64S.f k l0).bind fun t138 => ((impl_MirrorHoles.f k t138 a1).bind fun bt141 => ((laws_eqInt64S.f k bt141.1 bt134.1).bind fun t145 => (if t145 = true then (laws_FnExactMirrorHoles.j0 k l0 a1 bt134.1 bt134.2 t138 bt141.1 bt141.2 (bt141.2 != bt134.2)) else (laws_FnExactMirrorHoles.j0 k l0 a1 bt134.1 bt134.2 t138 bt141.1 bt141.2 true)))))) = some r := H
    have A4 := Aside0.mk A40
    clear A40
    replace H := Option.bind_eq_some_iff.mp H
    obtain ⟨⟨t134, t135⟩, A50, H⟩ := H
    replace H : ((laws_toInt64S.f k l0).bind fun t138 => ((impl_MirrorHoles.f k t138 a1).bind fun bt141 => ((laws_eqInt64S.f k bt141.1 t134).bind fun t145 => (if t145 = true then (laws_FnExactMirrorHoles.j0 k l0 a1 t134 t135 t138 bt141.1 bt141.2 (bt141.2 != t135)) else (laws_FnExactMirrorHoles.j0 k l0 a1 t134 t135 t138 bt141.1 bt141.2 true))))) = some r := H
    have A5 := Aside0.mk A50
    clear A50
    replace H := Option.bind_eq_some_iff.mp H
    obtain ⟨t138, A60, H⟩ := H
    replace H : ((impl_MirrorHoles.f k t138 a1).bind fun bt141 => ((laws_eqInt64S.f k bt141.1 t134).bind fun t145 => (if t145 = true then (laws_FnExactMirrorHoles.j0 k l0 a1 t134 t135 t138 bt141.1 bt141.2 (bt141.2 != t135)) else (laws_FnExactMirrorHoles.j0 k l0 a1 t134 t135 t138 bt141.1 bt141.2 true)))) = some r := H
    have A6 := Aside0.mk A60
    clear A60
    replace H := Option.bind_eq_some_iff.mp H
    obtain ⟨⟨t141, t142⟩, A70, H⟩ := H
    replace H : ((laws_eqInt64S.f k t141 t134).bind fun t145 => (if t145 = true then (laws_FnExactMirrorHoles.j0 k l0 a1 t134 t135 t138 t141 t142 (t142 != t135)) else (laws_FnExactMirrorHoles.j0 k l0 a1 t134 t135 t138 t141 t142 true))) = some r := H
    have A7 := Aside0.mk A70
    clear A70
    have HC8 := Aside0.mk H
    clear H
    go_enter Try.func7, Try.ntmps7
    go_upto_region 6 with (first | ((with_reducible refine gate_callee (f := 18) rfl ?_); refine goesL_ (some 20) rfl rfl Try.func18 (by kernel_rfl) rfl #[.slice A0 l0.length c0] rfl (by (try simp only [List.map_toArray, List.map_cons, List.map_nil]); first | done | rfl | (simp only [List.length_drop, List.length_take]; rfl)) ?_; (with_reducible refine (laws_toInt64S.calls k _ _ l0 t131 _ ?side1 ?side2 A4.out).mono ?_); (case side1 => repeat (first | exact HR0.out | (with_reducible refine Kd.C_alloc ?_ _) | (with_reducible refine Kd.C_drewN ?_ _) | (with_reducible refine Kd.C_drew ?_))); (case side2 => exact HC0.out); rintro e w9 ⟨v132, rfl, ho0, hb⟩; refine ⟨_, rfl, ?_⟩; have n0_ := Aside0.mk (Kd.R_lower ho0 (below_size (by repeat (first | (with_reducible first | exact HB.out | apply below_alloc | apply pw_below_drewN | apply below_drew1) | exact HB.out)))); have n1_ := Aside0.mk (below_step (by repeat (first | (with_reducible first | exact HB.out | apply below_alloc | apply pw_below_drewN | apply below_drew1) | exact HB.out)) hb); clear HB; have HO133 := n0_; have HB := n1_; clear n0_ n1_; (try clear hb); (try clear hb2); (try clear hk); (try clear hi); (try clear ho0); obtain ⟨Ao10, co10, eo10⟩ := Kd.R_slice HO133.out; subst eo10) | ((with_reducible refine gate_callee (f := 29) rfl ?_); refine goesL_ (some 22) rfl rfl Try.func29 (by kernel_rfl) rfl #[.slice Ao10 t131.length co10, .int .i64 a1] rfl (by (try simp only [List.map_toArray, List.map_cons, List.map_nil]); first | done | rfl | (simp only [List.length_drop, List.length_take]; rfl)) ?_; (with_reducible refine (spec_MirrorHoles.calls k _ _ t131 a1 t134 t135 _ ?side1 ?side2 A5.out).mono ?_); (case side1 => repeat (first | exact (Kd.R_reads' HO133.out).2.2 | (with_reducible refine Kd.C_alloc ?_ _) | (with_reducible refine Kd.C_drewN ?_ _) | (with_reducible refine Kd.C_drew ?_))); (case side2 => exact (Kd.R_reads' HO133.out).2.1); rintro e w11 ⟨v136, rfl, ho0, hb⟩; refine ⟨_, rfl, ?_⟩; have n0_ := Aside0.mk (Kd.R_elder' (by (with_reducible repeat (first | apply Kd.R_alloc | apply Kd.R_drewN | apply Kd.R_drew)); exact HO133.out) (Kd.R_base ho0) hb); have n1_ := Aside0.mk (Kd.R_lower (Kd.R_new' ho0 (Kd.R_lt (by (with_reducible repeat (first | apply Kd.R_alloc | apply Kd.R_drewN | apply Kd.R_drew)); exact HO133.out))) (below_size (by repeat (first | (with_reducible first | exact HB.out | apply below_alloc | apply pw_below_drewN | apply below_drew1) | exact HB.out)))); have n2_ := Aside0.mk (below_step (by repeat (first | (with_reducible first | exact HB.out | apply below_alloc | apply pw_below_drewN | apply below_drew1) | exact HB.out)) hb); clear HO133; clear HB; have HO133 := n0_; have HO137 := n1_; have HB := n2_; clear n0_ n1_ n2_; (try clear hb); (try clear hb2); (try clear hk); (try clear hi); (try clear ho0)) | ((with_reducible refine gate_callee (f := 18) rfl ?_); refine goesL_ (some 26) rfl rfl Try.func18 (by kernel_rfl) rfl #[.slice A0 l0.length c0] rfl (by (try simp only [List.map_toArray, List.map_cons, List.map_nil]); first | done | rfl | (simp only [List.length_drop, List.length_take]; rfl)) ?_; (with_reducible refine (laws_toInt64S.calls k _ _ l0 t138 _ ?side1 ?side2 A6.out).mono ?_); (case side1 => repeat (first | exact (Kd.C_below HR0.out HB.out) | (with_reducible refine Kd.C_alloc ?_ _) | (with_reducible refine Kd.C_drewN ?_ _) | (with_reducible refine Kd.C_drew ?_))); (case side2 => exact HC0.out); rintro e w12 ⟨v139, rfl, ho0, hb⟩; refine ⟨_, rfl, ?_⟩; have n0_ := Aside0.mk (Kd.R_elder' (by (with_reducible repeat (first | apply Kd.R_alloc | apply Kd.R_drewN | apply Kd.R_drew)); exact HO133.out) (Kd.R_base ho0) hb); have n1_ := Aside0.mk (Kd.R_elder' (by (with_reducible repeat (first | apply Kd.R_alloc | apply Kd.R_drewN | apply Kd.R_drew)); exact HO137.out) (Kd.R_base ho0) hb); have n2_ := Aside0.mk (Kd.R_lower (Kd.R_new' (Kd.R_new' ho0 (Kd.R_lt (by (with_reducible repeat (first | apply Kd.R_alloc | apply Kd.R_drewN | apply Kd.R_drew)); exact HO133.out))) (Kd.R_lt (by (with_reducible repeat (first | apply Kd.R_alloc | apply Kd.R_drewN | apply Kd.R_drew)); exact HO137.out))) (below_size (by repeat (first | (with_reducible first | exact HB.out | apply below_alloc | apply pw_below_drewN | apply below_drew1) | exact HB.out)))); have n3_ := Aside0.mk (below_step (by repeat (first | (with_reducible first | exact HB.out | apply below_alloc | apply pw_below_drewN | apply below_drew1) | exact HB.out)) hb); clear HO133; clear HO137; clear HB; have HO133 := n0_; have HO137 := n1_; have HO140 := n2_; have HB := n3_; clear n0_ n1_ n2_ n3_; (try clear hb); (try clear hb2); (try clear hk); (try clear hi); (try clear ho0); obtain ⟨Ao13, co13, eo13⟩ := Kd.R_slice HO140.out; subst eo13) | ((with_reducible refine gate_callee (f := 30) rfl ?_); refine goesL_ (some 30) rfl rfl Try.func30 (by kernel_rfl) rfl #[.slice Ao13 t138.length co13, .int .i64 a1] rfl (by (try simp only [List.map_toArray, List.map_cons, List.map_nil]); first | done | rfl | (simp only [List.length_drop, List.length_take]; rfl)) ?_; (with_reducible refine (impl_MirrorHoles.calls k _ _ t138 a1 t141 t142 _ ?side1 ?side2 A7.out).mono ?_); (case side1 => repeat (first | exact (Kd.R_reads' HO140.out).2.2 | (with_reducible refine Kd.C_alloc ?_ _) | (with_reducible refine Kd.C_drewN ?_ _) | (with_reducible refine Kd.C_drew ?_))); (case side2 => exact (Kd.R_reads' HO140.out).2.1); rintro e w14 ⟨v143, rfl, ho0, hb⟩; refine ⟨_, rfl, ?_⟩; have n0_ := Aside0.mk (Kd.R_elder' (by (with_reducible repeat (first | apply Kd.R_alloc | apply Kd.R_drewN | apply Kd.R_drew)); exact HO133.out) (Kd.R_base ho0) hb); have n1_ := Aside0.mk (Kd.R_elder' (by (with_reducible repeat (first | apply Kd.R_alloc | apply Kd.R_drewN | apply Kd.R_drew)); exact HO137.out) (Kd.R_base ho0) hb); have n2_ := Aside0.mk (Kd.R_elder' (by (with_reducible repeat (first | apply Kd.R_alloc | apply Kd.R_drewN | apply Kd.R_drew)); exact HO140.out) (Kd.R_base ho0) hb); have n3_ := Aside0.mk (Kd.R_lower (Kd.R_new' (Kd.R_new' (Kd.R_new' ho0 (Kd.R_lt (by (with_reducible repeat (first | apply Kd.R_alloc | apply Kd.R_drewN | apply Kd.R_drew)); exact HO133.out))) (Kd.R_lt (by (with_reducible repeat (first | apply Kd.R_alloc | apply Kd.R_drewN | apply Kd.R_drew)); exact HO137.out))) (Kd.R_lt (by (with_reducible repeat (first | apply Kd.R_alloc | apply Kd.R_drewN | apply Kd.R_drew)); exact HO140.out))) (below_size (by repeat (first | (with_reducible first | exact HB.out | apply below_alloc | apply pw_below_drewN | apply below_drew1) | exact HB.out)))); have n4_ := Aside0.mk (below_step (by repeat (first | (with_reducible first | exact HB.out | apply below_alloc | apply pw_below_drewN | apply below_drew1) | exact HB.out)) hb); clear HO133; clear HO137; clear HO140; clear HB; have HO133 := n0_; have HO137 := n1_; have HO140 := n2_; have HO144 := n3_; have HB := n4_; clear n0_ n1_ n2_ n3_ n4_; (try clear hb); (try clear hb2); (try clear hk); (try clear hi); (try clear ho0)))
    (try simp only [Act.put, List.setIfInBounds_toArray, List.set_cons_zero, List.set_cons_succ])
    go_cut [41] (fun v41 wc => ∃ (kq : Nat) (x41_7 : Bool), v41 = .bool x41_7 ∧ Aside0 (laws_FnExactMirrorHoles.j0 kq l0 a1 t134 t135 t138 t141 t142 x41_7 = some r) ∧ Aside0 (kq ≤ k) ∧ Aside0 (Kd.R (Kd.int .i64) 2 wc w.heap.size (fun k_ => some k_ ≠ ((.slice Ao13 t138.length co13) : Value).ownBlock ∧ some k_ ≠ (v143 : Value).ownBlock) v136 t134) ∧ Aside0 (Kd.R (Kd.int .i64) 2 wc w.heap.size (fun k_ => some k_ ≠ (v136 : Value).ownBlock ∧ some k_ ≠ (v143 : Value).ownBlock) (.slice Ao13 t138.length co13) t138) ∧ Aside0 (Kd.R (Kd.int .i64) 2 wc w.heap.size (fun k_ => some k_ ≠ (v136 : Value).ownBlock ∧ some k_ ≠ ((.slice Ao13 t138.length co13) : Value).ownBlock) v143 t141) ∧ Aside0 (Below w.heap.size w wc))
    case first =>
      have H := HC8.out
      clear HC8
      replace H := Option.bind_eq_some_iff.mp H
      obtain ⟨t145, A150, H⟩ := H
      replace H : (if t145 = true then (laws_FnExactMirrorHoles.j0 k l0 a1 t134 t135 t138 t141 t142 (t142 != t135)) else (laws_FnExactMirrorHoles.j0 k l0 a1 t134 t135 t138 t141 t142 true)) = some r := H
      have A15 := Aside0.mk A150
      clear A150
      by_cases c16 : t145 = true
      · subst c16
        have H1 : (laws_FnExactMirrorHoles.j0 k l0 a1 t134 t135 t138 t141 t142 (t142 != t135)) = some r := by rw [if_pos rfl] at H; exact H
        clear H
        have H := H1
        clear H1
        have H' := Aside0.mk H
        clear H
        obtain ⟨Ao17, co17, eo17⟩ := Kd.R_slice HO144.out
        subst eo17
        obtain ⟨Ao18, co18, eo18⟩ := Kd.R_slice HO137.out
        subst eo18
        go_wp2_with (first | ((with_reducible refine gate_callee (f := 20) rfl ?_); refine goesL_ (some 35) rfl rfl Try.func20 (by kernel_rfl) rfl #[.slice Ao17 t141.length co17, .slice Ao18 t134.length co18] rfl (by (try simp only [List.map_toArray, List.map_cons, List.map_nil]); first | done | rfl | (simp only [List.length_drop, List.length_take]; rfl)) ?_; (with_reducible refine (laws_eqInt64S.calls k _ _ t141 _ _ t134 true _ ?side1 ?side2 ?side3 ?side4 A15.out).mono ?_); (case side1 => repeat (first | exact (Kd.R_reads' HO144.out).2.2 | (with_reducible refine Kd.C_alloc ?_ _) | (with_reducible refine Kd.C_drewN ?_ _) | (with_reducible refine Kd.C_drew ?_))); (case side2 => exact (Kd.R_reads' HO144.out).2.1); (case side3 => repeat (first | exact (Kd.R_reads' HO137.out).2.2 | (with_reducible refine Kd.C_alloc ?_ _) | (with_reducible refine Kd.C_drewN ?_ _) | (with_reducible refine Kd.C_drew ?_))); (case side4 => exact (Kd.R_reads' HO137.out).2.1); rintro e w' ⟨rfl, ⟨nd, rfl⟩⟩; refine ⟨_, rfl, ?_⟩))
        go_meet
        case rel => exact ⟨_, ((t142 != t135)), (by first | rfl | (simp; done) | (simp [*]; done)), H', ⟨by first | omega | exact Nat.le_refl _⟩, ⟨by (with_reducible repeat (first | apply Kd.R_alloc | apply Kd.R_drewN | apply Kd.R_drew)); exact Kd.R_mono HO137.out (fun _ hk => ⟨hk.1.2, hk.2⟩)⟩, ⟨by (with_reducible repeat (first | apply Kd.R_alloc | apply Kd.R_drewN | apply Kd.R_drew)); exact Kd.R_mono HO140.out (fun _ hk => ⟨hk.1.2, hk.2⟩)⟩, ⟨by (with_reducible repeat (first | apply Kd.R_alloc | apply Kd.R_drewN | apply Kd.R_drew)); exact Kd.R_mono HO144.out (fun _ hk => ⟨hk.1.2, hk.2⟩)⟩, ⟨by repeat (first | (with_reducible first | exact HB.out | apply below_alloc | apply pw_below_drewN | apply below_drew1) | exact HB.out)⟩⟩
      · replace c16 := Bool.eq_false_iff.mpr c16
        subst c16
        have H1 : (laws_FnExactMirrorHoles.j0 k l0 a1 t134 t135 t138 t141 t142 true) = some r := by rw [if_neg (show ¬ (false = true) by decide)] at H; exact H
        clear H
        have H := H1
        clear H1
        have H' := Aside0.mk H
        clear H
        obtain ⟨Ao19, co19, eo19⟩ := Kd.R_slice HO144.out
        subst eo19
        obtain ⟨Ao20, co20, eo20⟩ := Kd.R_slice HO137.out
        subst eo20
        go_wp2_with (first | ((with_reducible refine gate_callee (f := 20) rfl ?_); refine goesL_ (some 35) rfl rfl Try.func20 (by kernel_rfl) rfl #[.slice Ao19 t141.length co19, .slice Ao20 t134.length co20] rfl (by (try simp only [List.map_toArray, List.map_cons, List.map_nil]); first | done | rfl | (simp only [List.length_drop, List.length_take]; rfl)) ?_; (with_reducible refine (laws_eqInt64S.calls k _ _ t141 _ _ t134 false _ ?side1 ?side2 ?side3 ?side4 A15.out).mono ?_); (case side1 => repeat (first | exact (Kd.R_reads' HO144.out).2.2 | (with_reducible refine Kd.C_alloc ?_ _) | (with_reducible refine Kd.C_drewN ?_ _) | (with_reducible refine Kd.C_drew ?_))); (case side2 => exact (Kd.R_reads' HO144.out).2.1); (case side3 => repeat (first | exact (Kd.R_reads' HO137.out).2.2 | (with_reducible refine Kd.C_alloc ?_ _) | (with_reducible refine Kd.C_drewN ?_ _) | (with_reducible refine Kd.C_drew ?_))); (case side4 => exact (Kd.R_reads' HO137.out).2.1); rintro e w' ⟨rfl, ⟨nd, rfl⟩⟩; refine ⟨_, rfl, ?_⟩))
        go_meet
        case rel => exact ⟨_, (true), (by first | rfl | (simp; done) | (simp [*]; done)), H', ⟨by first | omega | exact Nat.le_refl _⟩, ⟨by (with_reducible repeat (first | apply Kd.R_alloc | apply Kd.R_drewN | apply Kd.R_drew)); exact Kd.R_mono HO137.out (fun _ hk => ⟨hk.1.2, hk.2⟩)⟩, ⟨by (with_reducible repeat (first | apply Kd.R_alloc | apply Kd.R_drewN | apply Kd.R_drew)); exact Kd.R_mono HO140.out (fun _ hk => ⟨hk.1.2, hk.2⟩)⟩, ⟨by (with_reducible repeat (first | apply Kd.R_alloc | apply Kd.R_drewN | apply Kd.R_drew)); exact Kd.R_mono HO144.out (fun _ hk => ⟨hk.1.2, hk.2⟩)⟩, ⟨by repeat (first | (with_reducible first | exact HB.out | apply below_alloc | apply pw_below_drewN | apply below_drew1) | exact HB.out)⟩⟩
    case rest =>
      clear HC8
      try clear c1
      try clear c2
      try clear p2
      try clear c3
      try clear c3b0
      try clear c3b1
      try clear c7
      try clear c16
      try clear c18
      try clear c20
      obtain ⟨kq, x41_7, rfl, HA, HJ7, HO_5, HO_7, HO_8, HB⟩ := hcut
      cases kq with
      | zero => exact absurd HA.out (by simp [laws_FnExactMirrorHoles.j0])
      | succ kj7 =>
        have H := HA.out
        clear HA
        simp only [laws_FnExactMirrorHoles.j0] at H
        by_cases c21 : x41_7 = true
        · subst c21
          have H1 : (some false) = some r := by rw [if_pos rfl] at H; exact H
          clear H
          have H := H1
          clear H1
          exact absurd ((Option.some.inj H).trans hr_.out) (by decide)
        · replace c21 := Bool.eq_false_iff.mpr c21
          subst c21
          have H1 : ((laws_toInt64S.f kj7 l0).bind fun t146 => ((laws_eqInt64S.f kj7 t138 t146).bind fun t149 => (if t149 = true then ((laws_markInt64S.f kj7 t138 1).bind fun bt150 => (if bt150.1 < 0 then (laws_FnExactMirrorHoles.j1 kj7 l0 a1 t134 t135 t141 true) else ((laws_eqInt64S.f kj7 t141 t134).bind fun t152 => (if t152 = true then (laws_FnExactMirrorHoles.j1 kj7 l0 a1 t134 t135 t141 (t142 != t135)) else (laws_FnExactMirrorHoles.j1 kj7 l0 a1 t134 t135 t141 true))))) else (some false)))) = some r := by rw [if_neg (show ¬ (false = true) by decide)] at H; exact H
          clear H
          have H := H1
          clear H1
          replace H := Option.bind_eq_some_iff.mp H
          obtain ⟨t146, A220, H⟩ := H
          replace H : ((laws_eqInt64S.f kj7 t138 t146).bind fun t149 => (if t149 = true then ((laws_markInt64S.f kj7 t138 1).bind fun bt150 => (if bt150.1 < 0 then (laws_FnExactMirrorHoles.j1 kj7 l0 a1 t134 t135 t141 true) else ((laws_eqInt64S.f kj7 t141 t134).bind fun t152 => (if t152 = true then (laws_FnExactMirrorHoles.j1 kj7 l0 a1 t134 t135 t141 (t142 != t135)) else (laws_FnExactMirrorHoles.j1 kj7 l0 a1 t134 t135 t141 true))))) else (some false))) = some r := H
          have A22 := Aside0.mk A220
          clear A220
          replace H := Option.bind_eq_some_iff.mp H
          obtain ⟨t149, A230, H⟩ := H
          replace H : (if t149 = true then ((laws_markInt64S.f kj7 t138 1).bind fun bt150 => (if bt150.1 < 0 then (laws_FnExactMirrorHoles.j1 kj7 l0 a1 t134 t135 t141 true) else ((laws_eqInt64S.f kj7 t141 t134).bind fun t152 => (if t152 = true then (laws_FnExactMirrorHoles.j1 kj7 l0 a1 t134 t135 t141 (t142 != t135)) else (laws_FnExactMirrorHoles.j1 kj7 l0 a1 t134 t135 t141 true))))) else (some false)) = some r := H
          have A23 := Aside0.mk A230
          clear A230
          by_cases c24 : t149 = true
          · subst c24
            have H1 : ((laws_markInt64S.f kj7 t138 1).bind fun bt150 => (if bt150.1 < 0 then (laws_FnExactMirrorHoles.j1 kj7 l0 a1 t134 t135 t141 true) else ((laws_eqInt64S.f kj7 t141 t134).bind fun t152 => (if t152 = true then (laws_FnExactMirrorHoles.j1 kj7 l0 a1 t134 t135 t141 (t142 != t135)) else (laws_FnExactMirrorHoles.j1 kj7 l0 a1 t134 t135 t141 true))))) = some r := by rw [if_pos rfl] at H; exact H
            clear H
            have H := H1
            clear H1
            replace H := Option.bind_eq_some_iff.mp H
            obtain ⟨⟨t150, t151⟩, A250, H⟩ := H
            replace H : (if t150 < 0 then (laws_FnExactMirrorHoles.j1 kj7 l0 a1 t134 t135 t141 true) else ((laws_eqInt64S.f kj7 t141 t134).bind fun t152 => (if t152 = true then (laws_FnExactMirrorHoles.j1 kj7 l0 a1 t134 t135 t141 (t142 != t135)) else (laws_FnExactMirrorHoles.j1 kj7 l0 a1 t134 t135 t141 true)))) = some r := H
            have A25 := Aside0.mk A250
            clear A250
            have HC26 := Aside0.mk H
            clear H
            go_upto_region 12 with (first | ((with_reducible refine gate_callee (f := 18) rfl ?_); refine goesL_ (some 44) rfl rfl Try.func18 (by kernel_rfl) rfl #[.slice A0 l0.length c0] rfl (by (try simp only [List.map_toArray, List.map_cons, List.map_nil]); first | done | rfl | (simp only [List.length_drop, List.length_take]; rfl)) ?_; (with_reducible refine (laws_toInt64S.calls kj7 _ _ l0 t146 _ ?side1 ?side2 A22.out).mono ?_); (case side1 => repeat (first | exact (Kd.C_below HR0.out HB.out) | (with_reducible refine Kd.C_alloc ?_ _) | (with_reducible refine Kd.C_drewN ?_ _) | (with_reducible refine Kd.C_drew ?_))); (case side2 => exact HC0.out); rintro e w27 ⟨v147, rfl, ho0, hb⟩; refine ⟨_, rfl, ?_⟩; have n0_ := Aside0.mk (Kd.R_elder' (by (with_reducible repeat (first | apply Kd.R_alloc | apply Kd.R_drewN | apply Kd.R_drew)); exact HO_5.out) (Kd.R_base ho0) hb); have n1_ := Aside0.mk (Kd.R_elder' (by (with_reducible repeat (first | apply Kd.R_alloc | apply Kd.R_drewN | apply Kd.R_drew)); exact HO_7.out) (Kd.R_base ho0) hb); have n2_ := Aside0.mk (Kd.R_elder' (by (with_reducible repeat (first | apply Kd.R_alloc | apply Kd.R_drewN | apply Kd.R_drew)); exact HO_8.out) (Kd.R_base ho0) hb); have n3_ := Aside0.mk (Kd.R_lower (Kd.R_new' (Kd.R_new' (Kd.R_new' ho0 (Kd.R_lt (by (with_reducible repeat (first | apply Kd.R_alloc | apply Kd.R_drewN | apply Kd.R_drew)); exact HO_5.out))) (Kd.R_lt (by (with_reducible repeat (first | apply Kd.R_alloc | apply Kd.R_drewN | apply Kd.R_drew)); exact HO_7.out))) (Kd.R_lt (by (with_reducible repeat (first | apply Kd.R_alloc | apply Kd.R_drewN | apply Kd.R_drew)); exact HO_8.out))) (below_size (by repeat (first | (with_reducible first | exact HB.out | apply below_alloc | apply pw_below_drewN | apply below_drew1) | exact HB.out)))); have n4_ := Aside0.mk (below_step (by repeat (first | (with_reducible first | exact HB.out | apply below_alloc | apply pw_below_drewN | apply below_drew1) | exact HB.out)) hb); clear HO_5; clear HO_7; clear HO_8; clear HB; have HO_5 := n0_; have HO_7 := n1_; have HO_8 := n2_; have HO148 := n3_; have HB := n4_; clear n0_ n1_ n2_ n3_ n4_; (try clear hb); (try clear hb2); (try clear hk); (try clear hi); (try clear ho0); obtain ⟨Ao28, co28, eo28⟩ := Kd.R_slice HO148.out; subst eo28) | ((with_reducible refine gate_callee (f := 20) rfl ?_); refine goesL_ (some 45) rfl rfl Try.func20 (by kernel_rfl) rfl #[.slice Ao13 t138.length co13, .slice Ao28 t146.length co28] rfl (by (try simp only [List.map_toArray, List.map_cons, List.map_nil]); first | done | rfl | (simp only [List.length_drop, List.length_take]; rfl)) ?_; (with_reducible refine (laws_eqInt64S.calls kj7 _ _ t138 _ _ t146 true _ ?side1 ?side2 ?side3 ?side4 A23.out).mono ?_); (case side1 => repeat (first | exact (Kd.R_reads' HO_7.out).2.2 | (with_reducible refine Kd.C_alloc ?_ _) | (with_reducible refine Kd.C_drewN ?_ _) | (with_reducible refine Kd.C_drew ?_))); (case side2 => exact (Kd.R_reads' HO_7.out).2.1); (case side3 => repeat (first | exact (Kd.R_reads' HO148.out).2.2 | (with_reducible refine Kd.C_alloc ?_ _) | (with_reducible refine Kd.C_drewN ?_ _) | (with_reducible refine Kd.C_drew ?_))); (case side4 => exact (Kd.R_reads' HO148.out).2.1); rintro e w' ⟨rfl, ⟨nd, rfl⟩⟩; refine ⟨_, rfl, ?_⟩) | ((with_reducible refine gate_callee (f := 23) rfl ?_); refine goesL_ (some 49) rfl rfl Try.func23 (by kernel_rfl) rfl #[.slice Ao13 t138.length co13, .int .i64 1] rfl (by (try simp only [List.map_toArray, List.map_cons, List.map_nil]); first | done | rfl | (simp only [List.length_drop, List.length_take]; rfl)) ?_; (with_reducible refine (laws_markInt64S.calls kj7 (fun k_ => some k_ = (.slice Ao13 t138.length co13 : Value).ownBlock) (.slice Ao13 t138.length co13) t138 1 t150 t151 w _ ?side1 ?side2 A25.out).mono ?_); (case side1 => repeat (first | (with_reducible first | exact HB.out | apply below_alloc | apply pw_below_drewN | apply below_drew1) | exact HB.out)); (case side2 => exact Kd.R_tight rfl HO_7.out); rintro e w29 ⟨rfl, hy0, hb, hkp⟩; refine ⟨_, rfl, ?_⟩; have n0_ := Aside0.mk (Kd.R_mono (ok' := fun k_ => some k_ ≠ (.slice Ao13 t138.length co13 : Value).ownBlock ∧ some k_ ≠ (v143 : Value).ownBlock ∧ some k_ ≠ (.slice Ao28 t146.length co28 : Value).ownBlock) (Kd.R_keptB (HO_5.out) hkp (fun k_ hk_ hs_ => (hk_.1.1) hs_)) (fun k_ hk_ => ⟨hk_.1.1.1, hk_.1.1.2, hk_.1.2⟩)); have n1_ := Aside0.mk (Kd.R_reok rfl hy0 (fun k_ e_ => HO_7.out.1 k_ e_)); have n2_ := Aside0.mk (Kd.R_mono (ok' := fun k_ => some k_ ≠ (v136 : Value).ownBlock ∧ some k_ ≠ (.slice Ao13 t138.length co13 : Value).ownBlock ∧ some k_ ≠ (.slice Ao28 t146.length co28 : Value).ownBlock) (Kd.R_keptB (HO_8.out) hkp (fun k_ hk_ hs_ => (hk_.1.2) hs_)) (fun k_ hk_ => ⟨hk_.1.1.1, hk_.1.1.2, hk_.1.2⟩)); have n3_ := Aside0.mk (Kd.R_mono (ok' := fun k_ => some k_ ≠ (v136 : Value).ownBlock ∧ some k_ ≠ (.slice Ao13 t138.length co13 : Value).ownBlock ∧ some k_ ≠ (v143 : Value).ownBlock) (Kd.R_keptB (HO148.out) hkp (fun k_ hk_ hs_ => (hk_.1.2) hs_)) (fun k_ hk_ => ⟨hk_.1.1.1.2, hk_.1.1.2, hk_.1.2⟩)); have n4_ := Aside0.mk (hb); clear HO_5; clear HO_7; clear HO_8; clear HO148; clear HB; have HO_5 := n0_; have HO_7 := n1_; have HO_8 := n2_; have HO148 := n3_; have HB := n4_; clear n0_ n1_ n2_ n3_ n4_; (try clear hb); (try clear hkp); (try clear hy0)))
            (try simp only [Act.put, List.setIfInBounds_toArray, List.set_cons_zero, List.set_cons_succ])
            go_cut [62] (fun v62 wc => ∃ (kq : Nat) (x62_25 : Bool), v62 = .bool x62_25 ∧ Aside0 (laws_FnExactMirrorHoles.j1 kq l0 a1 t134 t135 t141 x62_25 = some r) ∧ Aside0 (kq ≤ kj7) ∧ Aside0 (Kd.R (Kd.int .i64) 2 wc w.heap.size (fun k_ => some k_ ≠ (v143 : Value).ownBlock) v136 t134) ∧ Aside0 (Kd.R (Kd.int .i64) 2 wc w.heap.size (fun k_ => some k_ ≠ (v136 : Value).ownBlock) v143 t141) ∧ Aside0 (Below w.heap.size w wc))
            case first =>
              have H := HC26.out
              clear HC26
              by_cases c30 : t150 < 0
              · rw [if_pos c30] at H
                have c30b0 : decide (t150 < 0) = true := decide_eq_true c30
                clear c30
                (first | rw [c30b0] | (simp only [i64_w, i32_w]; rw [c30b0]) | skip)
                have H' := Aside0.mk H
                clear H
                go_wp2
                go_meet
                case rel => exact ⟨_, (true), (by first | rfl | (simp; done) | (simp [*]; done)), H', ⟨by have := HJ7.out; first | omega | exact Nat.le_refl _⟩, ⟨by (with_reducible repeat (first | apply Kd.R_alloc | apply Kd.R_drewN | apply Kd.R_drew)); exact Kd.R_mono HO_5.out (fun _ hk => hk.2.1)⟩, ⟨by (with_reducible repeat (first | apply Kd.R_alloc | apply Kd.R_drewN | apply Kd.R_drew)); exact Kd.R_mono HO_8.out (fun _ hk => hk.1)⟩, ⟨by repeat (first | (with_reducible first | exact HB.out | apply below_alloc | apply pw_below_drewN | apply below_drew1) | exact HB.out)⟩⟩
              · rw [if_neg c30] at H
                have c30b0 : decide (t150 < 0) = false := decide_eq_false c30
                clear c30
                (first | rw [c30b0] | (simp only [i64_w, i32_w]; rw [c30b0]) | skip)
                replace H := Option.bind_eq_some_iff.mp H
                obtain ⟨t152, A310, H⟩ := H
                replace H : (if t152 = true then (laws_FnExactMirrorHoles.j1 kj7 l0 a1 t134 t135 t141 (t142 != t135)) else (laws_FnExactMirrorHoles.j1 kj7 l0 a1 t134 t135 t141 true)) = some r := H
                have A31 := Aside0.mk A310
                clear A310
                by_cases c32 : t152 = true
                · subst c32
                  have H1 : (laws_FnExactMirrorHoles.j1 kj7 l0 a1 t134 t135 t141 (t142 != t135)) = some r := by rw [if_pos rfl] at H; exact H
                  clear H
                  have H := H1
                  clear H1
                  have H' := Aside0.mk H
                  clear H
                  obtain ⟨Ao33, co33, eo33⟩ := Kd.R_slice HO_8.out
                  subst eo33
                  obtain ⟨Ao34, co34, eo34⟩ := Kd.R_slice HO_5.out
                  subst eo34
                  go_wp2_with (first | (go_at_call 20; (with_reducible refine (laws_eqInt64S.calls kj7 _ _ t141 _ _ t134 true _ ?side1 ?side2 ?side3 ?side4 A31.out).mono ?_); (case side1 => repeat (first | exact (Kd.R_reads' HO_8.out).2.2 | (with_reducible refine Kd.C_alloc ?_ _) | (with_reducible refine Kd.C_drewN ?_ _) | (with_reducible refine Kd.C_drew ?_))); (case side2 => exact (Kd.R_reads' HO_8.out).2.1); (case side3 => repeat (first | exact (Kd.R_reads' HO_5.out).2.2 | (with_reducible refine Kd.C_alloc ?_ _) | (with_reducible refine Kd.C_drewN ?_ _) | (with_reducible refine Kd.C_drew ?_))); (case side4 => exact (Kd.R_reads' HO_5.out).2.1); rintro e w' ⟨rfl, ⟨nd, rfl⟩⟩))
                  go_meet
                  case rel => exact ⟨_, ((t142 != t135)), (by first | rfl | (simp; done) | (simp [*]; done)), H', ⟨by have := HJ7.out; first | omega | exact Nat.le_refl _⟩, ⟨by (with_reducible repeat (first | apply Kd.R_alloc | apply Kd.R_drewN | apply Kd.R_drew)); exact Kd.R_mono HO_5.out (fun _ hk => hk.2.1)⟩, ⟨by (with_reducible repeat (first | apply Kd.R_alloc | apply Kd.R_drewN | apply Kd.R_drew)); exact Kd.R_mono HO_8.out (fun _ hk => hk.1)⟩, ⟨by repeat (first | (with_reducible first | exact HB.out | apply below_alloc | apply pw_below_drewN | apply below_drew1) | exact HB.out)⟩⟩
                · replace c32 := Bool.eq_false_iff.mpr c32
                  subst c32
                  have H1 : (laws_FnExactMirrorHoles.j1 kj7 l0 a1 t134 t135 t141 true) = some r := by rw [if_neg (show ¬ (false = true) by decide)] at H; exact H
                  clear H
                  have H := H1
                  clear H1
                  have H' := Aside0.mk H
                  clear H
                  obtain ⟨Ao35, co35, eo35⟩ := Kd.R_slice HO_8.out
                  subst eo35
                  obtain ⟨Ao36, co36, eo36⟩ := Kd.R_slice HO_5.out
                  subst eo36
                  go_wp2_with (first | (go_at_call 20; (with_reducible refine (laws_eqInt64S.calls kj7 _ _ t141 _ _ t134 false _ ?side1 ?side2 ?side3 ?side4 A31.out).mono ?_); (case side1 => repeat (first | exact (Kd.R_reads' HO_8.out).2.2 | (with_reducible refine Kd.C_alloc ?_ _) | (with_reducible refine Kd.C_drewN ?_ _) | (with_reducible refine Kd.C_drew ?_))); (case side2 => exact (Kd.R_reads' HO_8.out).2.1); (case side3 => repeat (first | exact (Kd.R_reads' HO_5.out).2.2 | (with_reducible refine Kd.C_alloc ?_ _) | (with_reducible refine Kd.C_drewN ?_ _) | (with_reducible refine Kd.C_drew ?_))); (case side4 => exact (Kd.R_reads' HO_5.out).2.1); rintro e w' ⟨rfl, ⟨nd, rfl⟩⟩))
                  go_meet
                  case rel => exact ⟨_, (true), (by first | rfl | (simp; done) | (simp [*]; done)), H', ⟨by have := HJ7.out; first | omega | exact Nat.le_refl _⟩, ⟨by (with_reducible repeat (first | apply Kd.R_alloc | apply Kd.R_drewN | apply Kd.R_drew)); exact Kd.R_mono HO_5.out (fun _ hk => hk.2.1)⟩, ⟨by (with_reducible repeat (first | apply Kd.R_alloc | apply Kd.R_drewN | apply Kd.R_drew)); exact Kd.R_mono HO_8.out (fun _ hk => hk.1)⟩, ⟨by repeat (first | (with_reducible first | exact HB.out | apply below_alloc | apply pw_below_drewN | apply below_drew1) | exact HB.out)⟩⟩
            case rest =>
              clear HC26
              try clear c1
              try clear c2
              try clear p2
              try clear c3
              try clear c3b0
              try clear c3b1
              try clear c7
              try clear c16
              try clear c18
              try clear c20
              try clear c21
              try clear c23
              try clear c24
              try clear c29
              try clear c30
              try clear c30b0
              try clear c32
              try clear p2
              obtain ⟨kq, x62_25, rfl, HA, HJ25, HO_5, HO_8, HB⟩ := hcut
              cases kq with
              | zero => exact absurd HA.out (by simp [laws_FnExactMirrorHoles.j1])
              | succ kj25 =>
                have H := HA.out
                clear HA
                simp only [laws_FnExactMirrorHoles.j1] at H
                by_cases c37 : x62_25 = true
                · subst c37
                  have H1 : (some false) = some r := by rw [if_pos rfl] at H; exact H
                  clear H
                  have H := H1
                  clear H1
                  exact absurd ((Option.some.inj H).trans hr_.out) (by decide)
                · replace c37 := Bool.eq_false_iff.mpr c37
                  subst c37
                  have H1 : ((laws_markInt64S.f kj25 t141 1).bind fun bt153 => ((laws_heldInt64S.f kj25 bt153.2 1).bind fun t155 => (if t155 < 0 then (some false) else (if t155 = bt153.1 then ((laws_toInt64S.f kj25 l0).bind fun t156 => ((impl_MirrorHoles.f kj25 t156 a1).bind fun bt159 => ((laws_eqInt64S.f kj25 bt159.1 t134).bind fun t163 => (if t163 = true then (laws_FnExactMirrorHoles.j2 kj25 bt153.2 bt153.1 (bt159.2 != t135)) else (laws_FnExactMirrorHoles.j2 kj25 bt153.2 bt153.1 true))))) else (some false))))) = some r := by rw [if_neg (show ¬ (false = true) by decide)] at H; exact H
                  clear H
                  have H := H1
                  clear H1
                  replace H := Option.bind_eq_some_iff.mp H
                  obtain ⟨⟨t153, t154⟩, A380, H⟩ := H
                  replace H : ((laws_heldInt64S.f kj25 t154 1).bind fun t155 => (if t155 < 0 then (some false) else (if t155 = t153 then ((laws_toInt64S.f kj25 l0).bind fun t156 => ((impl_MirrorHoles.f kj25 t156 a1).bind fun bt159 => ((laws_eqInt64S.f kj25 bt159.1 t134).bind fun t163 => (if t163 = true then (laws_FnExactMirrorHoles.j2 kj25 t154 t153 (bt159.2 != t135)) else (laws_FnExactMirrorHoles.j2 kj25 t154 t153 true))))) else (some false)))) = some r := H
                  have A38 := Aside0.mk A380
                  clear A380
                  replace H := Option.bind_eq_some_iff.mp H
                  obtain ⟨t155, A390, H⟩ := H
                  replace H : (if t155 < 0 then (some false) else (if t155 = t153 then ((laws_toInt64S.f kj25 l0).bind fun t156 => ((impl_MirrorHoles.f kj25 t156 a1).bind fun bt159 => ((laws_eqInt64S.f kj25 bt159.1 t134).bind fun t163 => (if t163 = true then (laws_FnExactMirrorHoles.j2 kj25 t154 t153 (bt159.2 != t135)) else (laws_FnExactMirrorHoles.j2 kj25 t154 t153 true))))) else (some false))) = some r := H
                  have A39 := Aside0.mk A390
                  clear A390
                  by_cases c40 : t155 < 0
                  · rw [if_pos c40] at H
                    have c40b0 : decide (t155 < 0) = true := decide_eq_true c40
                    clear c40
                    exact absurd ((Option.some.inj H).trans hr_.out) (by decide)
                  · rw [if_neg c40] at H
                    have c40b0 : decide (t155 < 0) = false := decide_eq_false c40
                    clear c40
                    by_cases c41 : t155 = t153
                    · rw [if_pos c41] at H
                      have c41b0 : (t155 == t153) = true := beq_iff_eq.mpr c41
                      have c41b1 : (t155 != t153) = false := bne_eq_false_iff_eq.mpr c41
                      clear c41
                      replace H := Option.bind_eq_some_iff.mp H
                      obtain ⟨t156, A420, H⟩ := H
                      replace H : ((impl_MirrorHoles.f kj25 t156 a1).bind fun bt159 => ((laws_eqInt64S.f kj25 bt159.1 t134).bind fun t163 => (if t163 = true then (laws_FnExactMirrorHoles.j2 kj25 t154 t153 (bt159.2 != t135)) else (laws_FnExactMirrorHoles.j2 kj25 t154 t153 true)))) = some r := H
                      have A42 := Aside0.mk A420
                      clear A420
                      replace H := Option.bind_eq_some_iff.mp H
                      obtain ⟨⟨t159, t160⟩, A430, H⟩ := H
                      replace H : ((laws_eqInt64S.f kj25 t159 t134).bind fun t163 => (if t163 = true then (laws_FnExactMirrorHoles.j2 kj25 t154 t153 (t160 != t135)) else (laws_FnExactMirrorHoles.j2 kj25 t154 t153 true))) = some r := H
                      have A43 := Aside0.mk A430
                      clear A430
                      have HC44 := Aside0.mk H
                      clear H
                      obtain ⟨Ao45, co45, eo45⟩ := Kd.R_slice HO_8.out
                      subst eo45
                      go_upto_region 23 with (first | ((with_reducible refine gate_callee (f := 23) rfl ?_); refine goesL_ (some 65) rfl rfl Try.func23 (by kernel_rfl) rfl #[.slice Ao45 t141.length co45, .int .i64 1] rfl (by (try simp only [List.map_toArray, List.map_cons, List.map_nil]); first | done | rfl | (simp only [List.length_drop, List.length_take]; rfl)) ?_; (with_reducible refine (laws_markInt64S.calls kj25 (fun k_ => some k_ = (.slice Ao45 t141.length co45 : Value).ownBlock) (.slice Ao45 t141.length co45) t141 1 t153 t154 w _ ?side1 ?side2 A38.out).mono ?_); (case side1 => repeat (first | (with_reducible first | exact HB.out | apply below_alloc | apply pw_below_drewN | apply below_drew1) | exact HB.out)); (case side2 => exact Kd.R_tight rfl HO_8.out); rintro e w46 ⟨rfl, hy0, hb, hkp⟩; refine ⟨_, rfl, ?_⟩; have n0_ := Aside0.mk (Kd.R_mono (ok' := fun k_ => some k_ ≠ (.slice Ao45 t141.length co45 : Value).ownBlock) (Kd.R_keptB (HO_5.out) hkp (fun k_ hk_ hs_ => (hk_) hs_)) (fun k_ hk_ => hk_.1)); have n1_ := Aside0.mk (Kd.R_reok rfl hy0 (fun k_ e_ => HO_8.out.1 k_ e_)); have n2_ := Aside0.mk (hb); clear HO_5; clear HO_8; clear HB; have HO_5 := n0_; have HO_8 := n1_; have HB := n2_; clear n0_ n1_ n2_; (try clear hb); (try clear hkp); (try clear hy0)) | ((with_reducible refine gate_callee (f := 24) rfl ?_); refine goesL_ (some 68) rfl rfl Try.func24 (by kernel_rfl) rfl #[.slice Ao45 t154.length co45, .int .i64 1] rfl (by (try simp only [List.map_toArray, List.map_cons, List.map_nil]); first | done | (rw [show t154.length = t141.length from (Kd.R_reads' HO_8.out).1.symm] <;> rfl) | rfl | (simp only [List.length_drop, List.length_take]; rfl)) ?_; (with_reducible refine (laws_heldInt64S.calls kj25 _ _ t154 1 t155 _ ?side1 ?side2 A39.out).mono ?_); (case side1 => repeat (first | exact (Kd.R_reads' HO_8.out).2.2 | (with_reducible refine Kd.C_alloc ?_ _) | (with_reducible refine Kd.C_drewN ?_ _) | (with_reducible refine Kd.C_drew ?_))); (case side2 => rw [show t154.length = t141.length from (Kd.R_reads' HO_8.out).1.symm]; exact (Kd.R_reads' HO_8.out).2.1); rintro e w' ⟨rfl, ⟨nd, rfl⟩⟩; refine ⟨_, rfl, ?_⟩) | ((with_reducible refine gate_callee (f := 18) rfl ?_); refine goesL_ (some 76) rfl rfl Try.func18 (by kernel_rfl) rfl #[.slice A0 l0.length c0] rfl (by (try simp only [List.map_toArray, List.map_cons, List.map_nil]); first | done | rfl | (simp only [List.length_drop, List.length_take]; rfl)) ?_; (with_reducible refine (laws_toInt64S.calls kj25 _ _ l0 t156 _ ?side1 ?side2 A42.out).mono ?_); (case side1 => repeat (first | exact (Kd.C_below HR0.out (by repeat (first | (with_reducible first | exact HB.out | apply below_alloc | apply pw_below_drewN | apply below_drew1) | exact HB.out))) | (with_reducible refine Kd.C_alloc ?_ _) | (with_reducible refine Kd.C_drewN ?_ _) | (with_reducible refine Kd.C_drew ?_))); (case side2 => exact HC0.out); rintro e w47 ⟨v157, rfl, ho0, hb⟩; refine ⟨_, rfl, ?_⟩; have n0_ := Aside0.mk (Kd.R_elder' (by (with_reducible repeat (first | apply Kd.R_alloc | apply Kd.R_drewN | apply Kd.R_drew)); exact HO_5.out) (Kd.R_base ho0) hb); have n1_ := Aside0.mk (Kd.R_elder' (by (with_reducible repeat (first | apply Kd.R_alloc | apply Kd.R_drewN | apply Kd.R_drew)); exact HO_8.out) (Kd.R_base ho0) hb); have n2_ := Aside0.mk (Kd.R_lower (Kd.R_new' (Kd.R_new' ho0 (Kd.R_lt (by (with_reducible repeat (first | apply Kd.R_alloc | apply Kd.R_drewN | apply Kd.R_drew)); exact HO_5.out))) (Kd.R_lt (by (with_reducible repeat (first | apply Kd.R_alloc | apply Kd.R_drewN | apply Kd.R_drew)); exact HO_8.out))) (below_size (by repeat (first | (with_reducible first | exact HB.out | apply below_alloc | apply pw_below_drewN | apply below_drew1) | exact HB.out)))); have n3_ := Aside0.mk (below_step (by repeat (first | (with_reducible first | exact HB.out | apply below_alloc | apply pw_below_drewN | apply below_drew1) | exact HB.out)) hb); clear HO_5; clear HO_8; clear HB; have HO_5 := n0_; have HO_8 := n1_; have HO158 := n2_; have HB := n3_; clear n0_ n1_ n2_ n3_; (try clear hb); (try clear hb2); (try clear hk); (try clear hi); (try clear ho0); obtain ⟨Ao48, co48, eo48⟩ := Kd.R_slice HO158.out; subst eo48) | ((with_reducible refine gate_callee (f := 30) rfl ?_); refine goesL_ (some 78) rfl rfl Try.func30 (by kernel_rfl) rfl #[.slice Ao48 t156.length co48, .int .i64 a1] rfl (by (try simp only [List.map_toArray, List.map_cons, List.map_nil]); first | done | rfl | (simp only [List.length_drop, List.length_take]; rfl)) ?_; (with_reducible refine (impl_MirrorHoles.calls kj25 _ _ t156 a1 t159 t160 _ ?side1 ?side2 A43.out).mono ?_); (case side1 => repeat (first | exact (Kd.R_reads' HO158.out).2.2 | (with_reducible refine Kd.C_alloc ?_ _) | (with_reducible refine Kd.C_drewN ?_ _) | (with_reducible refine Kd.C_drew ?_))); (case side2 => exact (Kd.R_reads' HO158.out).2.1); rintro e w49 ⟨v161, rfl, ho0, hb⟩; refine ⟨_, rfl, ?_⟩; have n0_ := Aside0.mk (Kd.R_elder' (by (with_reducible repeat (first | apply Kd.R_alloc | apply Kd.R_drewN | apply Kd.R_drew)); exact HO_5.out) (Kd.R_base ho0) hb); have n1_ := Aside0.mk (Kd.R_elder' (by (with_reducible repeat (first | apply Kd.R_alloc | apply Kd.R_drewN | apply Kd.R_drew)); exact HO_8.out) (Kd.R_base ho0) hb); have n2_ := Aside0.mk (Kd.R_elder' (by (with_reducible repeat (first | apply Kd.R_alloc | apply Kd.R_drewN | apply Kd.R_drew)); exact HO158.out) (Kd.R_base ho0) hb); have n3_ := Aside0.mk (Kd.R_lower (Kd.R_new' (Kd.R_new' (Kd.R_new' ho0 (Kd.R_lt (by (with_reducible repeat (first | apply Kd.R_alloc | apply Kd.R_drewN | apply Kd.R_drew)); exact HO_5.out))) (Kd.R_lt (by (with_reducible repeat (first | apply Kd.R_alloc | apply Kd.R_drewN | apply Kd.R_drew)); exact HO_8.out))) (Kd.R_lt (by (with_reducible repeat (first | apply Kd.R_alloc | apply Kd.R_drewN | apply Kd.R_drew)); exact HO158.out))) (below_size (by repeat (first | (with_reducible first | exact HB.out | apply below_alloc | apply pw_below_drewN | apply below_drew1) | exact HB.out)))); have n4_ := Aside0.mk (below_step (by repeat (first | (with_reducible first | exact HB.out | apply below_alloc | apply pw_below_drewN | apply below_drew1) | exact HB.out)) hb); clear HO_5; clear HO_8; clear HO158; clear HB; have HO_5 := n0_; have HO_8 := n1_; have HO158 := n2_; have HO162 := n3_; have HB := n4_; clear n0_ n1_ n2_ n3_ n4_; (try clear hb); (try clear hb2); (try clear hk); (try clear hi); (try clear ho0)))
                      (try simp only [Act.put, List.setIfInBounds_toArray, List.set_cons_zero, List.set_cons_succ])
                      go_cut [89] (fun v89 wc => ∃ (kq : Nat) (x89_43 : Bool), v89 = .bool x89_43 ∧ Aside0 (laws_FnExactMirrorHoles.j2 kq t154 t153 x89_43 = some r) ∧ Aside0 (kq ≤ kj25) ∧ Aside0 (Kd.R (Kd.int .i64) 2 wc w.heap.size (fun _ => True) (.slice Ao45 t141.length co45) t154) ∧ Aside0 (Below w.heap.size w wc))
                      case first =>
                        have H := HC44.out
                        clear HC44
                        replace H := Option.bind_eq_some_iff.mp H
                        obtain ⟨t163, A500, H⟩ := H
                        replace H : (if t163 = true then (laws_FnExactMirrorHoles.j2 kj25 t154 t153 (t160 != t135)) else (laws_FnExactMirrorHoles.j2 kj25 t154 t153 true)) = some r := H
                        have A50 := Aside0.mk A500
                        clear A500
                        by_cases c51 : t163 = true
                        · subst c51
                          have H1 : (laws_FnExactMirrorHoles.j2 kj25 t154 t153 (t160 != t135)) = some r := by rw [if_pos rfl] at H; exact H
                          clear H
                          have H := H1
                          clear H1
                          have H' := Aside0.mk H
                          clear H
                          obtain ⟨Ao52, co52, eo52⟩ := Kd.R_slice HO162.out
                          subst eo52
                          obtain ⟨Ao53, co53, eo53⟩ := Kd.R_slice HO_5.out
                          subst eo53
                          go_wp2_with (first | ((with_reducible refine gate_callee (f := 20) rfl ?_); refine goesL_ (some 83) rfl rfl Try.func20 (by kernel_rfl) rfl #[.slice Ao52 t159.length co52, .slice Ao53 t134.length co53] rfl (by (try simp only [List.map_toArray, List.map_cons, List.map_nil]); first | done | rfl | (simp only [List.length_drop, List.length_take]; rfl)) ?_; (with_reducible refine (laws_eqInt64S.calls kj25 _ _ t159 _ _ t134 true _ ?side1 ?side2 ?side3 ?side4 A50.out).mono ?_); (case side1 => repeat (first | exact (Kd.R_reads' HO162.out).2.2 | (with_reducible refine Kd.C_alloc ?_ _) | (with_reducible refine Kd.C_drewN ?_ _) | (with_reducible refine Kd.C_drew ?_))); (case side2 => exact (Kd.R_reads' HO162.out).2.1); (case side3 => repeat (first | exact (Kd.R_reads' HO_5.out).2.2 | (with_reducible refine Kd.C_alloc ?_ _) | (with_reducible refine Kd.C_drewN ?_ _) | (with_reducible refine Kd.C_drew ?_))); (case side4 => exact (Kd.R_reads' HO_5.out).2.1); rintro e w' ⟨rfl, ⟨nd, rfl⟩⟩; refine ⟨_, rfl, ?_⟩))
                          go_meet
                          case rel => exact ⟨_, ((t160 != t135)), (by first | rfl | (simp; done) | (simp [*]; done)), H', ⟨by have := HJ7.out; have := HJ25.out; first | omega | exact Nat.le_refl _⟩, ⟨by (with_reducible repeat (first | apply Kd.R_alloc | apply Kd.R_drewN | apply Kd.R_drew)); exact Kd.R_mono HO_8.out (fun _ hk => trivial)⟩, ⟨by repeat (first | (with_reducible first | exact HB.out | apply below_alloc | apply pw_below_drewN | apply below_drew1) | exact HB.out)⟩⟩
                        · replace c51 := Bool.eq_false_iff.mpr c51
                          subst c51
                          have H1 : (laws_FnExactMirrorHoles.j2 kj25 t154 t153 true) = some r := by rw [if_neg (show ¬ (false = true) by decide)] at H; exact H
                          clear H
                          have H := H1
                          clear H1
                          have H' := Aside0.mk H
                          clear H
                          obtain ⟨Ao54, co54, eo54⟩ := Kd.R_slice HO162.out
                          subst eo54
                          obtain ⟨Ao55, co55, eo55⟩ := Kd.R_slice HO_5.out
                          subst eo55
                          go_wp2_with (first | ((with_reducible refine gate_callee (f := 20) rfl ?_); refine goesL_ (some 83) rfl rfl Try.func20 (by kernel_rfl) rfl #[.slice Ao54 t159.length co54, .slice Ao55 t134.length co55] rfl (by (try simp only [List.map_toArray, List.map_cons, List.map_nil]); first | done | rfl | (simp only [List.length_drop, List.length_take]; rfl)) ?_; (with_reducible refine (laws_eqInt64S.calls kj25 _ _ t159 _ _ t134 false _ ?side1 ?side2 ?side3 ?side4 A50.out).mono ?_); (case side1 => repeat (first | exact (Kd.R_reads' HO162.out).2.2 | (with_reducible refine Kd.C_alloc ?_ _) | (with_reducible refine Kd.C_drewN ?_ _) | (with_reducible refine Kd.C_drew ?_))); (case side2 => exact (Kd.R_reads' HO162.out).2.1); (case side3 => repeat (first | exact (Kd.R_reads' HO_5.out).2.2 | (with_reducible refine Kd.C_alloc ?_ _) | (with_reducible refine Kd.C_drewN ?_ _) | (with_reducible refine Kd.C_drew ?_))); (case side4 => exact (Kd.R_reads' HO_5.out).2.1); rintro e w' ⟨rfl, ⟨nd, rfl⟩⟩; refine ⟨_, rfl, ?_⟩))
                          go_meet
                          case rel => exact ⟨_, (true), (by first | rfl | (simp; done) | (simp [*]; done)), H', ⟨by have := HJ7.out; have := HJ25.out; first | omega | exact Nat.le_refl _⟩, ⟨by (with_reducible repeat (first | apply Kd.R_alloc | apply Kd.R_drewN | apply Kd.R_drew)); exact Kd.R_mono HO_8.out (fun _ hk => trivial)⟩, ⟨by repeat (first | (with_reducible first | exact HB.out | apply below_alloc | apply pw_below_drewN | apply below_drew1) | exact HB.out)⟩⟩
                      case rest =>
                        clear HC44
                        try clear c1
                        try clear c2
                        try clear p2
                        try clear c3
                        try clear c3b0
                        try clear c3b1
                        try clear c4
                        try clear c5
                        try clear c7
                        try clear c16
                        try clear c18
                        try clear c20
                        try clear c21
                        try clear c23
                        try clear c24
                        try clear c29
                        try clear c30
                        try clear c30b0
                        try clear c32
                        try clear c37
                        try clear c40
                        try clear c40b0
                        try clear c41
                        try clear c41b0
                        try clear c41b1
                        try clear c51
                        try clear p2
                        obtain ⟨kq, x89_43, rfl, HA, HJ43, HO_8, HB⟩ := hcut
                        have hl8_43 := (Kd.R_reads' HO_8.out).1
                        rw [hl8_43] at HO_8
                        (try simp only [hl8_43])
                        cases kq with
                        | zero => exact absurd HA.out (by simp [laws_FnExactMirrorHoles.j2])
                        | succ kj43 =>
                          have H := HA.out
                          clear HA
                          simp only [laws_FnExactMirrorHoles.j2] at H
                          by_cases c56 : x89_43 = true
                          · subst c56
                            have H1 : (some false) = some r := by rw [if_pos rfl] at H; exact H
                            clear H
                            have H := H1
                            clear H1
                            exact absurd ((Option.some.inj H).trans hr_.out) (by decide)
                          · replace c56 := Bool.eq_false_iff.mpr c56
                            subst c56
                            have H1 : ((laws_heldInt64S.f kj43 t154 1).bind fun t164 => (if t164 < 0 then (some false) else (if t164 = t153 then (some true) else (some false)))) = some r := by rw [if_neg (show ¬ (false = true) by decide)] at H; exact H
                            clear H
                            have H := H1
                            clear H1
                            replace H := Option.bind_eq_some_iff.mp H
                            obtain ⟨t164, A570, H⟩ := H
                            replace H : (if t164 < 0 then (some false) else (if t164 = t153 then (some true) else (some false))) = some r := H
                            have A57 := Aside0.mk A570
                            clear A570
                            by_cases c58 : t164 < 0
                            · rw [if_pos c58] at H
                              have c58b0 : decide (t164 < 0) = true := decide_eq_true c58
                              clear c58
                              exact absurd ((Option.some.inj H).trans hr_.out) (by decide)
                            · rw [if_neg c58] at H
                              have c58b0 : decide (t164 < 0) = false := decide_eq_false c58
                              clear c58
                              by_cases c59 : t164 = t153
                              · rw [if_pos c59] at H
                                have c59b0 : (t164 == t153) = true := beq_iff_eq.mpr c59
                                have c59b1 : (t164 != t153) = false := bne_eq_false_iff_eq.mpr c59
                                clear c59
                                obtain rfl := Option.some.inj H
                                go_wp2_with (first | ((with_reducible refine gate_callee (f := 24) rfl ?_); refine goesL_ (some 92) rfl rfl Try.func24 (by kernel_rfl) rfl #[.slice Ao45 t154.length co45, .int .i64 1] rfl (by (try simp only [List.map_toArray, List.map_cons, List.map_nil]); first | done | rfl | (simp only [List.length_drop, List.length_take]; rfl)) ?_; (with_reducible refine (laws_heldInt64S.calls kj43 _ _ t154 1 t164 _ ?side1 ?side2 A57.out).mono ?_); (case side1 => repeat (first | exact (Kd.R_reads' HO_8.out).2.2 | (with_reducible refine Kd.C_alloc ?_ _) | (with_reducible refine Kd.C_drewN ?_ _) | (with_reducible refine Kd.C_drew ?_))); (case side2 => exact (Kd.R_reads' HO_8.out).2.1); rintro e w' ⟨rfl, ⟨nd, rfl⟩⟩; refine ⟨_, rfl, ?_⟩))
                                go_ret
                                exact ⟨by first | rfl | (simp [errW_none, errW_some] <;> rfl) | (simp [*, errW_none, errW_some] <;> rfl), by repeat (first | (with_reducible first | exact HB.out | apply below_alloc | apply pw_below_drewN | apply below_drew1) | exact HB.out)⟩
                              · rw [if_neg c59] at H
                                have c59b0 : (t164 == t153) = false := beq_eq_false_iff_ne.mpr c59
                                have c59b1 : (t164 != t153) = true := bne_iff_ne.mpr c59
                                exact absurd ((Option.some.inj H).trans hr_.out) (by decide)
                    · rw [if_neg c41] at H
                      have c41b0 : (t155 == t153) = false := beq_eq_false_iff_ne.mpr c41
                      have c41b1 : (t155 != t153) = true := bne_iff_ne.mpr c41
                      exact absurd ((Option.some.inj H).trans hr_.out) (by decide)
          · replace c24 := Bool.eq_false_iff.mpr c24
            subst c24
            have H1 : (some false) = some r := by rw [if_neg (show ¬ (false = true) by decide)] at H; exact H
            clear H
            have H := H1
            clear H1
            exact absurd ((Option.some.inj H).trans hr_.out) (by decide)

end Go.Proofs.Ytdelnmbfokipoaa.PFnExactMirrorHoles
