-- Written by a program of this session.
import Derived.Test.YthmeohanbggnlaaPFnExplainedx0
import Derived.Test.YthmeohanbggnlaaPFnExplainedx2
import Derived.Test.YthmeohanbggnlaaPFnExplainedx5
import Derived.Test.YthmeohanbggnlaaPFnExplainedx6
namespace Go.Proofs.Ythmeohanbggnlaa.PFnExplained
open Go.RowKit Go.Proofs.YthmeohanbggnlaaW.PrintWords Go.Proofs.YthmeohanbggnlaaW.PrintLast Go.Proofs.YthmeohanbggnlaaW.PrintMore
attribute [local go_sem] max2_int min2_int max_two min_two max_three min_three max_four min_four   -- for this text's walks alone
set_option linter.unusedVariables false
set_option linter.unusedSimpArgs false

/-! ### impl_CountFaults: function 29 -/
def impl_CountFaults.l0 : Nat → Int → Int → List Int → Int → Int → Option (Int × Int)
  | 0, _, _, _, _, _ => none
  | k + 1, x7, x8, x17, x18, x19 => if x19 < x18 then (if 0 ≤ x19 then (if x19 < (x17.length : Int) then ((impl_toInt.f (decide ((rd x17 x19) > 0))).bind fun t228 => (impl_CountFaults.l0 k x7 (wrap64 (x8 + t228)) x17 x18 (wrap64 (x19 + 1)))) else (none)) else (none)) else (some (x8, x7))
def impl_CountFaults.f (k : Nat) (a0 : Int) (l1 : List Int) : Option (Int × Int) := (impl_ExplainBlock.f k a0 l1).bind fun bt223 => (impl_CountFaults.l0 k bt223.2 0 bt223.1 (bt223.1.length : Int) 0)
theorem impl_CountFaults.mono_l : ∀ k, (∀ y0 y1 y2 y3 y4, LeO (impl_CountFaults.l0 k y0 y1 y2 y3 y4) (impl_CountFaults.l0 (k + 1) y0 y1 y2 y3 y4))
  | 0 => fun _ _ _ _ _ r h => by simp [impl_CountFaults.l0] at h
  | k + 1 => by
    have ih0 := impl_CountFaults.mono_l k
    · intro y0 y1 y2 y3 y4
      unfold impl_CountFaults.l0
      repeat' first
      | (with_reducible exact ih0 _ _ _ _ _)
      | (with_reducible exact impl_ExplainBlock.mono _ _ _)
      | (with_reducible exact LeO.refl _)
      | (with_reducible exact LeO.none _)
      | (with_reducible refine LeO.ite ?_ ?_)
      | (with_reducible refine LeO.bind ?_ (fun _ => ?_))
      | exact ih0 _ _ _ _ _
      | exact impl_ExplainBlock.mono _ _ _
      | exact LeO.none _
      | refine LeO.ite ?_ ?_
      | refine LeO.bind ?_ (fun _ => ?_)
theorem impl_CountFaults.mono : ∀ a0 a1 k, LeO (impl_CountFaults.f k a0 a1) (impl_CountFaults.f (k + 1) a0 a1) := by
  intro a0 a1 k
  have ih0 := impl_CountFaults.mono_l k
  unfold impl_CountFaults.f
  repeat' first
      | (with_reducible exact ih0 _ _ _ _ _)
      | (with_reducible exact impl_ExplainBlock.mono _ _ _)
      | (with_reducible exact LeO.refl _)
      | (with_reducible exact LeO.none _)
      | (with_reducible refine LeO.ite ?_ ?_)
      | (with_reducible refine LeO.bind ?_ (fun _ => ?_))
      | exact ih0 _ _ _ _ _
      | exact impl_ExplainBlock.mono _ _ _
      | exact LeO.none _
      | refine LeO.ite ?_ ?_
      | refine LeO.bind ?_ (fun _ => ?_)
set_option maxHeartbeats 8000000 in
set_option maxRecDepth 100000 in
theorem impl_CountFaults.calls (k : Nat) (a0 : Int) (A1 : Option Addr) (c1 : Nat) (l1 : List Int) (r1 : Int) (r2 : Int) (w : World) (hr1 : Kd.C (Kd.int .i64) w A1 l1.length l1) (hc1 : l1.length ≤ c1) (h : impl_CountFaults.f k a0 l1 = some (r1, r2)) :
    Calls Try.prog 29 #[.int .i64 a0, .slice A1 l1.length c1] w fun e w' => e = .returned (.tuple #[.int .i64 r1, .int .i64 r2]) ∧ Below w.heap.size w w' := by
  have HR1 := Aside0.mk hr1
  have HC1 := Aside0.mk hc1
  clear hr1 hc1
  have HB := Aside0.mk (Below.refl w.heap.size w)
  have H : ((impl_ExplainBlock.f k a0 l1).bind fun bt223 => (impl_CountFaults.l0 k bt223.2 0 bt223.1 (bt223.1.length : Int) 0)) = some (r1, r2) := h
  clear h
  replace H := Option.bind_eq_some_iff.mp H
  obtain ⟨⟨t223, t224⟩, A30, H⟩ := H
  replace H : (impl_CountFaults.l0 k t224 0 t223 (t223.length : Int) 0) = some (r1, r2) := H
  have A3 := Aside0.mk A30
  clear A30
  have H' := Aside0.mk H
  clear H
  go_enter Try.func29, Try.ntmps29
  go_wp2_with (first | ((with_reducible refine gate_callee (f := 31) rfl ?_); refine goesL_ (some 14) rfl rfl Try.func31 (by kernel_rfl) rfl #[.int .i64 a0, .slice A1 l1.length c1] rfl (by (try simp only [List.map_toArray, List.map_cons, List.map_nil]); first | done | rfl | (simp only [List.length_drop, List.length_take]; rfl)) ?_; (with_reducible refine (impl_ExplainBlock.calls k a0 _ _ l1 t223 t224 _ ?side1 ?side2 A3.out).mono ?_); (case side1 => repeat (first | exact HR1.out | (with_reducible refine Kd.C_alloc ?_ _) | (with_reducible refine Kd.C_drewN ?_ _) | (with_reducible refine Kd.C_drew ?_))); (case side2 => exact HC1.out); rintro e w4 ⟨v225, rfl, ho0, hb⟩; refine ⟨_, rfl, ?_⟩; have n0_ := Aside0.mk (Kd.R_lower ho0 (below_size (by repeat (first | (with_reducible first | exact HB.out | apply below_alloc | apply pw_below_drewN | apply below_drew1) | exact HB.out)))); have n1_ := Aside0.mk (below_step (by repeat (first | (with_reducible first | exact HB.out | apply below_alloc | apply pw_below_drewN | apply below_drew1) | exact HB.out)) hb); clear HB; have HO226 := n0_; have HB := n1_; clear n0_ n1_; (try clear hb); (try clear hb2); (try clear hk); (try clear hi); (try clear ho0); obtain ⟨Ao5, co5, eo5⟩ := Kd.R_slice HO226.out; subst eo5))
  go_loopg [8, 19] k (fun kq v8 v19 w' => ∃ (x8_1 : Int) (x19_1 : Int), v8 = .int .i64 x8_1 ∧ v19 = .int .i64 x19_1 ∧ Aside0 (impl_CountFaults.l0 kq t224 x8_1 t223 (t223.length : Int) x19_1 = some (r1, r2)) ∧ Aside0 (kq ≤ k) ∧ Aside0 (Kd.R (Kd.int .i64) 2 w' w.heap.size (fun _ => True) (.slice Ao5 t223.length co5) t223) ∧ Aside0 (Below w.heap.size w w'))
  case atStart => exact ⟨(0), (0), (by first | rfl | (simp; done) | (simp [*]; done)), (by first | rfl | (simp; done) | (simp [*]; done)), H', ⟨Nat.le_refl _⟩, ⟨by (with_reducible repeat (first | apply Kd.R_alloc | apply Kd.R_drewN | apply Kd.R_drew)); exact HO226.out⟩, ⟨by repeat (first | (with_reducible first | exact HB.out | apply below_alloc | apply pw_below_drewN | apply below_drew1) | exact HB.out)⟩⟩
  case round =>
    clear H'
    try clear c1
    try clear c2
    try clear p2
    try clear c3
    obtain ⟨x8_1, x19_1, rfl, rfl, HA, HK1, HO_17, HB⟩ := hrel
    cases gk with
    | zero => exact absurd HA.out (by simp [impl_CountFaults.l0])
    | succ k1 =>
      have H := HA.out
      clear HA
      simp only [impl_CountFaults.l0] at H
      by_cases c6 : x19_1 < (t223.length : Int)
      · rw [if_pos c6] at H
        have c6b0 : decide (x19_1 < (t223.length : Int)) = true := decide_eq_true c6
        clear c6
        by_cases c7 : 0 ≤ x19_1
        · rw [if_pos c7] at H
          have c7b0 : decide (0 ≤ x19_1) = true := decide_eq_true c7
          clear c7
          by_cases c8 : x19_1 < (t223.length : Int)
          · rw [if_pos c8] at H
            have c8b0 : decide (x19_1 < (t223.length : Int)) = true := decide_eq_true c8
            clear c8
            replace H := Option.bind_eq_some_iff.mp H
            obtain ⟨t228, A90, H⟩ := H
            replace H : (impl_CountFaults.l0 k1 t224 (wrap64 (x8_1 + t228)) t223 (t223.length : Int) (wrap64 (x19_1 + 1))) = some (r1, r2) := H
            have A9 := Aside0.mk A90
            clear A90
            have H' := Aside0.mk H
            clear H
            have p227 : 0 ≤ (x19_1 : Int) := of_decide_eq_true (by first | (with_reducible assumption) | assumption)
            have q227 : x19_1 < (t223.length : Int) := of_decide_eq_true (by first | (with_reducible assumption) | assumption)
            obtain ⟨ad227, e227, hx227_0⟩ := Kd.at_int (Kd.R_reads' HO_17.out).2.2 x19_1 p227 q227
            cases e227
            replace p227 := eq_true p227
            replace q227 := eq_true q227
            go_wp2_with (first | ((with_reducible refine gate_callee (f := 63) rfl ?_); refine goesL_ (some 26) rfl rfl Try.func63 (by kernel_rfl) rfl #[.bool (decide ((rd t223 x19_1) > 0))] rfl (by (try simp only [List.map_toArray, List.map_cons, List.map_nil]); first | done | rfl | (simp only [List.length_drop, List.length_take]; rfl)) ?_; (with_reducible refine (impl_toInt.calls (decide ((rd t223 x19_1) > 0)) t228 _ A9.out).mono ?_); rintro e w' ⟨rfl, ⟨nd, rfl⟩⟩; refine ⟨_, rfl, ?_⟩))
            go_roundg k1
            case measure => have := HK1.out; omega
            case rel => exact ⟨(wrap64 (x8_1 + t228)), (wrap64 (x19_1 + 1)), (by first | rfl | (simp; done) | (simp [*]; done)), (by first | rfl | (simp; done) | (simp [*]; done)), H', ⟨by have := HK1.out; omega⟩, ⟨by (with_reducible repeat (first | apply Kd.R_alloc | apply Kd.R_drewN | apply Kd.R_drew)); exact HO_17.out⟩, ⟨by repeat (first | (with_reducible first | exact HB.out | apply below_alloc | apply pw_below_drewN | apply below_drew1) | exact HB.out)⟩⟩
          · rw [if_neg c8] at H
            exact absurd H (by simp)
        · rw [if_neg c7] at H
          exact absurd H (by simp)
      · rw [if_neg c6] at H
        have c6b0 : decide (x19_1 < (t223.length : Int)) = false := decide_eq_false c6
        clear c6
        simp only [Option.some.injEq, Prod.mk.injEq] at H
        obtain ⟨rfl, rfl⟩ := H
        go_wp2
        go_ret2
        exact ⟨by first | rfl | (simp [errW_none, errW_some] <;> rfl) | (simp [*, errW_none, errW_some] <;> rfl), by repeat (first | (with_reducible first | exact HB.out | apply below_alloc | apply pw_below_drewN | apply below_drew1) | exact HB.out)⟩

-- NOT PRINTED: function 75 (impl_Fault_75)

-- NOT PRINTED: function 53 (impl_Fault_53)

/-! ### impl_AreFaults_1: function 54, by a template of this session -/
theorem impl_AreFaults_1.rd_get (l : List S55) (x : Int) (h0 : 0 ≤ x) (h : x.toNat < l.length) : rd_T55 l x = l[x.toNat] := by
  simp [rd_T55, List.getD_eq_getElem?_getD, List.getElem?_eq_getElem h]
set_option maxHeartbeats 2000000 in
theorem impl_AreFaults_1.index (lb : Array Value) (p : S55 → Bool) (A0 : Option Addr) (c0 : Nat) (l0 : List S55) (w : World)
    (hp : ∀ (W : World) (x : S55), Below w.heap.size w W → Calls Try.prog 54 (#[.agg #[.int .i64 x.f0, .int .i64 x.f1, .int .i64 x.f2, .int .i64 x.f3]] ++ lb) W fun e w' => e = .returned (.bool (p x)) ∧ Below w.heap.size w w')
    (hr0 : Kd.C k55 w A0 l0.length l0) :
    Calls Try.prog 75 #[.slice A0 l0.length c0, .func (.func 54) #[] lb] w fun e w' => e = .returned (.int .i64 (at_from p l0 0)) ∧ Below w.heap.size w w' := by
  have HR0 := Aside0.mk hr0
  have HL := Aside0.mk (show (l0.length : Int) ≤ 9223372036854775807 by have := hr0.2.1; omega)
  have HP := Aside0.mk hp
  clear hr0 hp
  have hu55 := Try.underlying55
  go_enter Try.func75, Try.ntmps75
  go_wp2
  go_loopg [5, 8] l0.length (fun gg _ s8 wr => ∃ x : Int, s8 = .int .i64 x ∧ Aside0 (0 ≤ x ∧ x ≤ l0.length ∧ (l0.length : Int) - x ≤ gg) ∧ Aside0 (Below w.heap.size w wr) ∧ Aside0 (∀ (j : Nat) (hj : (j : Int) < x) (hl : j < l0.length), p l0[j] = false))
  case atStart => exact ⟨0, rfl, ⟨by omega⟩, ⟨Below.refl _ w⟩, ⟨fun j hj => by omega⟩⟩
  case round =>
    obtain ⟨x, rfl, XX, BW, AA⟩ := hrel
    by_cases hlt : x < (l0.length : Int)
    · have hx0 : 0 ≤ x := XX.out.1
      have hltz : decide (x < (l0.length : Int)) = true := decide_eq_true hlt
      have hx1 : x ≤ 9223372036854775806 := by have := HL.out; omega
      have hcall := HP.out wr (rd_T55 l0 x) BW.out
      obtain ⟨ad, ead, hxa, hxb, hxc, hxd⟩ := at_T55 (Kd.C_below HR0.out BW.out) x hx0 hlt
      cases ead
      have B : Aside0 (∀ h : x.toNat < l0.length, rd_T55 l0 x = l0[x.toNat]) := ⟨fun h => impl_AreFaults_1.rd_get l0 x hx0 h⟩
      generalize rd_T55 l0 x = y at hcall hxa hxb hxc hxd B
      cases hq : p y with
      | true =>
        have Q : Aside0 (p y = true) := ⟨hq⟩
        rw [hq] at hcall
        clear hq
        have LT : Aside0 (x < (l0.length : Int)) := ⟨hlt⟩
        replace hlt := eq_true hlt
        replace hx0 := eq_true hx0
        go_wp2_with (go_at_call 54; refine hcall.mono ?_; rintro e w' ⟨rfl, hb'⟩)
        go_ret
        refine ⟨?_, hb'⟩
        have h1 := XX.out
        have h2 := LT.out
        rw [at_from_hit p l0 x.toNat 0 (by omega) (by rw [← B.out (by omega)]; exact Q.out) (fun j hj => AA.out j (by omega) (by omega))]
        rw [Int.toNat_of_nonneg (by omega), Int.zero_add]
        rfl
      | false =>
        have Q : Aside0 (p y = false) := ⟨hq⟩
        rw [hq] at hcall
        clear hq
        have LT : Aside0 (x < (l0.length : Int)) := ⟨hlt⟩
        have hx2 : 0 ≤ x + 1 := by omega
        go_wp2_with (go_at_call 54; refine hcall.mono ?_; rintro e w' ⟨rfl, hb'⟩)
        go_roundg ((l0.length : Int) - (x + 1)).toNat
        case measure => have h1 := XX.out; have h2 := LT.out; omega
        case rel =>
          have h1 := XX.out
          have h2 := LT.out
          refine ⟨x + 1, rfl, ⟨by omega⟩, ⟨hb'⟩, ⟨fun j hj hl => ?_⟩⟩
          by_cases e : (j : Int) = x
          · have hj : j = x.toNat := by omega
            subst hj
            rw [← B.out hl]; exact Q.out
          · exact AA.out j (by omega) hl
    · have hltz : decide (x < (l0.length : Int)) = false := decide_eq_false hlt
      have LT : Aside0 (¬ x < (l0.length : Int)) := ⟨hlt⟩
      clear hlt
      go_wp2
      go_ret
      refine ⟨?_, BW.out⟩
      have h2 := LT.out
      rw [at_from_miss p l0 0 (fun j hj => AA.out j (by omega) hj)]
      rfl
set_option maxHeartbeats 2000000 in
theorem impl_AreFaults_1.contains (lb : Array Value) (p : S55 → Bool) (A0 : Option Addr) (c0 : Nat) (l0 : List S55) (w : World)
    (hp : ∀ (W : World) (x : S55), Below w.heap.size w W → Calls Try.prog 54 (#[.agg #[.int .i64 x.f0, .int .i64 x.f1, .int .i64 x.f2, .int .i64 x.f3]] ++ lb) W fun e w' => e = .returned (.bool (p x)) ∧ Below w.heap.size w w')
    (hr0 : Kd.C k55 w A0 l0.length l0) :
    Calls Try.prog 53 #[.slice A0 l0.length c0, .func (.func 54) #[] lb] w fun e w' => e = .returned (.bool (l0.any p)) ∧ Below w.heap.size w w' := by
  have E := Aside0.mk (at_from_any p l0 0 (Int.le_refl 0))
  have HC := Aside0.mk (impl_AreFaults_1.index lb p A0 c0 l0 w hp hr0)
  clear hp hr0
  go_enter Try.func53, Try.ntmps53
  go_wp2_with (go_at_call 75; (with_reducible refine HC.out.mono ?_); rintro e w' ⟨rfl, hb'⟩)
  go_ret
  refine ⟨?_, hb'⟩
  rw [← E.out]
  rfl
def impl_AreFaults_1.p (f0 f1 : Int) (u : S55) : Bool := if u.f0 = f0 then (u.f1 == f1) else false
def impl_AreFaults_1.f (l0 : List S55) (f0 f1 _f2 _f3 : Int) : Option (Bool) := some (l0.any (impl_AreFaults_1.p f0 f1))
set_option maxRecDepth 100000 in
set_option maxHeartbeats 2000000 in
theorem impl_AreFaults_1.closure (u : S55) (f0 f1 f2 f3 : Int) (g : Nat) (W : World) (hb : W.heap[g]? = some (.cells #[.int .i64 f0, .int .i64 f1, .int .i64 f2, .int .i64 f3] 55 (0, 0))) :
    Calls Try.prog 54 #[.agg #[.int .i64 u.f0, .int .i64 u.f1, .int .i64 u.f2, .int .i64 u.f3], .pointer (some ⟨g, 0, none⟩)] W fun e w' => e = .returned (.bool (impl_AreFaults_1.p f0 f1 u)) ∧ Below W.heap.size W w' := by
  have B := blk_alloc hb (.cells #[.int .i64 u.f0, .int .i64 u.f1, .int .i64 u.f2, .int .i64 u.f3] 55)
  have N := blk_new W (.cells #[.int .i64 u.f0, .int .i64 u.f1, .int .i64 u.f2, .int .i64 u.f3] 55)
  have k0 : (W.alloc (.cells #[.int .i64 u.f0, .int .i64 u.f1, .int .i64 u.f2, .int .i64 u.f3] 55)).cell? ⟨g, 0, none⟩ = some (.int .i64 f0) := (blk_cell B 0).trans rfl
  have k1 : (W.alloc (.cells #[.int .i64 u.f0, .int .i64 u.f1, .int .i64 u.f2, .int .i64 u.f3] 55)).cell? ⟨g, 1, none⟩ = some (.int .i64 f1) := (blk_cell B 1).trans rfl
  have n0 : (W.alloc (.cells #[.int .i64 u.f0, .int .i64 u.f1, .int .i64 u.f2, .int .i64 u.f3] 55)).cell? ⟨W.heap.size, 0, none⟩ = some (.int .i64 u.f0) := (blk_cell N 0).trans rfl
  have n1 : (W.alloc (.cells #[.int .i64 u.f0, .int .i64 u.f1, .int .i64 u.f2, .int .i64 u.f3] 55)).cell? ⟨W.heap.size, 1, none⟩ = some (.int .i64 u.f1) := (blk_cell N 1).trans rfl
  clear B N hb
  have hu55 := Try.underlying55
  by_cases c0 : u.f0 = f0
  · subst c0
    have P := Aside0.mk (show (u.f1 == f1) = impl_AreFaults_1.p u.f0 f1 u by unfold impl_AreFaults_1.p; rw [if_pos rfl])
    go_enter Try.func54, Try.ntmps54
    go_wp2
    go_ret
    exact ⟨by rw [← P.out]; rfl, below_alloc (Below.refl _ _) _⟩
  · have P := Aside0.mk (show false = impl_AreFaults_1.p f0 f1 u by unfold impl_AreFaults_1.p; rw [if_neg c0])
    have d0 : (u.f0 == f0) = false := beq_false_of_ne c0
    clear c0
    go_enter Try.func54, Try.ntmps54
    go_wp2
    go_ret
    exact ⟨by rw [← P.out]; rfl, below_alloc (Below.refl _ _) _⟩
theorem impl_AreFaults_1.calls (A0 : Option Addr) (c0 : Nat) (l0 : List S55) (f0 f1 f2 f3 : Int) (r : Bool) (w : World) {g : Nat} (hr0 : Kd.C k55 w A0 l0.length l0) (_hc0 : l0.length ≤ c0) (hb : w.heap[g]? = some (.cells #[.int .i64 f0, .int .i64 f1, .int .i64 f2, .int .i64 f3] 55 (0, 0))) (h : impl_AreFaults_1.f l0 f0 f1 f2 f3 = some r) :
    Calls Try.prog 53 #[.slice A0 l0.length c0, .func (.func 54) #[] #[.pointer (some ⟨g, 0, none⟩)]] w fun e w' => e = .returned (.bool r) ∧ Below w.heap.size w w' := by
  unfold impl_AreFaults_1.f at h
  obtain rfl := Option.some.inj h
  exact impl_AreFaults_1.contains #[.pointer (some ⟨g, 0, none⟩)] (impl_AreFaults_1.p f0 f1) A0 c0 l0 w (fun W x hbW => (impl_AreFaults_1.closure x f0 f1 f2 f3 g W (blk_below hb hbW)).mono fun e w' ⟨he, hb'⟩ => ⟨he, hbW.trans (hb'.mono hbW.size)⟩) hr0

end Go.Proofs.Ythmeohanbggnlaa.PFnExplained
