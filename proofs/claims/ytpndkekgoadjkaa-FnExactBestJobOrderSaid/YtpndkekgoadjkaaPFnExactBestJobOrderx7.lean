-- Written by a program of this session.
import Derived.Test.YtpndkekgoadjkaaPFnExactBestJobOrderx0
import Derived.Test.YtpndkekgoadjkaaPFnExactBestJobOrderx2
import Derived.Test.YtpndkekgoadjkaaPFnExactBestJobOrderx3
import Derived.Test.YtpndkekgoadjkaaPFnExactBestJobOrderx5
import Derived.Test.YtpndkekgoadjkaaPFnExactBestJobOrderx6
namespace Go.Proofs.Ytpndkekgoadjkaa.PFnExactBestJobOrder
open Go.RowKit Go.Proofs.YtpndkekgoadjkaaW.PrintWords Go.Proofs.YtpndkekgoadjkaaW.PrintLast Go.Proofs.YtpndkekgoadjkaaW.PrintMore
attribute [local go_sem] max2_int min2_int max_two min_two max_three min_three max_four min_four   -- for this text's walks alone
set_option linter.unusedVariables false
set_option linter.unusedSimpArgs false

/-! ### laws_heldInt64S: function 29 -/
def laws_heldInt64S.l0 : Nat → List Int → Int → Int → Option (Int)
  | 0, _, _, _ => none
  | k + 1, x0, x1, x5 => if x5 < (x0.length : Int) then (if 0 ≤ x5 then (if (rd x0 x5) = x1 then (laws_heldInt64S.l0 k x0 (wrap64 (x1 + 1)) (wrap64 (x5 + 1))) else (some (-1))) else (none)) else (some x1)
def laws_heldInt64S.f (k : Nat) (l0 : List Int) (a1 : Int) : Option (Int) := laws_heldInt64S.l0 k l0 a1 0
theorem laws_heldInt64S.mono_l : ∀ k, (∀ y0 y1 y2, LeO (laws_heldInt64S.l0 k y0 y1 y2) (laws_heldInt64S.l0 (k + 1) y0 y1 y2))
  | 0 => fun _ _ _ r h => by simp [laws_heldInt64S.l0] at h
  | k + 1 => by
    have ih0 := laws_heldInt64S.mono_l k
    · intro y0 y1 y2
      unfold laws_heldInt64S.l0
      repeat' first
      | (with_reducible exact ih0 _ _ _)
      | (with_reducible exact LeO.refl _)
      | (with_reducible exact LeO.none _)
      | (with_reducible refine LeO.ite ?_ ?_)
      | (with_reducible refine LeO.bind ?_ (fun _ => ?_))
      | exact ih0 _ _ _
      | exact LeO.none _
      | refine LeO.ite ?_ ?_
      | refine LeO.bind ?_ (fun _ => ?_)
theorem laws_heldInt64S.mono : ∀ a0 a1 k, LeO (laws_heldInt64S.f k a0 a1) (laws_heldInt64S.f (k + 1) a0 a1) := by
  intro a0 a1 k
  have ih0 := laws_heldInt64S.mono_l k
  unfold laws_heldInt64S.f
  repeat' first
      | (with_reducible exact ih0 _ _ _)
      | (with_reducible exact LeO.refl _)
      | (with_reducible exact LeO.none _)
      | (with_reducible refine LeO.ite ?_ ?_)
      | (with_reducible refine LeO.bind ?_ (fun _ => ?_))
      | exact ih0 _ _ _
      | exact LeO.none _
      | refine LeO.ite ?_ ?_
      | refine LeO.bind ?_ (fun _ => ?_)
set_option maxHeartbeats 8000000 in
set_option maxRecDepth 100000 in
theorem laws_heldInt64S.calls (k : Nat) (A0 : Option Addr) (c0 : Nat) (l0 : List Int) (a1 : Int) (r : Int) (w : World) (hr0 : Kd.C (Kd.int .i64) w A0 l0.length l0) (hc0 : l0.length ≤ c0) (h : laws_heldInt64S.f k l0 a1 = some r) :
    Calls Try.prog 29 #[.slice A0 l0.length c0, .int .i64 a1] w fun e w' => e = .returned (.int .i64 r) ∧ Drawn0 w w' := by
  have HR0 := Aside0.mk hr0
  have HC0 := Aside0.mk hc0
  clear hr0 hc0
  have H : (laws_heldInt64S.l0 k l0 a1 0) = some r := h
  clear h
  have H' := Aside0.mk H
  clear H
  go_enter Try.func29, Try.ntmps29
  go_wp2
  go_loopg [1, 5] k (fun kq v1 v5 w' => ∃ (x1_1 : Int) (x5_1 : Int), v1 = .int .i64 x1_1 ∧ v5 = .int .i64 x5_1 ∧ Aside0 (laws_heldInt64S.l0 kq l0 x1_1 x5_1 = some r) ∧ Aside0 (kq ≤ k) ∧ Drawn0 w w')
  case atStart => exact ⟨(a1), (0), (by first | rfl | (simp; done) | (simp [*]; done)), (by first | rfl | (simp; done) | (simp [*]; done)), H', ⟨Nat.le_refl _⟩, by repeat (first | exact Drawn0.refl _ | apply Drawn0.step)⟩
  case round =>
    clear H'
    try clear c2
    try clear p2
    obtain ⟨x1_1, x5_1, rfl, rfl, HA, HK1, ⟨m1, rfl⟩⟩ := hrel
    cases gk with
    | zero => exact absurd HA.out (by simp [laws_heldInt64S.l0])
    | succ k1 =>
      have H := HA.out
      clear HA
      simp only [laws_heldInt64S.l0] at H
      by_cases c3 : x5_1 < (l0.length : Int)
      · rw [if_pos c3] at H
        have c3b0 : decide (x5_1 < (l0.length : Int)) = true := decide_eq_true c3
        clear c3
        by_cases c4 : 0 ≤ x5_1
        · rw [if_pos c4] at H
          have c4b0 : decide (0 ≤ x5_1) = true := decide_eq_true c4
          clear c4
          by_cases c5 : (rd l0 x5_1) = x1_1
          · rw [if_pos c5] at H
            have c5b0 : ((rd l0 x5_1) == x1_1) = true := beq_iff_eq.mpr c5
            have c5b1 : ((rd l0 x5_1) != x1_1) = false := bne_eq_false_iff_eq.mpr c5
            clear c5
            have H' := Aside0.mk H
            clear H
            have p196 : 0 ≤ (x5_1 : Int) := of_decide_eq_true (by first | (with_reducible assumption) | assumption)
            have q196 : x5_1 < (l0.length : Int) := of_decide_eq_true (by first | (with_reducible assumption) | assumption)
            obtain ⟨ad196, e196, hx196_0⟩ := Kd.at_int HR0.out x5_1 p196 q196
            cases e196
            replace p196 := eq_true p196
            replace q196 := eq_true q196
            go_wp2
            go_roundg k1
            case measure => have := HK1.out; omega
            case rel => exact ⟨(wrap64 (x1_1 + 1)), (wrap64 (x5_1 + 1)), (by first | rfl | (simp; done) | (simp [*]; done)), (by first | rfl | (simp; done) | (simp [*]; done)), H', ⟨by have := HK1.out; omega⟩, by repeat (first | exact Drawn0.refl _ | apply Drawn0.step)⟩
          · rw [if_neg c5] at H
            have c5b0 : ((rd l0 x5_1) == x1_1) = false := beq_eq_false_iff_ne.mpr c5
            have c5b1 : ((rd l0 x5_1) != x1_1) = true := bne_iff_ne.mpr c5
            obtain rfl := Option.some.inj H
            have p196 : 0 ≤ (x5_1 : Int) := of_decide_eq_true (by first | (with_reducible assumption) | assumption)
            have q196 : x5_1 < (l0.length : Int) := of_decide_eq_true (by first | (with_reducible assumption) | assumption)
            obtain ⟨ad196, e196, hx196_0⟩ := Kd.at_int HR0.out x5_1 p196 q196
            cases e196
            replace p196 := eq_true p196
            replace q196 := eq_true q196
            go_wp2
            go_ret
            exact ⟨by first | rfl | (simp; done) | (simp [*]; done), by repeat (first | exact Drawn0.refl _ | apply Drawn0.step)⟩
        · rw [if_neg c4] at H
          exact absurd H (by simp)
      · rw [if_neg c3] at H
        have c3b0 : decide (x5_1 < (l0.length : Int)) = false := decide_eq_false c3
        clear c3
        obtain rfl := Option.some.inj H
        go_wp2
        go_ret
        exact ⟨by first | rfl | (simp; done) | (simp [*]; done), by repeat (first | exact Drawn0.refl _ | apply Drawn0.step)⟩

/-! ### laws_FnExactBestJobOrder: function 7, by a template of this session -/
def laws_FnExactBestJobOrder.f (k : Nat) (l0 : List (List S62)) : Option (Bool) := (laws_szUnitSS.f k l0 1048576).bind fun t => if t < 0 then some true else ((laws_toUnitSS.f k l0).bind fun F => ((spec_BestJobOrder.f k F).bind fun R => ((impl_BestJobOrder.f k F).bind fun G => ((laws_eqInt64S.f k G.1 R.1).bind fun t1 => (if t1 = true ∧ G.2 = R.2 then ((laws_eqUnitSS.f k F F).bind fun t2 => (if t2 = true then ((laws_markUnitSS.f k F 1).bind fun m1 => (if 0 ≤ m1.1 then ((laws_markInt64S.f k G.1 1).bind fun m2 => ((laws_heldInt64S.f k m2.2 1).bind fun q => (if 0 ≤ q ∧ q = m2.1 then some true else none))) else none)) else none)) else none)))))
theorem laws_FnExactBestJobOrder.short (k : Nat) (A0 : Option Addr) (c0 : Nat) (l0 : List (List S62)) (t : Int) (w : World) (hr0 : Kd.C (Kd.slice 62 k62) w A0 l0.length l0) (hc0 : l0.length ≤ c0) (h : laws_szUnitSS.f k l0 1048576 = some t) (ht : t < 0) :
    Calls Try.prog 7 #[.slice A0 l0.length c0] w fun e w' => e = .returned (.bool true) ∧ Below w.heap.size w w' := by
  have d : decide (t < 0) = true := decide_eq_true ht
  have HR := Aside0.mk hr0
  have HC := Aside0.mk hc0
  have HA := Aside0.mk h
  clear hr0 hc0 h ht
  go_enter Try.func7, Try.ntmps7
  go_wp2_with ((with_reducible refine gate_callee (f := 18) rfl ?_); refine goesL_ (some 19) rfl rfl Try.func18 (by kernel_rfl) rfl #[.slice A0 l0.length c0, .int .i64 1048576] rfl (by (try simp only [List.map_toArray, List.map_cons, List.map_nil]); first | done | rfl) ?_; (with_reducible refine (laws_szUnitSS.calls k A0 c0 l0 1048576 t _ HR.out HC.out HA.out).mono ?_); rintro e w' ⟨rfl, ⟨nd, rfl⟩⟩; refine ⟨_, rfl, ?_⟩)
  go_ret
  exact ⟨rfl, pw_below_drewN (Below.refl _ _) _⟩
set_option maxHeartbeats 16000000 in
set_option maxRecDepth 100000 in
theorem laws_FnExactBestJobOrder.long (k : Nat) (A0 : Option Addr) (c0 : Nat) (l0 : List (List S62)) (t : Int) (F : List (List S60)) (R : List Int) (e1 e2 : Int) (m1 m2 : Int) (F' : List (List S60)) (G' : List Int) (w : World) (hr0 : Kd.C (Kd.slice 62 k62) w A0 l0.length l0) (hc0 : l0.length ≤ c0)
    (h1 : laws_szUnitSS.f k l0 1048576 = some t) (ht : ¬ t < 0) (h2 : laws_toUnitSS.f k l0 = some F) (h3 : spec_BestJobOrder.f k F = some (R, e1, e2)) (G : List Int) (h4 : impl_BestJobOrder.f k F = some (G, e1, e2)) (h5 : laws_eqInt64S.f k G R = some true) (h6 : laws_eqUnitSS.f k F F = some true)
    (h7 : laws_markUnitSS.f k F 1 = some (m1, F')) (hm1 : 0 ≤ m1) (h8 : laws_markInt64S.f k G 1 = some (m2, G')) (h9 : laws_heldInt64S.f k G' 1 = some m2) (hm2 : 0 ≤ m2) :
    Calls Try.prog 7 #[.slice A0 l0.length c0] w fun e w' => e = .returned (.bool true) ∧ Below w.heap.size w w' := by
  have d1 : decide (t < 0) = false := decide_eq_false ht
  have d2 : decide (m1 < 0) = false := decide_eq_false (by omega)
  have d3 : decide (m2 < 0) = false := decide_eq_false (by omega)
  have HR := Aside0.mk hr0
  have HC := Aside0.mk hc0
  have H1 := Aside0.mk h1
  have H2 := Aside0.mk h2
  have H3 := Aside0.mk h3
  have H4 := Aside0.mk h4
  have H5 := Aside0.mk h5
  have H6 := Aside0.mk h6
  have H7 := Aside0.mk h7
  have H8 := Aside0.mk h8
  have H9 := Aside0.mk h9
  clear hr0 hc0 h1 h2 h3 h4 h5 h6 h7 h8 h9 ht hm1 hm2
  go_enter Try.func7, Try.ntmps7
  go_upto_region 6 with (first
    | ((with_reducible refine gate_callee (f := 18) rfl ?_); refine goesL_ (some 19) rfl rfl Try.func18 (by kernel_rfl) rfl #[.slice A0 l0.length c0, .int .i64 1048576] rfl (by (try simp only [List.map_toArray, List.map_cons, List.map_nil]); first | done | rfl) ?_; (with_reducible refine (laws_szUnitSS.calls k A0 c0 l0 1048576 t _ HR.out HC.out H1.out).mono ?_); rintro e w' ⟨rfl, ⟨nd, rfl⟩⟩; refine ⟨_, rfl, ?_⟩)
    | ((with_reducible refine gate_callee (f := 20) rfl ?_); refine goesL_ (some 24) rfl rfl Try.func20 (by kernel_rfl) rfl #[.slice A0 l0.length c0] rfl (by (try simp only [List.map_toArray, List.map_cons, List.map_nil]); first | done | rfl) ?_; (with_reducible refine (laws_toUnitSS.calls k A0 c0 l0 F _ (Kd.C_below HR.out (pw_below_drewN (Below.refl _ _) _)) HC.out H2.out).mono ?_); rintro e w1 ⟨v1, rfl, ho, hb⟩; refine ⟨_, rfl, ?_⟩; have B1 := Aside0.mk (below_step (pw_below_drewN (Below.refl w.heap.size w) _) hb); obtain ⟨A3, c3, hev, hl3, hC3⟩ := Kd.S_reads ho; subst hev; have O1 := Aside0.mk hC3; have L1 := Aside0.mk hl3; clear ho hb hl3 hC3)
    | ((with_reducible refine gate_callee (f := 25) rfl ?_); refine goesL_ (some 25) rfl rfl Try.func25 (by kernel_rfl) rfl #[.slice A3 F.length c3] rfl (by (try simp only [List.map_toArray, List.map_cons, List.map_nil]); first | done | rfl) ?_; (with_reducible refine (spec_BestJobOrder.calls k A3 c3 F R e1 e2 _ O1.out L1.out H3.out).mono ?_); rintro e w2 ⟨v2, rfl, ho, hb⟩; refine ⟨_, rfl, ?_⟩; have B2 := Aside0.mk (below_step B1.out hb); obtain ⟨A4, c4, hev, hl4, hC4⟩ := Kd.R_reads ho; subst hev; have W0 := Aside0.mk hC4; have L2 := Aside0.mk hl4; clear ho hb hl4 hC4 B1 O1 L1))
  go_upto_region 8 with (first
    | ((with_reducible refine gate_callee (f := 20) rfl ?_); refine goesL_ (some 30) rfl rfl Try.func20 (by kernel_rfl) rfl #[.slice A0 l0.length c0] rfl (by (try simp only [List.map_toArray, List.map_cons, List.map_nil]); first | done | rfl) ?_; (with_reducible refine (laws_toUnitSS.calls k A0 c0 l0 F _ (Kd.C_below HR.out B2.out) HC.out H2.out).mono ?_); rintro e w3 ⟨v3, rfl, ho, hb⟩; refine ⟨_, rfl, ?_⟩; have B3 := Aside0.mk hb; obtain ⟨A5, c5, hev⟩ := Kd.S_slice ho; subst hev; have X3 := Aside0.mk ho; clear ho hb)
    | ((with_reducible refine gate_callee (f := 26) rfl ?_); refine goesL_ (some 33) rfl rfl Try.func26 (by kernel_rfl) rfl #[.slice A5 F.length c5] rfl (by (try simp only [List.map_toArray, List.map_cons, List.map_nil]); first | done | rfl) ?_; (with_reducible refine (impl_BestJobOrder.calls k A5 c5 F G e1 e2 _ (Kd.S_reads' X3.out).2.2 (Kd.S_reads' X3.out).2.1 H4.out).mono ?_); rintro e w4 ⟨v4, rfl, ho, hb⟩; refine ⟨_, rfl, ?_⟩; have B4 := Aside0.mk (below_step B3.out hb); have X4 := Aside0.mk (Kd.S_mono (ok' := fun k_ => k_ < w3.heap.size) (Kd.S_below (Kd.S_bound X3.out) hb) (fun _ h_ => h_.2.2.1)); have B43 := Aside0.mk B3.out.size; obtain ⟨A6, c6, hev⟩ := Kd.R_slice ho; subst hev; have G4 := Aside0.mk (Kd.R_mono (ok' := fun k_ => w3.heap.size ≤ k_) (Kd.R_bound ho) (fun k_ hk_ => hk_.2.1)); clear ho hb X3 B3))
  go_upto_region 10 with ((with_reducible refine gate_callee (f := 24) rfl ?_); refine goesL_ (some 39) rfl rfl Try.func24 (by kernel_rfl) rfl #[.slice A6 G.length c6, .slice A4 R.length c4] rfl (by (try simp only [List.map_toArray, List.map_cons, List.map_nil]); first | done | rfl) ?_; (with_reducible refine (laws_eqInt64S.calls k A6 c6 G A4 c4 R true _ (Kd.R_reads' G4.out).2.2 (Kd.R_reads' G4.out).2.1 (Kd.C_below W0.out B4.out) L2.out H5.out).mono ?_); rintro e w' ⟨rfl, ⟨nd1, rfl⟩⟩; refine ⟨_, rfl, ?_⟩)
  go_upto_region 14 with (first
    | ((with_reducible refine gate_callee (f := 20) rfl ?_); refine goesL_ (some 53) rfl rfl Try.func20 (by kernel_rfl) rfl #[.slice A0 l0.length c0] rfl (by (try simp only [List.map_toArray, List.map_cons, List.map_nil]); first | done | rfl) ?_; (with_reducible refine (laws_toUnitSS.calls k A0 c0 l0 F _ (Kd.C_drewN (Kd.C_below (Kd.C_below HR.out B2.out) (show Below w2.heap.size w2 w4 from B4.out)) _) HC.out H2.out).mono ?_); rintro e w5 ⟨v5, rfl, ho, hb⟩; refine ⟨_, rfl, ?_⟩; have B5 := Aside0.mk (below_step (pw_below_drewN B4.out _) hb); have X5 := Aside0.mk (Kd.S_below (Kd.S_drewN X4.out _) hb); have G5 := Aside0.mk (Kd.R_below (Kd.R_drewN G4.out _) hb); obtain ⟨A7, c7, hev, hl7, hC7⟩ := Kd.S_reads ho; subst hev; have O5 := Aside0.mk hC7; have L5 := Aside0.mk hl7; clear ho hb hl7 hC7)
    | ((with_reducible refine gate_callee (f := 23) rfl ?_); refine goesL_ (some 54) rfl rfl Try.func23 (by kernel_rfl) rfl #[.slice A5 F.length c5, .slice A7 F.length c7] rfl (by (try simp only [List.map_toArray, List.map_cons, List.map_nil]); first | done | rfl) ?_; (with_reducible refine (laws_eqUnitSS.calls k A5 c5 F A7 c7 F true _ (Kd.S_reads' X5.out).2.2 (Kd.S_reads' X5.out).2.1 O5.out L5.out H6.out).mono ?_); rintro e w6 ⟨rfl, hb⟩; refine ⟨_, rfl, ?_⟩; have B6 := Aside0.mk (below_step B5.out hb); have X6 := Aside0.mk (Kd.S_below X5.out hb); have G6 := Aside0.mk (Kd.R_below G5.out hb); clear hb B4 B5 X4 X5 G4 G5 O5 L5)
    | ((with_reducible refine gate_callee (f := 27) rfl ?_); refine goesL_ (some 58) rfl rfl Try.func27 (by kernel_rfl) rfl #[.slice A5 F.length c5, .int .i64 1] rfl (by (try simp only [List.map_toArray, List.map_cons, List.map_nil]); first | done | rfl) ?_; (with_reducible refine (laws_markUnitSS.calls k (fun k_ => k_ < w3.heap.size) _ F 1 m1 F' w2 _ B6.out X6.out H7.out).mono ?_); rintro e w7 ⟨rfl, hb, hk⟩; refine ⟨_, rfl, ?_⟩; have B7 := Aside0.mk hb; have G7 := Aside0.mk (Kd.R_kept G6.out hk (fun k_ h_ => Nat.not_lt.2 h_)); clear hb hk B6 X6 G6))
  go_upto_region 24 with (first
    | (go_at_call 24; (with_reducible refine (laws_eqInt64S.calls k A6 c6 G A4 c4 R true _ (Kd.R_reads' G7.out).2.2 (Kd.R_reads' G7.out).2.1 (Kd.C_below W0.out B7.out) L2.out H5.out).mono ?_); rintro e w' ⟨rfl, ⟨nd2, rfl⟩⟩)
    | ((with_reducible refine gate_callee (f := 28) rfl ?_); refine goesL_ (some 79) rfl rfl Try.func28 (by kernel_rfl) rfl #[.slice A6 G.length c6, .int .i64 1] rfl (by (try simp only [List.map_toArray, List.map_cons, List.map_nil]); first | done | rfl) ?_; (with_reducible refine (laws_markInt64S.calls k (fun k_ => w3.heap.size ≤ k_) _ G 1 m2 G' w2 _ (pw_below_drewN B7.out _) (Kd.R_drewN (Kd.R_lower G7.out B43.out) _) H8.out).mono ?_); rintro e w8 ⟨rfl, ho, hb, hk⟩; refine ⟨_, rfl, ?_⟩; have B8 := Aside0.mk hb; have G8 := Aside0.mk ho; have LG := Aside0.mk (Kd.R_reads' ho).1; have HC8 := Aside0.mk (show G'.length ≤ c6 from by rw [← LG.out]; exact (Kd.R_reads' ho).2.1); clear ho hb hk B7 G7; rw [LG.out])
    | ((with_reducible refine gate_callee (f := 29) rfl ?_); refine goesL_ (some 82) rfl rfl Try.func29 (by kernel_rfl) rfl #[.slice A6 G'.length c6, .int .i64 1] rfl (by (try simp only [List.map_toArray, List.map_cons, List.map_nil]); first | done | rfl) ?_; (with_reducible refine (laws_heldInt64S.calls k A6 c6 G' 1 m2 _ ((Kd.R_reads' G8.out).2.2) HC8.out H9.out).mono ?_); rintro e w' ⟨rfl, ⟨nd3, rfl⟩⟩; refine ⟨_, rfl, ?_⟩))
  go_upto_region 28 with (first
    | ((with_reducible refine gate_callee (f := 20) rfl ?_); refine goesL_ (some 90) rfl rfl Try.func20 (by kernel_rfl) rfl #[.slice A0 l0.length c0] rfl (by (try simp only [List.map_toArray, List.map_cons, List.map_nil]); first | done | rfl) ?_; (with_reducible refine (laws_toUnitSS.calls k A0 c0 l0 F _ (Kd.C_drewN (Kd.C_below (Kd.C_below HR.out B2.out) B8.out) _) HC.out H2.out).mono ?_); rintro e w9 ⟨v9, rfl, ho, hb⟩; refine ⟨_, rfl, ?_⟩; have B9 := Aside0.mk (below_step (pw_below_drewN B8.out _) hb); have G9 := Aside0.mk (Kd.R_below (Kd.R_drewN G8.out _) hb); obtain ⟨A9, c9, hev, hl9, hC9⟩ := Kd.S_reads ho; subst hev; have O9 := Aside0.mk hC9; have L9 := Aside0.mk hl9; clear ho hb hl9 hC9 B8 G8)
    | ((with_reducible refine gate_callee (f := 26) rfl ?_); refine goesL_ (some 91) rfl rfl Try.func26 (by kernel_rfl) rfl #[.slice A9 F.length c9] rfl (by (try simp only [List.map_toArray, List.map_cons, List.map_nil]); first | done | rfl) ?_; (with_reducible refine (impl_BestJobOrder.calls k A9 c9 F G e1 e2 _ O9.out L9.out H4.out).mono ?_); rintro e w10 ⟨v10, rfl, ho, hb⟩; refine ⟨_, rfl, ?_⟩; have B10 := Aside0.mk (below_step B9.out hb); have G10 := Aside0.mk (Kd.R_below G9.out hb); obtain ⟨A10, c10, hev, hl10, hC10⟩ := Kd.R_reads ho; subst hev; have O10 := Aside0.mk hC10; have L10 := Aside0.mk hl10; clear ho hb hl10 hC10 B9 G9)
    | ((with_reducible refine gate_callee (f := 24) rfl ?_); refine goesL_ (some 97) rfl rfl Try.func24 (by kernel_rfl) rfl #[.slice A10 G.length c10, .slice A4 R.length c4] rfl (by (try simp only [List.map_toArray, List.map_cons, List.map_nil]); first | done | rfl) ?_; (with_reducible refine (laws_eqInt64S.calls k A10 c10 G A4 c4 R true _ O10.out L10.out (Kd.C_below W0.out B10.out) L2.out H5.out).mono ?_); rintro e w' ⟨rfl, ⟨nd4, rfl⟩⟩; refine ⟨_, rfl, ?_⟩))
  go_wp2_with ((with_reducible refine gate_callee (f := 29) rfl ?_); refine goesL_ (some 111) rfl rfl Try.func29 (by kernel_rfl) rfl #[.slice A6 G'.length c6, .int .i64 1] rfl (by (try simp only [List.map_toArray, List.map_cons, List.map_nil]); first | done | rfl) ?_; (with_reducible refine (laws_heldInt64S.calls k A6 c6 G' 1 m2 _ (Kd.C_drewN (Kd.R_reads' G10.out).2.2 _) HC8.out H9.out).mono ?_); rintro e w' ⟨rfl, ⟨nd5, rfl⟩⟩; refine ⟨_, rfl, ?_⟩)
  go_ret
  exact ⟨rfl, B2.out.trans (Below.mono (by repeat (first | exact B10.out | refine pw_below_drewN ?_ _)) B2.out.size)⟩
theorem laws_FnExactBestJobOrder.calls (k : Nat) (A0 : Option Addr) (c0 : Nat) (l0 : List (List S62)) (r : Bool) (w : World) (hr0 : Kd.C (Kd.slice 62 k62) w A0 l0.length l0) (hc0 : l0.length ≤ c0) (hr_ : Aside0 (r = true)) (h : laws_FnExactBestJobOrder.f k l0 = some r) :
    Calls Try.prog 7 #[.slice A0 l0.length c0] w fun e w' => e = .returned (.bool r) ∧ Below w.heap.size w w' := by
  obtain rfl := hr_.out
  unfold laws_FnExactBestJobOrder.f at h
  obtain ⟨t, h1, h⟩ := Option.bind_eq_some_iff.mp h
  by_cases ht : t < 0
  · exact laws_FnExactBestJobOrder.short k A0 c0 l0 t w hr0 hc0 h1 ht
  · rw [if_neg ht] at h
    obtain ⟨F, h2, h⟩ := Option.bind_eq_some_iff.mp h
    obtain ⟨⟨R, e1⟩, h3, h⟩ := Option.bind_eq_some_iff.mp h
    obtain ⟨⟨G, e2⟩, h4, h⟩ := Option.bind_eq_some_iff.mp h
    obtain ⟨t1, h5, h⟩ := Option.bind_eq_some_iff.mp h
    by_cases c1 : t1 = true ∧ e2 = e1
    · obtain ⟨rfl, rfl⟩ := c1
      rw [if_pos ⟨rfl, rfl⟩] at h
      obtain ⟨t2, h6, h⟩ := Option.bind_eq_some_iff.mp h
      by_cases c2' : t2 = true
      · subst c2'
        rw [if_pos rfl] at h
        obtain ⟨⟨m1, F'⟩, h7, h⟩ := Option.bind_eq_some_iff.mp h
        by_cases c3 : 0 ≤ m1
        · rw [if_pos c3] at h
          obtain ⟨⟨m2, G'⟩, h8, h⟩ := Option.bind_eq_some_iff.mp h
          obtain ⟨q, h9, h⟩ := Option.bind_eq_some_iff.mp h
          by_cases c4 : 0 ≤ q ∧ q = m2
          · obtain ⟨c5, rfl⟩ := c4
            obtain ⟨e1, e3⟩ := e2
            exact laws_FnExactBestJobOrder.long k A0 c0 l0 t F R e1 e3 m1 q F' G' w hr0 hc0 h1 ht h2 h3 G h4 h5 h6 h7 c3 h8 h9 c5
          · rw [if_neg c4] at h
            cases h
        · rw [if_neg c3] at h
          cases h
      · rw [if_neg c2'] at h
        cases h
    · rw [if_neg c1] at h
      cases h

end Go.Proofs.Ytpndkekgoadjkaa.PFnExactBestJobOrder
