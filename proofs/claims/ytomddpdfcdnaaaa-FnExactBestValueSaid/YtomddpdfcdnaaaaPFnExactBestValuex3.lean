-- Written by a program of this session.
import Derived.Test.YtomddpdfcdnaaaaPFnExactBestValuex0
import Derived.Test.YtomddpdfcdnaaaaPFnExactBestValuex1
import Derived.Test.YtomddpdfcdnaaaaPFnExactBestValuex2
import Derived.StillTactics
namespace Go.Proofs.Ytomddpdfcdnaaaa.PFnExactBestValue
open Go.RowKit Go.Proofs.YtomddpdfcdnaaaaW.PrintWords Go.Proofs.YtomddpdfcdnaaaaW.PrintLast Go.Proofs.YtomddpdfcdnaaaaW.PrintMore
attribute [local go_sem] max2_int min2_int max_two min_two max_three min_three max_four min_four   -- for this text's walks alone
set_option linter.unusedVariables false
set_option linter.unusedSimpArgs false

/-! ### impl_checkTable: function 14 -/
def impl_checkTable.f (a0 : Int) (a1 : Int) (l2 : List (S34)) : Option (Int) := (impl_IsCatalogue.f l2).bind fun t135 => (if t135 = true then ((impl_inRange.f a0 1 40).bind fun t136 => (if t136 = true then ((impl_inRange.f a1 1 40).bind fun t137 => (if t137 = true then (some 0) else (some 2))) else (some 2))) else (some 1))
set_option maxHeartbeats 8000000 in
set_option maxRecDepth 100000 in
theorem impl_checkTable.calls (a0 : Int) (a1 : Int) (A2 : Option Addr) (c2 : Nat) (l2 : List (S34)) (r : Int) (w : World) (hr2 : Kd.C k34 w A2 l2.length l2) (hc2 : l2.length ≤ c2) (h : impl_checkTable.f a0 a1 l2 = some r) :
    Calls Try.prog 14 #[.int .i64 a0, .int .i64 a1, .slice A2 l2.length c2] w fun e w' => e = .returned (.int .i64 r) ∧ Below w.heap.size w w' := by
  have HR2 := Aside0.mk hr2
  have HC2 := Aside0.mk hc2
  clear hr2 hc2
  have HB := Aside0.mk (Below.refl w.heap.size w)
  have H : ((impl_IsCatalogue.f l2).bind fun t135 => (if t135 = true then ((impl_inRange.f a0 1 40).bind fun t136 => (if t136 = true then ((impl_inRange.f a1 1 40).bind fun t137 => (if t137 = true then (some 0) else (some 2))) else (some 2))) else (some 1))) = some r := h
  clear h
  replace H := Option.bind_eq_some_iff.mp H
  obtain ⟨t135, A40, H⟩ := H
  replace H : (if t135 = true then ((impl_inRange.f a0 1 40).bind fun t136 => (if t136 = true then ((impl_inRange.f a1 1 40).bind fun t137 => (if t137 = true then (some 0) else (some 2))) else (some 2))) else (some 1)) = some r := H
  have A4 := Aside0.mk A40
  clear A40
  by_cases c5 : t135 = true
  · subst c5
    have H1 : ((impl_inRange.f a0 1 40).bind fun t136 => (if t136 = true then ((impl_inRange.f a1 1 40).bind fun t137 => (if t137 = true then (some 0) else (some 2))) else (some 2))) = some r := by rw [if_pos rfl] at H; exact H
    clear H
    have H := H1
    clear H1
    replace H := Option.bind_eq_some_iff.mp H
    obtain ⟨t136, A60, H⟩ := H
    replace H : (if t136 = true then ((impl_inRange.f a1 1 40).bind fun t137 => (if t137 = true then (some 0) else (some 2))) else (some 2)) = some r := H
    have A6 := Aside0.mk A60
    clear A60
    by_cases c7 : t136 = true
    · subst c7
      have H1 : ((impl_inRange.f a1 1 40).bind fun t137 => (if t137 = true then (some 0) else (some 2))) = some r := by rw [if_pos rfl] at H; exact H
      clear H
      have H := H1
      clear H1
      replace H := Option.bind_eq_some_iff.mp H
      obtain ⟨t137, A80, H⟩ := H
      replace H : (if t137 = true then (some 0) else (some 2)) = some r := H
      have A8 := Aside0.mk A80
      clear A80
      by_cases c9 : t137 = true
      · subst c9
        have H1 : (some 0) = some r := by rw [if_pos rfl] at H; exact H
        clear H
        have H := H1
        clear H1
        obtain rfl := Option.some.inj H
        go_enter Try.func14, Try.ntmps14
        go_wp2_with (first | ((with_reducible refine gate_callee (f := 20) rfl ?_); refine goesL_ (some 9) rfl rfl Try.func20 (by kernel_rfl) rfl #[.slice A2 l2.length c2] rfl (by (try simp only [List.map_toArray, List.map_cons, List.map_nil]); first | done | rfl | (simp only [List.length_drop, List.length_take]; rfl)) ?_; (with_reducible refine (impl_IsCatalogue.calls _ _ l2 true _ ?side1 ?side2 A4.out).mono ?_); (case side1 => repeat (first | exact HR2.out | (with_reducible refine Kd.C_alloc ?_ _) | (with_reducible refine Kd.C_drewN ?_ _) | (with_reducible refine Kd.C_drew ?_))); (case side2 => exact HC2.out); rintro e w10 ⟨rfl, hb⟩; refine ⟨_, rfl, ?_⟩; have n0_ := Aside0.mk (below_step (by repeat (first | (with_reducible first | exact HB.out | apply below_alloc | apply pw_below_drewN | apply below_drew1) | exact HB.out)) hb); clear HB; have HB := n0_; clear n0_; (try clear hb); (try clear hb2); (try clear hk); (try clear hi)) | ((with_reducible refine gate_callee (f := 21) rfl ?_); refine goesL_ (some 13) rfl rfl Try.func21 (by kernel_rfl) rfl #[.int .i64 a0, .int .i64 1, .int .i64 40] rfl (by (try simp only [List.map_toArray, List.map_cons, List.map_nil]); first | done | rfl | (simp only [List.length_drop, List.length_take]; rfl)) ?_; (with_reducible refine (impl_inRange.calls a0 1 40 true _ A6.out).mono ?_); rintro e w' ⟨rfl, ⟨nd, rfl⟩⟩; refine ⟨_, rfl, ?_⟩) | (go_at_call 21; (with_reducible refine (impl_inRange.calls a1 1 40 true _ A8.out).mono ?_); rintro e w' ⟨rfl, ⟨nd, rfl⟩⟩))
        go_ret
        exact ⟨by first | rfl | (simp [errW_none, errW_some] <;> rfl) | (simp [*, errW_none, errW_some] <;> rfl), by repeat (first | (with_reducible first | exact HB.out | apply below_alloc | apply pw_below_drewN | apply below_drew1) | exact HB.out)⟩
      · replace c9 := Bool.eq_false_iff.mpr c9
        subst c9
        have H1 : (some 2) = some r := by rw [if_neg (show ¬ (false = true) by decide)] at H; exact H
        clear H
        have H := H1
        clear H1
        obtain rfl := Option.some.inj H
        go_enter Try.func14, Try.ntmps14
        go_wp2_with (first | ((with_reducible refine gate_callee (f := 20) rfl ?_); refine goesL_ (some 9) rfl rfl Try.func20 (by kernel_rfl) rfl #[.slice A2 l2.length c2] rfl (by (try simp only [List.map_toArray, List.map_cons, List.map_nil]); first | done | rfl | (simp only [List.length_drop, List.length_take]; rfl)) ?_; (with_reducible refine (impl_IsCatalogue.calls _ _ l2 true _ ?side1 ?side2 A4.out).mono ?_); (case side1 => repeat (first | exact HR2.out | (with_reducible refine Kd.C_alloc ?_ _) | (with_reducible refine Kd.C_drewN ?_ _) | (with_reducible refine Kd.C_drew ?_))); (case side2 => exact HC2.out); rintro e w11 ⟨rfl, hb⟩; refine ⟨_, rfl, ?_⟩; have n0_ := Aside0.mk (below_step (by repeat (first | (with_reducible first | exact HB.out | apply below_alloc | apply pw_below_drewN | apply below_drew1) | exact HB.out)) hb); clear HB; have HB := n0_; clear n0_; (try clear hb); (try clear hb2); (try clear hk); (try clear hi)) | ((with_reducible refine gate_callee (f := 21) rfl ?_); refine goesL_ (some 13) rfl rfl Try.func21 (by kernel_rfl) rfl #[.int .i64 a0, .int .i64 1, .int .i64 40] rfl (by (try simp only [List.map_toArray, List.map_cons, List.map_nil]); first | done | rfl | (simp only [List.length_drop, List.length_take]; rfl)) ?_; (with_reducible refine (impl_inRange.calls a0 1 40 true _ A6.out).mono ?_); rintro e w' ⟨rfl, ⟨nd, rfl⟩⟩; refine ⟨_, rfl, ?_⟩) | (go_at_call 21; (with_reducible refine (impl_inRange.calls a1 1 40 false _ A8.out).mono ?_); rintro e w' ⟨rfl, ⟨nd, rfl⟩⟩))
        go_ret
        exact ⟨by first | rfl | (simp [errW_none, errW_some] <;> rfl) | (simp [*, errW_none, errW_some] <;> rfl), by repeat (first | (with_reducible first | exact HB.out | apply below_alloc | apply pw_below_drewN | apply below_drew1) | exact HB.out)⟩
    · replace c7 := Bool.eq_false_iff.mpr c7
      subst c7
      have H1 : (some 2) = some r := by rw [if_neg (show ¬ (false = true) by decide)] at H; exact H
      clear H
      have H := H1
      clear H1
      obtain rfl := Option.some.inj H
      go_enter Try.func14, Try.ntmps14
      go_wp2_with (first | ((with_reducible refine gate_callee (f := 20) rfl ?_); refine goesL_ (some 9) rfl rfl Try.func20 (by kernel_rfl) rfl #[.slice A2 l2.length c2] rfl (by (try simp only [List.map_toArray, List.map_cons, List.map_nil]); first | done | rfl | (simp only [List.length_drop, List.length_take]; rfl)) ?_; (with_reducible refine (impl_IsCatalogue.calls _ _ l2 true _ ?side1 ?side2 A4.out).mono ?_); (case side1 => repeat (first | exact HR2.out | (with_reducible refine Kd.C_alloc ?_ _) | (with_reducible refine Kd.C_drewN ?_ _) | (with_reducible refine Kd.C_drew ?_))); (case side2 => exact HC2.out); rintro e w12 ⟨rfl, hb⟩; refine ⟨_, rfl, ?_⟩; have n0_ := Aside0.mk (below_step (by repeat (first | (with_reducible first | exact HB.out | apply below_alloc | apply pw_below_drewN | apply below_drew1) | exact HB.out)) hb); clear HB; have HB := n0_; clear n0_; (try clear hb); (try clear hb2); (try clear hk); (try clear hi)) | ((with_reducible refine gate_callee (f := 21) rfl ?_); refine goesL_ (some 13) rfl rfl Try.func21 (by kernel_rfl) rfl #[.int .i64 a0, .int .i64 1, .int .i64 40] rfl (by (try simp only [List.map_toArray, List.map_cons, List.map_nil]); first | done | rfl | (simp only [List.length_drop, List.length_take]; rfl)) ?_; (with_reducible refine (impl_inRange.calls a0 1 40 false _ A6.out).mono ?_); rintro e w' ⟨rfl, ⟨nd, rfl⟩⟩; refine ⟨_, rfl, ?_⟩))
      go_ret
      exact ⟨by first | rfl | (simp [errW_none, errW_some] <;> rfl) | (simp [*, errW_none, errW_some] <;> rfl), by repeat (first | (with_reducible first | exact HB.out | apply below_alloc | apply pw_below_drewN | apply below_drew1) | exact HB.out)⟩
  · replace c5 := Bool.eq_false_iff.mpr c5
    subst c5
    have H1 : (some 1) = some r := by rw [if_neg (show ¬ (false = true) by decide)] at H; exact H
    clear H
    have H := H1
    clear H1
    obtain rfl := Option.some.inj H
    go_enter Try.func14, Try.ntmps14
    go_wp2_with (first | ((with_reducible refine gate_callee (f := 20) rfl ?_); refine goesL_ (some 9) rfl rfl Try.func20 (by kernel_rfl) rfl #[.slice A2 l2.length c2] rfl (by (try simp only [List.map_toArray, List.map_cons, List.map_nil]); first | done | rfl | (simp only [List.length_drop, List.length_take]; rfl)) ?_; (with_reducible refine (impl_IsCatalogue.calls _ _ l2 false _ ?side1 ?side2 A4.out).mono ?_); (case side1 => repeat (first | exact HR2.out | (with_reducible refine Kd.C_alloc ?_ _) | (with_reducible refine Kd.C_drewN ?_ _) | (with_reducible refine Kd.C_drew ?_))); (case side2 => exact HC2.out); rintro e w13 ⟨rfl, hb⟩; refine ⟨_, rfl, ?_⟩; have n0_ := Aside0.mk (below_step (by repeat (first | (with_reducible first | exact HB.out | apply below_alloc | apply pw_below_drewN | apply below_drew1) | exact HB.out)) hb); clear HB; have HB := n0_; clear n0_; (try clear hb); (try clear hb2); (try clear hk); (try clear hi)))
    go_ret
    exact ⟨by first | rfl | (simp [errW_none, errW_some] <;> rfl) | (simp [*, errW_none, errW_some] <;> rfl), by repeat (first | (with_reducible first | exact HB.out | apply below_alloc | apply pw_below_drewN | apply below_drew1) | exact HB.out)⟩

/-! ### impl_valuesOf: function 17, by a template of this session -/
theorem impl_valuesOf.zero (w : World) : (zeroValue 48).run Try.prog w = .ok (.agg (Array.replicate 1681 (.int .i64 0))) w := by kernel_rfl
def impl_valuesOf.cx (t : List Int) (w h : Nat) (b : Int) : Nat → Int
  | 0 => b
  | n + 1 => max (impl_valuesOf.cx t w h b n) (wrap64 (rd t (((n + 1) * 41 + h : Nat) : Int) + rd t (((w - (n + 1)) * 41 + h : Nat) : Int)))
def impl_valuesOf.cy (t : List Int) (w h : Nat) (b : Int) : Nat → Int
  | 0 => b
  | n + 1 => max (impl_valuesOf.cy t w h b n) (wrap64 (rd t ((w * 41 + (n + 1) : Nat) : Int) + rd t ((w * 41 + (h - (n + 1)) : Nat) : Int)))
def impl_valuesOf.best (t : List Int) (l : List S34) (w h : Nat) : Int := impl_valuesOf.cy t w h (impl_valuesOf.cx t w h (l12Kd l w h l.length) (w - 1)) (h - 1)
def impl_valuesOf.row (t : List Int) (l : List S34) (w : Nat) : Nat → List Int
  | 0 => t
  | n + 1 => (impl_valuesOf.row t l w n).set (w * 41 + (n + 1)) (impl_valuesOf.best (impl_valuesOf.row t l w n) l w (n + 1))
def impl_valuesOf.tab (l : List S34) (H : Nat) : Nat → List Int
  | 0 => List.replicate 1681 0
  | n + 1 => impl_valuesOf.row (impl_valuesOf.tab l H n) l (n + 1) H
/-- The table lies at g. -/
structure impl_valuesOf.Is (w : World) (g : Nat) (t : List Int) : Prop where
  blk : w.heap[g]? = some (.cells (t.map (Value.int .i64)).toArray 48 (0, 0))
  len : t.length = 1681
theorem impl_valuesOf.Is.cell {w : World} {g : Nat} {t : List Int} (h : impl_valuesOf.Is w g t) (i : Nat) (hi : i < 1681) : w.cell? ⟨g, i, none⟩ = some (.int .i64 (rd t (i : Int))) := by
  rw [blk_cell h.blk i]
  have := h.len
  simp [rd, List.getD_eq_getElem?_getD, List.getElem?_eq_getElem (show i < t.length by omega)]
theorem impl_valuesOf.Is.set {w : World} {g : Nat} {t : List Int} (h : impl_valuesOf.Is w g t) (i : Nat) (v : Int) : impl_valuesOf.Is (w.setCell ⟨g, i, none⟩ (.int .i64 v)) g (t.set i v) :=
  ⟨blk_put h.blk i (.int .i64 v) (by simp [List.map_set]), by rw [List.length_set]; exact h.len⟩
theorem impl_valuesOf.Is.below {w W : World} {g : Nat} {t : List Int} (h : impl_valuesOf.Is w g t) (hb : Below w.heap.size w W) : impl_valuesOf.Is W g t :=
  ⟨(hb.block g (blk_lt h.blk)).trans h.blk, h.len⟩
set_option maxHeartbeats 4000000 in
set_option maxRecDepth 100000 in
theorem impl_valuesOf.calls (A2 : Option Addr) (c2 : Nat) (l2 : List S34) (W H : Nat) (w : World) (hW : W ≤ 40) (hH : H ≤ 40) (hr2 : Kd.C k34 w A2 l2.length l2) (hc2 : l2.length ≤ c2) (hl : l2.length ≤ 1000000) :
    Calls Try.prog 17 #[.int .i64 W, .int .i64 H, .slice A2 l2.length c2] w fun e w' => ∃ g, e = .returned (.pointer (some ⟨g, 0, none⟩)) ∧ w.heap.size ≤ g ∧ impl_valuesOf.Is w' g (impl_valuesOf.tab l2 H W) ∧ Below w.heap.size w w' := by
  have mixed : Try.prog.follows .mixedOrders = true := by kernel_rfl
  have hz := impl_valuesOf.zero
  obtain ⟨Z, hZ⟩ : ∃ Z : Array Value, Z = Array.replicate 1681 (.int .i64 0) := ⟨_, rfl⟩
  rw [← hZ] at hz
  have HZ := Aside0.mk hZ
  have HR2 := Aside0.mk hr2
  clear hZ hr2
  go_enter Try.func17, Try.ntmps17
  go_wp2
  have HI := Aside0.mk (show impl_valuesOf.Is (w.alloc (.cells Z 48)) w.heap.size (impl_valuesOf.tab l2 H 0) from ⟨by rw [heap_alloc_new, HZ.out, impl_valuesOf.tab, List.map_replicate, List.toArray_replicate], List.length_replicate⟩)
  have HB := Aside0.mk (show Below w.heap.size w (w.alloc (.cells Z 48)) from below_alloc (Below.refl _ _) _)
  clear hz
  obtain ⟨g, hg⟩ : ∃ g, g = w.heap.size := ⟨_, rfl⟩
  have HG := Aside0.mk hg
  generalize w.alloc (.cells Z 48) = w1 at HI HB ⊢
  rw [← hg] at HI ⊢
  clear hg HZ
  go_loopg [8] W (fun gg s8 wr => ∃ i : Nat, s8 = .int .i64 ((i : Int) + 1) ∧ Aside0 (i + gg = W) ∧ Aside0 (impl_valuesOf.Is wr g (impl_valuesOf.tab l2 H i)) ∧ Aside0 (Below w.heap.size w wr))
  case atStart => exact ⟨0, rfl, ⟨by omega⟩, HI, HB⟩
  case round =>
    clear HI HB
    obtain ⟨i, rfl, HN, HI, HB⟩ := hrel
    cases gk with
    | zero =>
      have hiW : i = W := by have := HN.out; omega
      subst hiW
      have cb : decide ((i : Int) + 1 ≤ (i : Int)) = false := decide_eq_false (by omega)
      go_wp2
      go_ret
      exact ⟨g, rfl, by rw [HG.out]; exact Nat.le_refl _, HI.out, HB.out⟩
    | succ k1 =>
      have hi : i < W := by have := HN.out; omega
      have cb : decide ((i : Int) + 1 ≤ (W : Int)) = true := decide_eq_true (by omega)
      go_wp2
      go_loopg [9] H (fun gg s9 wr => ∃ j : Nat, s9 = .int .i64 ((j : Int) + 1) ∧ Aside0 (j + gg = H) ∧ Aside0 (impl_valuesOf.Is wr g (impl_valuesOf.row (impl_valuesOf.tab l2 H i) l2 (i + 1) j)) ∧ Aside0 (Below w.heap.size w wr))
      case atStart => exact ⟨0, rfl, ⟨by omega⟩, HI, HB⟩
      case round =>
        clear HI HB
        obtain ⟨j, rfl, HM, HI, HB⟩ := hrel
        cases gk with
        | zero =>
          have hj : j = H := by have := HM.out; omega
          subst hj
          have cj : decide ((j : Int) + 1 ≤ (j : Int)) = false := decide_eq_false (by omega)
          go_wp2
          go_roundg k1
          case measure => omega
          case rel => exact ⟨i + 1, by first | rfl | (congr 1; omega), ⟨by have := HN.out; omega⟩, HI, HB⟩
        | succ k2 =>
          have hj : j < H := by have := HM.out; omega
          have cj : decide ((j : Int) + 1 ≤ (H : Int)) = true := decide_eq_true (by omega)
          go_wp2
          go_loopg [29, 10] l2.length (fun gg s29 s10 wr => ∃ n : Nat, s29 = .int .i64 (n : Int) ∧ s10 = .int .i64 (l12Kd l2 ((i : Int) + 1) ((j : Int) + 1) n) ∧ Aside0 (n + gg = l2.length) ∧ Aside0 (impl_valuesOf.Is wr g (impl_valuesOf.row (impl_valuesOf.tab l2 H i) l2 (i + 1) j)) ∧ Aside0 (Below w.heap.size w wr))
          case atStart => exact ⟨0, rfl, rfl, ⟨by omega⟩, HI, HB⟩
          case round =>
            clear HI HB
            obtain ⟨n, rfl, rfl, HQ, HI, HB⟩ := hrel
            cases gk with
            | zero =>
              have hn : n = l2.length := by have := HQ.out; omega
              subst hn
              have cn : decide (((l2.length : Nat) : Int) < ((l2.length : Nat) : Int)) = false := decide_eq_false (by omega)
              go_wp2
              clear HQ
              generalize hb0 : l12Kd l2 ((i : Int) + 1) ((j : Int) + 1) l2.length = b0
              generalize ht0 : impl_valuesOf.row (impl_valuesOf.tab l2 H i) l2 (i + 1) j = t0 at HI ⊢
              go_loopg [13, 10] i (fun gg s13 s10 wr => ∃ x : Nat, s13 = .int .i64 ((x : Int) + 1) ∧ s10 = .int .i64 (impl_valuesOf.cx t0 (i + 1) (j + 1) b0 x) ∧ Aside0 (x + gg = i) ∧ Aside0 (impl_valuesOf.Is wr g t0) ∧ Aside0 (Below w.heap.size w wr))
              case atStart => exact ⟨0, rfl, rfl, ⟨by omega⟩, HI, HB⟩
              case round =>
                clear HI HB
                obtain ⟨x, rfl, rfl, HX, HI, HB⟩ := hrel
                cases gk with
                | zero =>
                  have hx : i = x := by have := HX.out; omega
                  subst hx
                  have cx : decide ((i : Int) + 1 < (i : Int) + 1) = false := decide_eq_false (by omega)
                  go_wp2
                  clear HX
                  generalize hb1 : impl_valuesOf.cx t0 (i + 1) (j + 1) b0 i = b1
                  go_loopg [14, 10] j (fun gg s14 s10 wr => ∃ y : Nat, s14 = .int .i64 ((y : Int) + 1) ∧ s10 = .int .i64 (impl_valuesOf.cy t0 (i + 1) (j + 1) b1 y) ∧ Aside0 (y + gg = j) ∧ Aside0 (impl_valuesOf.Is wr g t0) ∧ Aside0 (Below w.heap.size w wr))
                  case atStart => exact ⟨0, rfl, rfl, ⟨by omega⟩, HI, HB⟩
                  case round =>
                    clear HI HB
                    obtain ⟨y, rfl, rfl, HY, HI, HB⟩ := hrel
                    cases gk with
                    | zero =>
                      have hy : j = y := by have := HY.out; omega
                      subst hy
                      have cy : decide ((j : Int) + 1 < (j : Int) + 1) = false := decide_eq_false (by omega)
                      have pi : (0 ≤ (i : Int) + 1 ∧ (i : Int) + 1 < 41) = True := eq_true ⟨by omega, by omega⟩
                      have pj : (0 ≤ (j : Int) + 1 ∧ (j : Int) + 1 < 41) = True := eq_true ⟨by omega, by omega⟩
                      have hcS := HI.out.cell ((i + 1) * 41 + (j + 1)) (by omega)
                      have hfS := blk_frozen HI.out.blk ((i + 1) * 41 + (j + 1))
                      go_wp2
                      go_roundg k2
                      case measure => omega
                      case rel => exact ⟨j + 1, rfl, ⟨by have := HM.out; omega⟩, ⟨by
                        have hs := HI.out.set ((i + 1) * 41 + (j + 1)) (impl_valuesOf.cy t0 (i + 1) (j + 1) b1 j)
                        rw [impl_valuesOf.row, ht0]
                        have e : impl_valuesOf.best t0 l2 (i + 1) (j + 1) = impl_valuesOf.cy t0 (i + 1) (j + 1) b1 j := by
                          unfold impl_valuesOf.best
                          rw [← hb1, ← hb0]
                          rfl
                        rw [e]
                        exact hs⟩, ⟨HB.out.setCell (by show w.heap.size ≤ g; rw [HG.out]; exact Nat.le_refl _) _⟩⟩
                    | succ k5 =>
                      have hy : y < j := by have := HY.out; omega
                      have cy : decide ((y : Int) + 1 < (j : Int) + 1) = true := decide_eq_true (by omega)
                      go_wp2
                      have pi : (0 ≤ (i : Int) + 1 ∧ (i : Int) + 1 < 41) = True := eq_true ⟨by omega, by omega⟩
                      have py : (0 ≤ (y : Int) + 1 ∧ (y : Int) + 1 < 41) = True := eq_true ⟨by omega, by omega⟩
                      have hsub : (j : Int) + 1 - ((y : Int) + 1) = ((j - y : Nat) : Int) := by omega
                      have ps : (0 ≤ ((j - y : Nat) : Int) ∧ ((j - y : Nat) : Int) < 41) = True := eq_true ⟨by omega, by omega⟩
                      have ps2 : (j - y < 41) = True := eq_true (by omega)
                      have ps3 : (((j - y : Nat) : Int) < 41) = True := eq_true (by omega)
                      have hwr : IntKind.i64.wrap ((j - y : Nat) : Int) = ((j - y : Nat) : Int) := by rw [i64_w]; unfold wrap64; omega
                      have hcA := show wr.drew.cell? ⟨g, (i + 1) * 41 + (y + 1), none⟩ = _ from HI.out.cell ((i + 1) * 41 + (y + 1)) (by omega)
                      have hcB := show wr.drew.cell? ⟨g, (i + 1) * 41 + (j - y), none⟩ = _ from HI.out.cell ((i + 1) * 41 + (j - y)) (by omega)
                      refine wp_region_still_lit mixed (by kernel_rfl) ?_
                      repeat still_step
                      refine wpStill_nil ?_
                      change Exit.inBlock _ _ _ _ wr.drew
                      have HI2 := Aside0.mk (HI.out.below (below_drew (Below.refl _ _)))
                      have HB2 := Aside0.mk (below_drew1 HB.out)
                      generalize wr.drew = wr2 at HI2 HB2 ⊢
                      have hcy : impl_valuesOf.cy t0 (i + 1) (j + 1) b1 (y + 1) = max (impl_valuesOf.cy t0 (i + 1) (j + 1) b1 y) (IntKind.i64.wrap (rd t0 (((i : Int) + 1) * 41 + ((y : Int) + 1)) + rd t0 (((i : Int) + 1) * 41 + ((j - y : Nat) : Int)))) := by
                        rw [impl_valuesOf.cy, i64_w, show j + 1 - (y + 1) = j - y by omega]
                        rfl
                      go_wp2
                      all_goals
                        go_roundg k5
                        case measure => omega
                        case rel => exact ⟨y + 1, rfl, by rw [hcy]; congr 1; omega, ⟨by have := HY.out; omega⟩, HI2, HB2⟩
                | succ k4 =>
                  have hx : x < i := by have := HX.out; omega
                  have cx : decide ((x : Int) + 1 < (i : Int) + 1) = true := decide_eq_true (by omega)
                  go_wp2
                  have px : (0 ≤ (x : Int) + 1 ∧ (x : Int) + 1 < 41) = True := eq_true ⟨by omega, by omega⟩
                  have pj : (0 ≤ (j : Int) + 1 ∧ (j : Int) + 1 < 41) = True := eq_true ⟨by omega, by omega⟩
                  have hsub : (i : Int) + 1 - ((x : Int) + 1) = ((i - x : Nat) : Int) := by omega
                  have ps : (0 ≤ ((i - x : Nat) : Int) ∧ ((i - x : Nat) : Int) < 41) = True := eq_true ⟨by omega, by omega⟩
                  have ps2 : (i - x < 41) = True := eq_true (by omega)
                  have ps3 : (((i - x : Nat) : Int) < 41) = True := eq_true (by omega)
                  have hwr : IntKind.i64.wrap ((i - x : Nat) : Int) = ((i - x : Nat) : Int) := by rw [i64_w]; unfold wrap64; omega
                  have hcA := show wr.drew.cell? ⟨g, (x + 1) * 41 + (j + 1), none⟩ = _ from HI.out.cell ((x + 1) * 41 + (j + 1)) (by omega)
                  have hcB := show wr.drew.cell? ⟨g, (i - x) * 41 + (j + 1), none⟩ = _ from HI.out.cell ((i - x) * 41 + (j + 1)) (by omega)
                  refine wp_region_still_lit mixed (by kernel_rfl) ?_
                  repeat still_step
                  refine wpStill_nil ?_
                  change Exit.inBlock _ _ _ _ wr.drew
                  have HI2 := Aside0.mk (HI.out.below (below_drew (Below.refl _ _)))
                  have HB2 := Aside0.mk (below_drew1 HB.out)
                  generalize wr.drew = wr2 at HI2 HB2 ⊢
                  have hcx : impl_valuesOf.cx t0 (i + 1) (j + 1) b0 (x + 1) = max (impl_valuesOf.cx t0 (i + 1) (j + 1) b0 x) (IntKind.i64.wrap (rd t0 (((x : Int) + 1) * 41 + ((j : Int) + 1)) + rd t0 (((i - x : Nat) : Int) * 41 + ((j : Int) + 1)))) := by
                    rw [impl_valuesOf.cx, i64_w, show i + 1 - (x + 1) = i - x by omega]
                    rfl
                  go_wp2
                  all_goals
                    go_roundg k4
                    case measure => omega
                    case rel => exact ⟨x + 1, rfl, by rw [hcx]; congr 1; omega, ⟨by have := HX.out; omega⟩, HI2, HB2⟩
            | succ k3 =>
              have hn : n < l2.length := by have := HQ.out; omega
              have cn : decide ((n : Int) < ((l2.length : Nat) : Int)) = true := decide_eq_true (by omega)
              obtain ⟨ad, e1, hx0, hx1, hx2⟩ := at_T34 HR2.out (n : Int) (by omega) (by omega)
              subst e1
              replace hx0 := (HB.out.cell (World.block_lt_of_cell? _ _ hx0)).trans hx0
              replace hx1 := (HB.out.cell (World.block_lt_of_cell? _ _ hx1)).trans hx1
              replace hx2 := (HB.out.cell (World.block_lt_of_cell? _ _ hx2)).trans hx2
              have p1 : (0 ≤ (n : Int)) = True := eq_true (by omega)
              have hkd := l12Kd_step l2 ((i : Int) + 1) ((j : Int) + 1) n hn
              simp only [Int.toNat_natCast] at hx0 hx1 hx2
              generalize rd_T34 l2 (n : Int) = x at hx0 hx1 hx2 hkd
              by_cases c0 : x.f0 ≤ (i : Int) + 1
              · have c0b : decide (x.f0 ≤ (i : Int) + 1) = true := decide_eq_true c0
                by_cases c1 : x.f1 ≤ (j : Int) + 1
                · have c1b : decide (x.f1 ≤ (j : Int) + 1) = true := decide_eq_true c1
                  rw [if_pos c0, if_pos c1] at hkd
                  go_wp2
                  all_goals
                    go_roundg k3
                    case measure => omega
                    case rel =>
                      have HB2 := Aside0.mk (show Below wr.heap.size wr (wr.alloc (Obj.cells #[Value.int IntKind.i64 x.f0, Value.int IntKind.i64 x.f1, Value.int IntKind.i64 x.f2] 34)) from below_alloc (Below.refl _ _) _)
                      exact ⟨n + 1, rfl, by rw [hkd]; congr 1; omega, ⟨by have := HQ.out; omega⟩, ⟨HI.out.below HB2.out⟩, ⟨HB.out.trans (HB2.out.mono HB.out.size)⟩⟩
                · have c1b : decide (x.f1 ≤ (j : Int) + 1) = false := decide_eq_false c1
                  rw [if_pos c0, if_neg c1] at hkd
                  go_wp2
                  go_roundg k3
                  case measure => omega
                  case rel =>
                    have HB2 := Aside0.mk (show Below wr.heap.size wr (wr.alloc (Obj.cells #[Value.int IntKind.i64 x.f0, Value.int IntKind.i64 x.f1, Value.int IntKind.i64 x.f2] 34)) from below_alloc (Below.refl _ _) _)
                    exact ⟨n + 1, rfl, by rw [hkd], ⟨by have := HQ.out; omega⟩, ⟨HI.out.below HB2.out⟩, ⟨HB.out.trans (HB2.out.mono HB.out.size)⟩⟩
              · have c0b : decide (x.f0 ≤ (i : Int) + 1) = false := decide_eq_false c0
                rw [if_neg c0] at hkd
                go_wp2
                go_roundg k3
                case measure => omega
                case rel =>
                  have HB2 := Aside0.mk (show Below wr.heap.size wr (wr.alloc (Obj.cells #[Value.int IntKind.i64 x.f0, Value.int IntKind.i64 x.f1, Value.int IntKind.i64 x.f2] 34)) from below_alloc (Below.refl _ _) _)
                  exact ⟨n + 1, rfl, by rw [hkd], ⟨by have := HQ.out; omega⟩, ⟨HI.out.below HB2.out⟩, ⟨HB.out.trans (HB2.out.mono HB.out.size)⟩⟩

/-! ### impl_BestValue: function 11, by a template of this session -/
def impl_BestValue.f (a0 : Int) (a1 : Int) (l2 : List S34) : Option (Int × Int) := (impl_checkTable.f a0 a1 l2).bind fun c => if c = 0 then (if 0 ≤ a0 ∧ a0 ≤ 40 ∧ 0 ≤ a1 ∧ a1 ≤ 40 ∧ l2.length ≤ 1000000 then some (rd (impl_valuesOf.tab l2 a1.toNat a0.toNat) ((a0.toNat * 41 + a1.toNat : Nat) : Int), 0) else none) else some (0, c)
set_option maxHeartbeats 4000000 in
set_option maxRecDepth 100000 in
theorem impl_BestValue.calls (a0 : Int) (a1 : Int) (A2 : Option Addr) (c2 : Nat) (l2 : List S34) (r1 : Int) (r2 : Int) (w : World) (hr2 : Kd.C k34 w A2 l2.length l2) (hc2 : l2.length ≤ c2) (h : impl_BestValue.f a0 a1 l2 = some (r1, r2)) :
    Calls Try.prog 11 #[.int .i64 a0, .int .i64 a1, .slice A2 l2.length c2] w fun e w' => e = .returned (.tuple #[.int .i64 r1, .int .i64 r2]) ∧ Below w.heap.size w w' := by
  unfold impl_BestValue.f at h
  obtain ⟨c, A1, h⟩ := Option.bind_eq_some_iff.mp h
  have HR2 := Aside0.mk hr2
  have A1 := Aside0.mk A1
  clear hr2
  by_cases hc : c = 0
  · rw [if_pos hc] at h
    subst hc
    by_cases hd : 0 ≤ a0 ∧ a0 ≤ 40 ∧ 0 ≤ a1 ∧ a1 ≤ 40 ∧ l2.length ≤ 1000000
    · rw [if_pos hd] at h
      obtain ⟨rfl, rfl⟩ := Prod.mk.inj (Option.some.inj h)
      clear h
      obtain ⟨W, rfl⟩ := Int.eq_ofNat_of_zero_le hd.1
      obtain ⟨H, rfl⟩ := Int.eq_ofNat_of_zero_le hd.2.2.1
      obtain ⟨-, h1, -, h2, h3⟩ := hd
      have hW : W ≤ 40 := by omega
      have hH : H ≤ 40 := by omega
      have pW : (0 ≤ (W : Int) ∧ (W : Int) < 41) = True := eq_true ⟨by omega, by omega⟩
      have pH : (0 ≤ (H : Int) ∧ (H : Int) < 41) = True := eq_true ⟨by omega, by omega⟩
      clear h1 h2
      go_enter Try.func11, Try.ntmps11
      go_wp2_with (first
        | (go_at_call 14; (refine (impl_checkTable.calls _ _ A2 c2 l2 0 _ HR2.out hc2 A1.out).mono ?_); rintro e w1 ⟨rfl, HB0⟩; have HB := Aside0.mk (show Below w.heap.size w w1 from HB0); clear HB0)
        | (go_at_call 17; (refine (impl_valuesOf.calls A2 c2 l2 W H _ hW hH (Kd.C_below HR2.out HB.out) hc2 h3).mono ?_); rintro e w2 ⟨g, rfl, hg, hi, hb⟩; have HC := Aside0.mk (HB.out.trans (hb.mono HB.out.size)); have hcell := hi.cell (W * 41 + H) (by omega); clear hg hi hb))
      go_ret2
      exact ⟨rfl, HC.out⟩
    · rw [if_neg hd] at h
      cases h
  · rw [if_neg hc] at h
    obtain ⟨rfl, rfl⟩ := Prod.mk.inj (Option.some.inj h)
    have hn : (c != 0) = true := bne_iff_ne.mpr hc
    go_enter Try.func11, Try.ntmps11
    go_wp2_with (first
      | (go_at_call 14; (refine (impl_checkTable.calls _ _ A2 c2 l2 c _ HR2.out hc2 A1.out).mono ?_); rintro e w1 ⟨rfl, HB0⟩; have HB := Aside0.mk (show Below w.heap.size w w1 from HB0); clear HB0))
    go_ret2
    exact ⟨rfl, HB.out⟩

/-! ### laws_FnExactBestValue: function 4 -/
def laws_FnExactBestValue.j0 : Nat → List (S36) → List (S34) → Bool → Option (Bool)
  | 0, _, _, _ => none
  | k + 1, x2, x10, x42 => if x42 = true then (some false) else ((laws_toKindS.f k x2).bind fun t149 => ((laws_eqKindS.f k x10 t149).bind fun t152 => (if t152 = true then (some true) else (some false))))
def laws_FnExactBestValue.f (k : Nat) (a0 : Int) (a1 : Int) (l2 : List (S36)) : Option (Bool) := (laws_szKindS.f l2 1048576).bind fun t138 => (if t138 < 0 then (some true) else ((laws_toKindS.f k l2).bind fun t139 => ((spec_BestValue.f k a0 a1 t139).bind fun bt142 => ((laws_toKindS.f k l2).bind fun t144 => ((impl_BestValue.f a0 a1 t144).bind fun bt147 => (if bt147.1 = bt142.1 then (laws_FnExactBestValue.j0 k l2 t144 (bt147.2 != bt142.2)) else (laws_FnExactBestValue.j0 k l2 t144 true)))))))
theorem laws_FnExactBestValue.mono_l : ∀ k, (∀ y0 y1 y2, LeO (laws_FnExactBestValue.j0 k y0 y1 y2) (laws_FnExactBestValue.j0 (k + 1) y0 y1 y2))
  | 0 => fun _ _ _ r h => by simp [laws_FnExactBestValue.j0] at h
  | k + 1 => by
    have ih0 := laws_FnExactBestValue.mono_l k
    · intro y0 y1 y2
      unfold laws_FnExactBestValue.j0
      repeat' first
      | (with_reducible exact ih0 _ _ _)
      | (with_reducible exact laws_eqKindS.mono _ _ _)
      | (with_reducible exact laws_toKindS.mono _ _)
      | (with_reducible exact spec_BestValue.mono _ _ _ _)
      | (with_reducible exact LeO.refl _)
      | (with_reducible exact LeO.none _)
      | (with_reducible refine LeO.ite ?_ ?_)
      | (with_reducible refine LeO.bind ?_ (fun _ => ?_))
      | exact ih0 _ _ _
      | exact laws_eqKindS.mono _ _ _
      | exact laws_toKindS.mono _ _
      | exact spec_BestValue.mono _ _ _ _
      | exact LeO.none _
      | refine LeO.ite ?_ ?_
      | refine LeO.bind ?_ (fun _ => ?_)
theorem laws_FnExactBestValue.mono : ∀ a0 a1 a2 k, LeO (laws_FnExactBestValue.f k a0 a1 a2) (laws_FnExactBestValue.f (k + 1) a0 a1 a2) := by
  intro a0 a1 a2 k
  have ih0 := laws_FnExactBestValue.mono_l k
  unfold laws_FnExactBestValue.f
  repeat' first
      | (with_reducible exact ih0 _ _ _)
      | (with_reducible exact laws_eqKindS.mono _ _ _)
      | (with_reducible exact laws_toKindS.mono _ _)
      | (with_reducible exact spec_BestValue.mono _ _ _ _)
      | (with_reducible exact LeO.refl _)
      | (with_reducible exact LeO.none _)
      | (with_reducible refine LeO.ite ?_ ?_)
      | (with_reducible refine LeO.bind ?_ (fun _ => ?_))
      | exact ih0 _ _ _
      | exact laws_eqKindS.mono _ _ _
      | exact laws_toKindS.mono _ _
      | exact spec_BestValue.mono _ _ _ _
      | exact LeO.none _
      | refine LeO.ite ?_ ?_
      | refine LeO.bind ?_ (fun _ => ?_)
theorem laws_FnExactBestValue.j0_no {k : Nat} {y0 : List (S36)} {y1 : List (S34)} {r : Bool} (h : laws_FnExactBestValue.j0 k y0 y1 true = some r) (hr : r = true) : False := by
  cases k with
  | zero => cases h
  | succ k => rw [laws_FnExactBestValue.j0, if_pos rfl] at h; exact absurd ((Option.some.inj h).trans hr) (by decide)
set_option maxHeartbeats 8000000 in
set_option maxRecDepth 100000 in
theorem laws_FnExactBestValue.calls (k : Nat) (a0 : Int) (a1 : Int) (A2 : Option Addr) (c2 : Nat) (l2 : List (S36)) (r : Bool) (w : World) (hr2 : Kd.C k36 w A2 l2.length l2) (hc2 : l2.length ≤ c2) (hr_ : Aside0 (r = true)) (h : laws_FnExactBestValue.f k a0 a1 l2 = some r) :
    Calls Try.prog 4 #[.int .i64 a0, .int .i64 a1, .slice A2 l2.length c2] w fun e w' => e = .returned (.bool r) ∧ Below w.heap.size w w' := by
  have HR2 := Aside0.mk hr2
  have HC2 := Aside0.mk hc2
  clear hr2 hc2
  have HB := Aside0.mk (Below.refl w.heap.size w)
  have H : ((laws_szKindS.f l2 1048576).bind fun t138 => (if t138 < 0 then (some true) else ((laws_toKindS.f k l2).bind fun t139 => ((spec_BestValue.f k a0 a1 t139).bind fun bt142 => ((laws_toKindS.f k l2).bind fun t144 => ((impl_BestValue.f a0 a1 t144).bind fun bt147 => (if bt147.1 = bt142.1 then (laws_FnExactBestValue.j0 k l2 t144 (bt147.2 != bt142.2)) else (laws_FnExactBestValue.j0 k l2 t144 true)))))))) = some r := h
  clear h
  replace H := Option.bind_eq_some_iff.mp H
  obtain ⟨t138, A40, H⟩ := H
  replace H : (if t138 < 0 then (some true) else ((laws_toKindS.f k l2).bind fun t139 => ((spec_BestValue.f k a0 a1 t139).bind fun bt142 => ((laws_toKindS.f k l2).bind fun t144 => ((impl_BestValue.f a0 a1 t144).bind fun bt147 => (if bt147.1 = bt142.1 then (laws_FnExactBestValue.j0 k l2 t144 (bt147.2 != bt142.2)) else (laws_FnExactBestValue.j0 k l2 t144 true))))))) = some r := H
  have A4 := Aside0.mk A40
  clear A40
  by_cases c5 : t138 < 0
  · rw [if_pos c5] at H
    have c5b0 : decide (t138 < 0) = true := decide_eq_true c5
    clear c5
    obtain rfl := Option.some.inj H
    go_enter Try.func4, Try.ntmps4
    go_wp2_with (first | ((with_reducible refine gate_callee (f := 5) rfl ?_); refine goesL_ (some 15) rfl rfl Try.func5 (by kernel_rfl) rfl #[.slice A2 l2.length c2, .int .i64 1048576] rfl (by (try simp only [List.map_toArray, List.map_cons, List.map_nil]); first | done | rfl | (simp only [List.length_drop, List.length_take]; rfl)) ?_; (with_reducible refine (laws_szKindS.calls _ _ l2 1048576 t138 _ ?side1 ?side2 A4.out).mono ?_); (case side1 => repeat (first | exact HR2.out | (with_reducible refine Kd.C_alloc ?_ _) | (with_reducible refine Kd.C_drewN ?_ _) | (with_reducible refine Kd.C_drew ?_))); (case side2 => exact HC2.out); rintro e w' ⟨rfl, ⟨nd, rfl⟩⟩; refine ⟨_, rfl, ?_⟩))
    go_ret
    exact ⟨by first | rfl | (simp [errW_none, errW_some] <;> rfl) | (simp [*, errW_none, errW_some] <;> rfl), by repeat (first | (with_reducible first | exact HB.out | apply below_alloc | apply pw_below_drewN | apply below_drew1) | exact HB.out)⟩
  · rw [if_neg c5] at H
    have c5b0 : decide (t138 < 0) = false := decide_eq_false c5
    clear c5
    replace H := Option.bind_eq_some_iff.mp H
    obtain ⟨t139, A60, H⟩ := H
    replace H : ((spec_BestValue.f k a0 a1 t139).bind fun bt142 => ((laws_toKindS.f k l2).bind fun t144 => ((impl_BestValue.f a0 a1 t144).bind fun bt147 => (if bt147.1 = bt142.1 then (laws_FnExactBestValue.j0 k l2 t144 (bt147.2 != bt142.2)) else (laws_FnExactBestValue.j0 k l2 t144 true))))) = some r := H
    have A6 := Aside0.mk A60
    clear A60
    replace H := Option.bind_eq_some_iff.mp H
    obtain ⟨⟨t142, t143⟩, A70, H⟩ := H
    replace H : ((laws_toKindS.f k l2).bind fun t144 => ((impl_BestValue.f a0 a1 t144).bind fun bt147 => (if bt147.1 = t142 then (laws_FnExactBestValue.j0 k l2 t144 (bt147.2 != t143)) else (laws_FnExactBestValue.j0 k l2 t144 true)))) = some r := H
    have A7 := Aside0.mk A70
    clear A70
    replace H := Option.bind_eq_some_iff.mp H
    obtain ⟨t144, A80, H⟩ := H
    replace H : ((impl_BestValue.f a0 a1 t144).bind fun bt147 => (if bt147.1 = t142 then (laws_FnExactBestValue.j0 k l2 t144 (bt147.2 != t143)) else (laws_FnExactBestValue.j0 k l2 t144 true))) = some r := H
    have A8 := Aside0.mk A80
    clear A80
    replace H := Option.bind_eq_some_iff.mp H
    obtain ⟨⟨t147, t148⟩, A90, H⟩ := H
    replace H : (if t147 = t142 then (laws_FnExactBestValue.j0 k l2 t144 (t148 != t143)) else (laws_FnExactBestValue.j0 k l2 t144 true)) = some r := H
    have A9 := Aside0.mk A90
    clear A90
    have HC10 := Aside0.mk H
    clear H
    go_enter Try.func4, Try.ntmps4
    go_upto_region 8 with (first | ((with_reducible refine gate_callee (f := 5) rfl ?_); refine goesL_ (some 15) rfl rfl Try.func5 (by kernel_rfl) rfl #[.slice A2 l2.length c2, .int .i64 1048576] rfl (by (try simp only [List.map_toArray, List.map_cons, List.map_nil]); first | done | rfl | (simp only [List.length_drop, List.length_take]; rfl)) ?_; (with_reducible refine (laws_szKindS.calls _ _ l2 1048576 t138 _ ?side1 ?side2 A4.out).mono ?_); (case side1 => repeat (first | exact HR2.out | (with_reducible refine Kd.C_alloc ?_ _) | (with_reducible refine Kd.C_drewN ?_ _) | (with_reducible refine Kd.C_drew ?_))); (case side2 => exact HC2.out); rintro e w' ⟨rfl, ⟨nd, rfl⟩⟩; refine ⟨_, rfl, ?_⟩) | ((with_reducible refine gate_callee (f := 7) rfl ?_); refine goesL_ (some 22) rfl rfl Try.func7 (by kernel_rfl) rfl #[.slice A2 l2.length c2] rfl (by (try simp only [List.map_toArray, List.map_cons, List.map_nil]); first | done | rfl | (simp only [List.length_drop, List.length_take]; rfl)) ?_; (with_reducible refine (laws_toKindS.calls k _ _ l2 t139 _ ?side1 ?side2 A6.out).mono ?_); (case side1 => repeat (first | exact HR2.out | (with_reducible refine Kd.C_alloc ?_ _) | (with_reducible refine Kd.C_drewN ?_ _) | (with_reducible refine Kd.C_drew ?_))); (case side2 => exact HC2.out); rintro e w11 ⟨v140, rfl, ho0, hb⟩; refine ⟨_, rfl, ?_⟩; have n0_ := Aside0.mk (Kd.R_lower ho0 (below_size (by repeat (first | (with_reducible first | exact HB.out | apply below_alloc | apply pw_below_drewN | apply below_drew1) | exact HB.out)))); have n1_ := Aside0.mk (below_step (by repeat (first | (with_reducible first | exact HB.out | apply below_alloc | apply pw_below_drewN | apply below_drew1) | exact HB.out)) hb); clear HB; have HO141 := n0_; have HB := n1_; clear n0_ n1_; (try clear hb); (try clear hb2); (try clear hk); (try clear hi); (try clear ho0); obtain ⟨Ao12, co12, eo12⟩ := Kd.R_slice HO141.out; subst eo12) | ((with_reducible refine gate_callee (f := 10) rfl ?_); refine goesL_ (some 23) rfl rfl Try.func10 (by kernel_rfl) rfl #[.int .i64 a0, .int .i64 a1, .slice Ao12 t139.length co12] rfl (by (try simp only [List.map_toArray, List.map_cons, List.map_nil]); first | done | rfl | (simp only [List.length_drop, List.length_take]; rfl)) ?_; (with_reducible refine (spec_BestValue.calls k a0 a1 _ _ t139 t142 t143 _ ?side1 ?side2 A7.out).mono ?_); (case side1 => repeat (first | exact (Kd.R_reads' HO141.out).2.2 | (with_reducible refine Kd.C_alloc ?_ _) | (with_reducible refine Kd.C_drewN ?_ _) | (with_reducible refine Kd.C_drew ?_))); (case side2 => exact (Kd.R_reads' HO141.out).2.1); rintro e w13 ⟨rfl, hb⟩; refine ⟨_, rfl, ?_⟩; have n0_ := Aside0.mk (Kd.R_below (by (with_reducible repeat (first | apply Kd.R_alloc | apply Kd.R_drewN | apply Kd.R_drew)); exact HO141.out) hb); have n1_ := Aside0.mk (below_step (by repeat (first | (with_reducible first | exact HB.out | apply below_alloc | apply pw_below_drewN | apply below_drew1) | exact HB.out)) hb); clear HO141; clear HB; have HO141 := n0_; have HB := n1_; clear n0_ n1_; (try clear hb); (try clear hb2); (try clear hk); (try clear hi)) | ((with_reducible refine gate_callee (f := 7) rfl ?_); refine goesL_ (some 27) rfl rfl Try.func7 (by kernel_rfl) rfl #[.slice A2 l2.length c2] rfl (by (try simp only [List.map_toArray, List.map_cons, List.map_nil]); first | done | rfl | (simp only [List.length_drop, List.length_take]; rfl)) ?_; (with_reducible refine (laws_toKindS.calls k _ _ l2 t144 _ ?side1 ?side2 A8.out).mono ?_); (case side1 => repeat (first | exact (Kd.C_below HR2.out HB.out) | (with_reducible refine Kd.C_alloc ?_ _) | (with_reducible refine Kd.C_drewN ?_ _) | (with_reducible refine Kd.C_drew ?_))); (case side2 => exact HC2.out); rintro e w14 ⟨v145, rfl, ho0, hb⟩; refine ⟨_, rfl, ?_⟩; have n0_ := Aside0.mk (Kd.R_elder' (by (with_reducible repeat (first | apply Kd.R_alloc | apply Kd.R_drewN | apply Kd.R_drew)); exact HO141.out) (Kd.R_base ho0) hb); have n1_ := Aside0.mk (Kd.R_lower (Kd.R_new' ho0 (Kd.R_lt (by (with_reducible repeat (first | apply Kd.R_alloc | apply Kd.R_drewN | apply Kd.R_drew)); exact HO141.out))) (below_size (by repeat (first | (with_reducible first | exact HB.out | apply below_alloc | apply pw_below_drewN | apply below_drew1) | exact HB.out)))); have n2_ := Aside0.mk (below_step (by repeat (first | (with_reducible first | exact HB.out | apply below_alloc | apply pw_below_drewN | apply below_drew1) | exact HB.out)) hb); clear HO141; clear HB; have HO141 := n0_; have HO146 := n1_; have HB := n2_; clear n0_ n1_ n2_; (try clear hb); (try clear hb2); (try clear hk); (try clear hi); (try clear ho0); obtain ⟨Ao15, co15, eo15⟩ := Kd.R_slice HO146.out; subst eo15) | ((with_reducible refine gate_callee (f := 11) rfl ?_); refine goesL_ (some 32) rfl rfl Try.func11 (by kernel_rfl) rfl #[.int .i64 a0, .int .i64 a1, .slice Ao15 t144.length co15] rfl (by (try simp only [List.map_toArray, List.map_cons, List.map_nil]); first | done | rfl | (simp only [List.length_drop, List.length_take]; rfl)) ?_; (with_reducible refine (impl_BestValue.calls a0 a1 _ _ t144 t147 t148 _ ?side1 ?side2 A9.out).mono ?_); (case side1 => repeat (first | exact (Kd.R_reads' HO146.out).2.2 | (with_reducible refine Kd.C_alloc ?_ _) | (with_reducible refine Kd.C_drewN ?_ _) | (with_reducible refine Kd.C_drew ?_))); (case side2 => exact (Kd.R_reads' HO146.out).2.1); rintro e w16 ⟨rfl, hb⟩; refine ⟨_, rfl, ?_⟩; have n0_ := Aside0.mk (Kd.R_below (by (with_reducible repeat (first | apply Kd.R_alloc | apply Kd.R_drewN | apply Kd.R_drew)); exact HO141.out) hb); have n1_ := Aside0.mk (Kd.R_below (by (with_reducible repeat (first | apply Kd.R_alloc | apply Kd.R_drewN | apply Kd.R_drew)); exact HO146.out) hb); have n2_ := Aside0.mk (below_step (by repeat (first | (with_reducible first | exact HB.out | apply below_alloc | apply pw_below_drewN | apply below_drew1) | exact HB.out)) hb); clear HO141; clear HO146; clear HB; have HO141 := n0_; have HO146 := n1_; have HB := n2_; clear n0_ n1_ n2_; (try clear hb); (try clear hb2); (try clear hk); (try clear hi)))
    (try simp only [Act.put, List.setIfInBounds_toArray, List.set_cons_zero, List.set_cons_succ])
    go_cut [42] (fun v42 wc => ∃ (kq : Nat) (x42_9 : Bool), v42 = .bool x42_9 ∧ Aside0 (laws_FnExactBestValue.j0 kq l2 t144 x42_9 = some r) ∧ Aside0 (kq ≤ k) ∧ Aside0 (Kd.R k34 34 wc w.heap.size (fun _ => True) (.slice Ao15 t144.length co15) t144) ∧ Aside0 (Below w.heap.size w wc))
    case first =>
      have H := HC10.out
      clear HC10
      by_cases c17 : t147 = t142
      · rw [if_pos c17] at H
        have c17b0 : (t147 == t142) = true := beq_iff_eq.mpr c17
        have c17b1 : (t147 != t142) = false := bne_eq_false_iff_eq.mpr c17
        clear c17
        (first | rw [c17b0] | (simp only [i64_w, i32_w]; rw [c17b0]) | skip)
        have H' := Aside0.mk H
        clear H
        go_wp2
        go_meet
        case rel => exact ⟨_, ((t148 != t143)), (by first | rfl | (simp; done) | (simp [*]; done)), H', ⟨by first | omega | exact Nat.le_refl _⟩, ⟨by (with_reducible repeat (first | apply Kd.R_alloc | apply Kd.R_drewN | apply Kd.R_drew)); exact Kd.R_mono HO146.out (fun _ hk => trivial)⟩, ⟨by repeat (first | (with_reducible first | exact HB.out | apply below_alloc | apply pw_below_drewN | apply below_drew1) | exact HB.out)⟩⟩
      · rw [if_neg c17] at H
        have c17b0 : (t147 == t142) = false := beq_eq_false_iff_ne.mpr c17
        have c17b1 : (t147 != t142) = true := bne_iff_ne.mpr c17
        (first | rw [c17b0] | (simp only [i64_w, i32_w]; rw [c17b0]) | skip)
        (first | exact (laws_FnExactBestValue.j0_no H hr_.out).elim)
    case rest =>
      clear HC10
      try clear c1
      try clear c2
      try clear p2
      try clear c4
      try clear c5
      try clear c5b0
      try clear c7
      try clear c10
      try clear c11
      try clear c17
      try clear c17b0
      try clear c17b1
      obtain ⟨kq, x42_9, rfl, HA, HJ9, HO_10, HB⟩ := hcut
      cases kq with
      | zero => exact absurd HA.out (by simp [laws_FnExactBestValue.j0])
      | succ kj9 =>
        have H := HA.out
        clear HA
        simp only [laws_FnExactBestValue.j0] at H
        by_cases c18 : x42_9 = true
        · subst c18
          have H1 : (some false) = some r := by rw [if_pos rfl] at H; exact H
          clear H
          have H := H1
          clear H1
          exact absurd ((Option.some.inj H).trans hr_.out) (by decide)
        · replace c18 := Bool.eq_false_iff.mpr c18
          subst c18
          have H1 : ((laws_toKindS.f kj9 l2).bind fun t149 => ((laws_eqKindS.f kj9 t144 t149).bind fun t152 => (if t152 = true then (some true) else (some false)))) = some r := by rw [if_neg (show ¬ (false = true) by decide)] at H; exact H
          clear H
          have H := H1
          clear H1
          replace H := Option.bind_eq_some_iff.mp H
          obtain ⟨t149, A190, H⟩ := H
          replace H : ((laws_eqKindS.f kj9 t144 t149).bind fun t152 => (if t152 = true then (some true) else (some false))) = some r := H
          have A19 := Aside0.mk A190
          clear A190
          replace H := Option.bind_eq_some_iff.mp H
          obtain ⟨t152, A200, H⟩ := H
          replace H : (if t152 = true then (some true) else (some false)) = some r := H
          have A20 := Aside0.mk A200
          clear A200
          by_cases c21 : t152 = true
          · subst c21
            have H1 : (some true) = some r := by rw [if_pos rfl] at H; exact H
            clear H
            have H := H1
            clear H1
            obtain rfl := Option.some.inj H
            go_wp2_with (first | ((with_reducible refine gate_callee (f := 7) rfl ?_); refine goesL_ (some 45) rfl rfl Try.func7 (by kernel_rfl) rfl #[.slice A2 l2.length c2] rfl (by (try simp only [List.map_toArray, List.map_cons, List.map_nil]); first | done | rfl | (simp only [List.length_drop, List.length_take]; rfl)) ?_; (with_reducible refine (laws_toKindS.calls kj9 _ _ l2 t149 _ ?side1 ?side2 A19.out).mono ?_); (case side1 => repeat (first | exact (Kd.C_below HR2.out HB.out) | (with_reducible refine Kd.C_alloc ?_ _) | (with_reducible refine Kd.C_drewN ?_ _) | (with_reducible refine Kd.C_drew ?_))); (case side2 => exact HC2.out); rintro e w22 ⟨v150, rfl, ho0, hb⟩; refine ⟨_, rfl, ?_⟩; have n0_ := Aside0.mk (Kd.R_elder' (by (with_reducible repeat (first | apply Kd.R_alloc | apply Kd.R_drewN | apply Kd.R_drew)); exact HO_10.out) (Kd.R_base ho0) hb); have n1_ := Aside0.mk (Kd.R_lower (Kd.R_new' ho0 (Kd.R_lt (by (with_reducible repeat (first | apply Kd.R_alloc | apply Kd.R_drewN | apply Kd.R_drew)); exact HO_10.out))) (below_size (by repeat (first | (with_reducible first | exact HB.out | apply below_alloc | apply pw_below_drewN | apply below_drew1) | exact HB.out)))); have n2_ := Aside0.mk (below_step (by repeat (first | (with_reducible first | exact HB.out | apply below_alloc | apply pw_below_drewN | apply below_drew1) | exact HB.out)) hb); clear HO_10; clear HB; have HO_10 := n0_; have HO151 := n1_; have HB := n2_; clear n0_ n1_ n2_; (try clear hb); (try clear hb2); (try clear hk); (try clear hi); (try clear ho0); obtain ⟨Ao23, co23, eo23⟩ := Kd.R_slice HO151.out; subst eo23) | ((with_reducible refine gate_callee (f := 9) rfl ?_); refine goesL_ (some 46) rfl rfl Try.func9 (by kernel_rfl) rfl #[.slice Ao15 t144.length co15, .slice Ao23 t149.length co23] rfl (by (try simp only [List.map_toArray, List.map_cons, List.map_nil]); first | done | rfl | (simp only [List.length_drop, List.length_take]; rfl)) ?_; (with_reducible refine (laws_eqKindS.calls kj9 _ _ t144 _ _ t149 true _ ?side1 ?side2 ?side3 ?side4 A20.out).mono ?_); (case side1 => repeat (first | exact (Kd.R_reads' HO_10.out).2.2 | (with_reducible refine Kd.C_alloc ?_ _) | (with_reducible refine Kd.C_drewN ?_ _) | (with_reducible refine Kd.C_drew ?_))); (case side2 => exact (Kd.R_reads' HO_10.out).2.1); (case side3 => repeat (first | exact (Kd.R_reads' HO151.out).2.2 | (with_reducible refine Kd.C_alloc ?_ _) | (with_reducible refine Kd.C_drewN ?_ _) | (with_reducible refine Kd.C_drew ?_))); (case side4 => exact (Kd.R_reads' HO151.out).2.1); rintro e w24 ⟨rfl, hb⟩; refine ⟨_, rfl, ?_⟩; have n0_ := Aside0.mk (Kd.R_below (by (with_reducible repeat (first | apply Kd.R_alloc | apply Kd.R_drewN | apply Kd.R_drew)); exact HO_10.out) hb); have n1_ := Aside0.mk (Kd.R_below (by (with_reducible repeat (first | apply Kd.R_alloc | apply Kd.R_drewN | apply Kd.R_drew)); exact HO151.out) hb); have n2_ := Aside0.mk (below_step (by repeat (first | (with_reducible first | exact HB.out | apply below_alloc | apply pw_below_drewN | apply below_drew1) | exact HB.out)) hb); clear HO_10; clear HO151; clear HB; have HO_10 := n0_; have HO151 := n1_; have HB := n2_; clear n0_ n1_ n2_; (try clear hb); (try clear hb2); (try clear hk); (try clear hi)))
            go_ret
            exact ⟨by first | rfl | (simp [errW_none, errW_some] <;> rfl) | (simp [*, errW_none, errW_some] <;> rfl), by repeat (first | (with_reducible first | exact HB.out | apply below_alloc | apply pw_below_drewN | apply below_drew1) | exact HB.out)⟩
          · replace c21 := Bool.eq_false_iff.mpr c21
            subst c21
            have H1 : (some false) = some r := by rw [if_neg (show ¬ (false = true) by decide)] at H; exact H
            clear H
            have H := H1
            clear H1
            exact absurd ((Option.some.inj H).trans hr_.out) (by decide)

end Go.Proofs.Ytomddpdfcdnaaaa.PFnExactBestValue
