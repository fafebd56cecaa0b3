import Derived.Test.YtomddpdfcdnaaaaDoorPFnBestPlansx0
import Derived.Test.YtomddpdfcdnaaaaDoorPFnBestPlansx3
import Derived.Test.YtomddpdfcdnaaaaDoorLays
import Derived.Lib.AppendIntMem
import Derived.Lib.ItoaLen
import Derived.Lib.ItoaMem
import Derived.StillTactics
namespace Go.Proofs.YtomddpdfcdnaaaaDoor.PFnBestPlans
open Go.RowKit Go.Proofs.YtomddpdfcdnaaaaDoorW.PrintWords Go.Proofs.YtomddpdfcdnaaaaDoorW.PrintLast Go.Proofs.YtomddpdfcdnaaaaDoorW.PrintMore
attribute [local go_sem] max2_int min2_int max_two min_two max_three min_three max_four min_four   -- for this text's walks alone
set_option linter.unusedVariables false
set_option linter.unusedSimpArgs false

theorem impl_valuesOf.zero (w : World) : (zeroValue 78).run Tryd.prog w = .ok (.agg (Array.replicate 1681 (.int .i64 0))) w := by kernel_rfl
def impl_valuesOf.cx (t : List Int) (w h : Nat) (b : Int) : Nat → Int
 | 0 => b
 | n + 1 => max (impl_valuesOf.cx t w h b n) (wrap64 (rd t (((n + 1) * 41 + h : Nat) : Int) + rd t (((w - (n + 1)) * 41 + h : Nat) : Int)))
def impl_valuesOf.cy (t : List Int) (w h : Nat) (b : Int) : Nat → Int
 | 0 => b
 | n + 1 => max (impl_valuesOf.cy t w h b n) (wrap64 (rd t ((w * 41 + (n + 1) : Nat) : Int) + rd t ((w * 41 + (h - (n + 1)) : Nat) : Int)))
def impl_valuesOf.best (t : List Int) (l : List S50) (w h : Nat) : Int := impl_valuesOf.cy t w h (impl_valuesOf.cx t w h (l12Kd l w h l.length) (w - 1)) (h - 1)
def impl_valuesOf.row (t : List Int) (l : List S50) (w : Nat) : Nat → List Int
 | 0 => t
 | n + 1 => (impl_valuesOf.row t l w n).set (w * 41 + (n + 1)) (impl_valuesOf.best (impl_valuesOf.row t l w n) l w (n + 1))
def impl_valuesOf.tab (l : List S50) (H : Nat) : Nat → List Int
 | 0 => List.replicate 1681 0
 | n + 1 => impl_valuesOf.row (impl_valuesOf.tab l H n) l (n + 1) H
structure impl_valuesOf.Is (w : World) (g : Nat) (t : List Int) : Prop where
 blk : w.heap[g]? = some (.cells (t.map (Value.int .i64)).toArray 78 (0, 0))
 len : t.length = 1681
theorem impl_valuesOf.Is.cell {w : World} {g : Nat} {t : List Int} (h : impl_valuesOf.Is w g t) (i : Nat) (hi : i < 1681) : w.cell? ⟨g, i, none⟩ = some (.int .i64 (rd t (i : Int))) := by
 rw [blk_cell h.blk i]
 have := h.len
 simp [rd, List.getD_eq_getElem?_getD, List.getElem?_eq_getElem (show i < t.length by omega)]
theorem impl_valuesOf.Is.set {w : World} {g : Nat} {t : List Int} (h : impl_valuesOf.Is w g t) (i : Nat) (v : Int) : impl_valuesOf.Is (w.setCell ⟨g, i, none⟩ (.int .i64 v)) g (t.set i v) :=
 ⟨blk_put h.blk i (.int .i64 v) (by simp [List.map_set]), by rw [List.length_set]; exact h.len⟩
theorem impl_valuesOf.Is.below {w W : World} {g : Nat} {t : List Int} (h : impl_valuesOf.Is w g t) (hb : Below w.heap.size w W) : impl_valuesOf.Is W g t :=
 ⟨(hb.block g (blk_lt h.blk)).trans h.blk, h.len⟩
set_option maxHeartbeats 4000000 in
set_option maxRecDepth 100000 in
theorem impl_valuesOf.calls (A2 : Option Addr) (c2 : Nat) (l2 : List S50) (W H : Nat) (w : World) (hW : W ≤ 40) (hH : H ≤ 40) (hr2 : Kd.C k50 w A2 l2.length l2) (hc2 : l2.length ≤ c2) (hl : l2.length ≤ 1000000) :
  Calls Tryd.prog 44 #[.int .i64 W, .int .i64 H, .slice A2 l2.length c2] w fun e w' => ∃ g, e = .returned (.pointer (some ⟨g, 0, none⟩)) ∧ w.heap.size ≤ g ∧ impl_valuesOf.Is w' g (impl_valuesOf.tab l2 H W) ∧ Below w.heap.size w w' := by
 have mixed : Tryd.prog.follows .mixedOrders = true := by kernel_rfl
 have hz := impl_valuesOf.zero
 obtain ⟨Z, hZ⟩ : ∃ Z : Array Value, Z = Array.replicate 1681 (.int .i64 0) := ⟨_, rfl⟩
 rw [← hZ] at hz
 have HZ := Aside0.mk hZ
 have HR2 := Aside0.mk hr2
 clear hZ hr2
 go_enter Tryd.func44, Tryd.ntmps44
 go_wp2
 have HI := Aside0.mk (show impl_valuesOf.Is (w.alloc (.cells Z 78)) w.heap.size (impl_valuesOf.tab l2 H 0) from ⟨by rw [heap_alloc_new, HZ.out, impl_valuesOf.tab, List.map_replicate, List.toArray_replicate], List.length_replicate⟩)
 have HB := Aside0.mk (show Below w.heap.size w (w.alloc (.cells Z 78)) from below_alloc (Below.refl _ _) _)
 clear hz
 obtain ⟨g, hg⟩ : ∃ g, g = w.heap.size := ⟨_, rfl⟩
 have HG := Aside0.mk hg
 generalize w.alloc (.cells Z 78) = w1 at HI HB ⊢
 rw [← hg] at HI ⊢
 clear hg HZ
 go_loopg [8] W (fun gg s8 wr => ∃ i : Nat, s8 = .int .i64 ((i : Int) + 1) ∧ Aside0 (i + gg = W) ∧ Aside0 (impl_valuesOf.Is wr g (impl_valuesOf.tab l2 H i)) ∧ Aside0 (Below w.heap.size w wr))
 case atStart => exact ⟨0, rfl, ⟨by omega⟩, HI, HB⟩
 case round =>
  clear HI HB
  obtain ⟨i, rfl, HN, HI, HB⟩ := hrel
  cases gk with
  | zero =>
   have hiW : i = W := by have := HN.out; omega
   subst hiW
   have cb : decide ((i : Int) + 1 ≤ (i : Int)) = false := decide_eq_false (by omega)
   go_wp2
   go_ret
   exact ⟨g, rfl, by rw [HG.out]; exact Nat.le_refl _, HI.out, HB.out⟩
  | succ k1 =>
   have hi : i < W := by have := HN.out; omega
   have cb : decide ((i : Int) + 1 ≤ (W : Int)) = true := decide_eq_true (by omega)
   go_wp2
   go_loopg [9] H (fun gg s9 wr => ∃ j : Nat, s9 = .int .i64 ((j : Int) + 1) ∧ Aside0 (j + gg = H) ∧ Aside0 (impl_valuesOf.Is wr g (impl_valuesOf.row (impl_valuesOf.tab l2 H i) l2 (i + 1) j)) ∧ Aside0 (Below w.heap.size w wr))
   case atStart => exact ⟨0, rfl, ⟨by omega⟩, HI, HB⟩
   case round =>
    clear HI HB
    obtain ⟨j, rfl, HM, HI, HB⟩ := hrel
    cases gk with
    | zero =>
     have hj : j = H := by have := HM.out; omega
     subst hj
     have cj : decide ((j : Int) + 1 ≤ (j : Int)) = false := decide_eq_false (by omega)
     go_wp2
     go_roundg k1
     case measure => omega
     case rel => exact ⟨i + 1, by first | rfl | (congr 1; omega), ⟨by have := HN.out; omega⟩, HI, HB⟩
    | succ k2 =>
     have hj : j < H := by have := HM.out; omega
     have cj : decide ((j : Int) + 1 ≤ (H : Int)) = true := decide_eq_true (by omega)
     go_wp2
     go_loopg [29, 10] l2.length (fun gg s29 s10 wr => ∃ n : Nat, s29 = .int .i64 (n : Int) ∧ s10 = .int .i64 (l12Kd l2 ((i : Int) + 1) ((j : Int) + 1) n) ∧ Aside0 (n + gg = l2.length) ∧ Aside0 (impl_valuesOf.Is wr g (impl_valuesOf.row (impl_valuesOf.tab l2 H i) l2 (i + 1) j)) ∧ Aside0 (Below w.heap.size w wr))
     case atStart => exact ⟨0, rfl, rfl, ⟨by omega⟩, HI, HB⟩
     case round =>
      clear HI HB
      obtain ⟨n, rfl, rfl, HQ, HI, HB⟩ := hrel
      cases gk with
      | zero =>
       have hn : n = l2.length := by have := HQ.out; omega
       subst hn
       have cn : decide (((l2.length : Nat) : Int) < ((l2.length : Nat) : Int)) = false := decide_eq_false (by omega)
       go_wp2
       clear HQ
       generalize hb0 : l12Kd l2 ((i : Int) + 1) ((j : Int) + 1) l2.length = b0
       generalize ht0 : impl_valuesOf.row (impl_valuesOf.tab l2 H i) l2 (i + 1) j = t0 at HI ⊢
       go_loopg [13, 10] i (fun gg s13 s10 wr => ∃ x : Nat, s13 = .int .i64 ((x : Int) + 1) ∧ s10 = .int .i64 (impl_valuesOf.cx t0 (i + 1) (j + 1) b0 x) ∧ Aside0 (x + gg = i) ∧ Aside0 (impl_valuesOf.Is wr g t0) ∧ Aside0 (Below w.heap.size w wr))
       case atStart => exact ⟨0, rfl, rfl, ⟨by omega⟩, HI, HB⟩
       case round =>
        clear HI HB
        obtain ⟨x, rfl, rfl, HX, HI, HB⟩ := hrel
        cases gk with
        | zero =>
         have hx : i = x := by have := HX.out; omega
         subst hx
         have cx : decide ((i : Int) + 1 < (i : Int) + 1) = false := decide_eq_false (by omega)
         go_wp2
         clear HX
         generalize hb1 : impl_valuesOf.cx t0 (i + 1) (j + 1) b0 i = b1
         go_loopg [14, 10] j (fun gg s14 s10 wr => ∃ y : Nat, s14 = .int .i64 ((y : Int) + 1) ∧ s10 = .int .i64 (impl_valuesOf.cy t0 (i + 1) (j + 1) b1 y) ∧ Aside0 (y + gg = j) ∧ Aside0 (impl_valuesOf.Is wr g t0) ∧ Aside0 (Below w.heap.size w wr))
         case atStart => exact ⟨0, rfl, rfl, ⟨by omega⟩, HI, HB⟩
         case round =>
          clear HI HB
          obtain ⟨y, rfl, rfl, HY, HI, HB⟩ := hrel
          cases gk with
          | zero =>
           have hy : j = y := by have := HY.out; omega
           subst hy
           have cy : decide ((j : Int) + 1 < (j : Int) + 1) = false := decide_eq_false (by omega)
           have pi : (0 ≤ (i : Int) + 1 ∧ (i : Int) + 1 < 41) = True := eq_true ⟨by omega, by omega⟩
           have pj : (0 ≤ (j : Int) + 1 ∧ (j : Int) + 1 < 41) = True := eq_true ⟨by omega, by omega⟩
           have hcS := HI.out.cell ((i + 1) * 41 + (j + 1)) (by omega)
           have hfS := blk_frozen HI.out.blk ((i + 1) * 41 + (j + 1))
           go_wp2
           go_roundg k2
           case measure => omega
           case rel => exact ⟨j + 1, rfl, ⟨by have := HM.out; omega⟩, ⟨by
            have hs := HI.out.set ((i + 1) * 41 + (j + 1)) (impl_valuesOf.cy t0 (i + 1) (j + 1) b1 j)
            rw [impl_valuesOf.row, ht0]
            have e : impl_valuesOf.best t0 l2 (i + 1) (j + 1) = impl_valuesOf.cy t0 (i + 1) (j + 1) b1 j := by
             unfold impl_valuesOf.best
             rw [← hb1, ← hb0]
             rfl
            rw [e]
            exact hs⟩, ⟨HB.out.setCell (by show w.heap.size ≤ g; rw [HG.out]; exact Nat.le_refl _) _⟩⟩
          | succ k5 =>
           have hy : y < j := by have := HY.out; omega
           have cy : decide ((y : Int) + 1 < (j : Int) + 1) = true := decide_eq_true (by omega)
           go_wp2
           have pi : (0 ≤ (i : Int) + 1 ∧ (i : Int) + 1 < 41) = True := eq_true ⟨by omega, by omega⟩
           have py : (0 ≤ (y : Int) + 1 ∧ (y : Int) + 1 < 41) = True := eq_true ⟨by omega, by omega⟩
           have hsub : (j : Int) + 1 - ((y : Int) + 1) = ((j - y : Nat) : Int) := by omega
           have ps : (0 ≤ ((j - y : Nat) : Int) ∧ ((j - y : Nat) : Int) < 41) = True := eq_true ⟨by omega, by omega⟩
           have ps2 : (j - y < 41) = True := eq_true (by omega)
           have ps3 : (((j - y : Nat) : Int) < 41) = True := eq_true (by omega)
           have hwr : IntKind.i64.wrap ((j - y : Nat) : Int) = ((j - y : Nat) : Int) := by rw [i64_w]; unfold wrap64; omega
           have hcA := show wr.drew.cell? ⟨g, (i + 1) * 41 + (y + 1), none⟩ = _ from HI.out.cell ((i + 1) * 41 + (y + 1)) (by omega)
           have hcB := show wr.drew.cell? ⟨g, (i + 1) * 41 + (j - y), none⟩ = _ from HI.out.cell ((i + 1) * 41 + (j - y)) (by omega)
           refine wp_region_still_lit mixed (by kernel_rfl) ?_
           repeat still_step
           refine wpStill_nil ?_
           change Exit.inBlock _ _ _ _ wr.drew
           have HI2 := Aside0.mk (HI.out.below (below_drew (Below.refl _ _)))
           have HB2 := Aside0.mk (below_drew1 HB.out)
           generalize wr.drew = wr2 at HI2 HB2 ⊢
           have hcy : impl_valuesOf.cy t0 (i + 1) (j + 1) b1 (y + 1) = max (impl_valuesOf.cy t0 (i + 1) (j + 1) b1 y) (IntKind.i64.wrap (rd t0 (((i : Int) + 1) * 41 + ((y : Int) + 1)) + rd t0 (((i : Int) + 1) * 41 + ((j - y : Nat) : Int)))) := by
            rw [impl_valuesOf.cy, i64_w, show j + 1 - (y + 1) = j - y by omega]
            rfl
           go_wp2
           all_goals
            go_roundg k5
            case measure => omega
            case rel => exact ⟨y + 1, rfl, by rw [hcy]; congr 1; omega, ⟨by have := HY.out; omega⟩, HI2, HB2⟩
        | succ k4 =>
         have hx : x < i := by have := HX.out; omega
         have cx : decide ((x : Int) + 1 < (i : Int) + 1) = true := decide_eq_true (by omega)
         go_wp2
         have px : (0 ≤ (x : Int) + 1 ∧ (x : Int) + 1 < 41) = True := eq_true ⟨by omega, by omega⟩
         have pj : (0 ≤ (j : Int) + 1 ∧ (j : Int) + 1 < 41) = True := eq_true ⟨by omega, by omega⟩
         have hsub : (i : Int) + 1 - ((x : Int) + 1) = ((i - x : Nat) : Int) := by omega
         have ps : (0 ≤ ((i - x : Nat) : Int) ∧ ((i - x : Nat) : Int) < 41) = True := eq_true ⟨by omega, by omega⟩
         have ps2 : (i - x < 41) = True := eq_true (by omega)
         have ps3 : (((i - x : Nat) : Int) < 41) = True := eq_true (by omega)
         have hwr : IntKind.i64.wrap ((i - x : Nat) : Int) = ((i - x : Nat) : Int) := by rw [i64_w]; unfold wrap64; omega
         have hcA := show wr.drew.cell? ⟨g, (x + 1) * 41 + (j + 1), none⟩ = _ from HI.out.cell ((x + 1) * 41 + (j + 1)) (by omega)
         have hcB := show wr.drew.cell? ⟨g, (i - x) * 41 + (j + 1), none⟩ = _ from HI.out.cell ((i - x) * 41 + (j + 1)) (by omega)
         refine wp_region_still_lit mixed (by kernel_rfl) ?_
         repeat still_step
         refine wpStill_nil ?_
         change Exit.inBlock _ _ _ _ wr.drew
         have HI2 := Aside0.mk (HI.out.below (below_drew (Below.refl _ _)))
         have HB2 := Aside0.mk (below_drew1 HB.out)
         generalize wr.drew = wr2 at HI2 HB2 ⊢
         have hcx : impl_valuesOf.cx t0 (i + 1) (j + 1) b0 (x + 1) = max (impl_valuesOf.cx t0 (i + 1) (j + 1) b0 x) (IntKind.i64.wrap (rd t0 (((x : Int) + 1) * 41 + ((j : Int) + 1)) + rd t0 (((i - x : Nat) : Int) * 41 + ((j : Int) + 1)))) := by
          rw [impl_valuesOf.cx, i64_w, show i + 1 - (x + 1) = i - x by omega]
          rfl
         go_wp2
         all_goals
          go_roundg k4
          case measure => omega
          case rel => exact ⟨x + 1, rfl, by rw [hcx]; congr 1; omega, ⟨by have := HX.out; omega⟩, HI2, HB2⟩
      | succ k3 =>
       have hn : n < l2.length := by have := HQ.out; omega
       have cn : decide ((n : Int) < ((l2.length : Nat) : Int)) = true := decide_eq_true (by omega)
       obtain ⟨ad, e1, hx0, hx1, hx2⟩ := at_T50 HR2.out (n : Int) (by omega) (by omega)
       subst e1
       replace hx0 := (HB.out.cell (World.block_lt_of_cell? _ _ hx0)).trans hx0
       replace hx1 := (HB.out.cell (World.block_lt_of_cell? _ _ hx1)).trans hx1
       replace hx2 := (HB.out.cell (World.block_lt_of_cell? _ _ hx2)).trans hx2
       have p1 : (0 ≤ (n : Int)) = True := eq_true (by omega)
       have hkd := l12Kd_step l2 ((i : Int) + 1) ((j : Int) + 1) n hn
       simp only [Int.toNat_natCast] at hx0 hx1 hx2
       generalize rd_T50 l2 (n : Int) = x at hx0 hx1 hx2 hkd
       by_cases c0 : x.f0 ≤ (i : Int) + 1
       ·have c0b : decide (x.f0 ≤ (i : Int) + 1) = true := decide_eq_true c0
        by_cases c1 : x.f1 ≤ (j : Int) + 1
        ·have c1b : decide (x.f1 ≤ (j : Int) + 1) = true := decide_eq_true c1
         rw [if_pos c0, if_pos c1] at hkd
         go_wp2
         all_goals
          go_roundg k3
          case measure => omega
          case rel =>
           have HB2 := Aside0.mk (show Below wr.heap.size wr (wr.alloc (Obj.cells #[Value.int IntKind.i64 x.f0, Value.int IntKind.i64 x.f1, Value.int IntKind.i64 x.f2] 50)) from below_alloc (Below.refl _ _) _)
           exact ⟨n + 1, rfl, by rw [hkd]; congr 1; omega, ⟨by have := HQ.out; omega⟩, ⟨HI.out.below HB2.out⟩, ⟨HB.out.trans (HB2.out.mono HB.out.size)⟩⟩
        ·have c1b : decide (x.f1 ≤ (j : Int) + 1) = false := decide_eq_false c1
         rw [if_pos c0, if_neg c1] at hkd
         go_wp2
         go_roundg k3
         case measure => omega
         case rel =>
          have HB2 := Aside0.mk (show Below wr.heap.size wr (wr.alloc (Obj.cells #[Value.int IntKind.i64 x.f0, Value.int IntKind.i64 x.f1, Value.int IntKind.i64 x.f2] 50)) from below_alloc (Below.refl _ _) _)
          exact ⟨n + 1, rfl, by rw [hkd], ⟨by have := HQ.out; omega⟩, ⟨HI.out.below HB2.out⟩, ⟨HB.out.trans (HB2.out.mono HB.out.size)⟩⟩
       ·have c0b : decide (x.f0 ≤ (i : Int) + 1) = false := decide_eq_false c0
        rw [if_neg c0] at hkd
        go_wp2
        go_roundg k3
        case measure => omega
        case rel =>
         have HB2 := Aside0.mk (show Below wr.heap.size wr (wr.alloc (Obj.cells #[Value.int IntKind.i64 x.f0, Value.int IntKind.i64 x.f1, Value.int IntKind.i64 x.f2] 50)) from below_alloc (Below.refl _ _) _)
         exact ⟨n + 1, rfl, by rw [hkd], ⟨by have := HQ.out; omega⟩, ⟨HI.out.below HB2.out⟩, ⟨HB.out.trans (HB2.out.mono HB.out.size)⟩⟩




def strconv_bool2_int.f (a0 : Bool) : Option (Int) := if a0 = true then (some 1) else (some 0)
set_option maxHeartbeats 8000000 in
set_option maxRecDepth 100000 in
theorem strconv_bool2_int.calls (a0 : Bool) (r : Int) (w : World) (h : strconv_bool2_int.f a0 = some r) :
  Calls Tryd.prog 93 #[.bool a0] w fun e w' => e = .returned (.int .i64 r) ∧ Drawn0 w w' := by
 have H : (if a0 = true then (some 1) else (some 0)) = some r := h
 clear h
 by_cases c2 : a0 = true
 ·subst c2
  have H1 : (some 1) = some r := by rw [if_pos rfl] at H; exact H
  clear H
  have H := H1
  clear H1
  obtain rfl := Option.some.inj H
  go_enter Tryd.func93, Tryd.ntmps93
  go_wp2
  go_ret
  exact ⟨by first | rfl | (simp; done) | (simp [*]; done), by repeat (first | exact Drawn0.refl _ | apply Drawn0.step)⟩
 ·replace c2 := Bool.eq_false_iff.mpr c2
  subst c2
  have H1 : (some 0) = some r := by rw [if_neg (show ¬ (false = true) by decide)] at H; exact H
  clear H
  have H := H1
  clear H1
  obtain rfl := Option.some.inj H
  go_enter Tryd.func93, Tryd.ntmps93
  go_wp2
  go_ret
  exact ⟨by first | rfl | (simp; done) | (simp [*]; done), by repeat (first | exact Drawn0.refl _ | apply Drawn0.step)⟩










structure TabL (w : World) : Prop where
 tab : Go.Lib.TabIs Tryd.prog w "internal/strconv.uint64pow10" .u64 Go.Lib.pow10Tab
 syn : ∃ tp p, w.var? Tryd.prog "strconv.ErrSyntax" = some #[.iface tp p]
 rng : ∃ tp p, w.var? Tryd.prog "strconv.ErrRange" = some #[.iface tp p]
theorem TabL.var {w W : World} {n : String} {cs : Array Value} (h : w.var? Tryd.prog n = some cs) (hb : Below w.heap.size w W) : W.var? Tryd.prog n = some cs := by
 unfold World.var? at h ⊢
 cases hg : Tryd.prog.globalNamed n with
 | none => simp [hg] at h
 | some g =>
  simp only [hg, Option.bind_some] at h ⊢
  have hlt : g < w.heap.size := by
   rcases Nat.lt_or_ge g w.heap.size with h' | h'
   ·exact h'
   ·rw [Array.getElem?_eq_none h'] at h; simp at h
  rw [hb.block g hlt]
  exact h
theorem TabL.keep {w W : World} (h : TabL w) (hb : Below w.heap.size w W) : TabL W := ⟨TabL.var h.tab hb, h.syn.imp fun _ e => e.imp fun _ e => TabL.var e hb, h.rng.imp fun _ e => e.imp fun _ e => TabL.var e hb⟩
theorem TabL.drewN {w : World} (h : TabL w) (n : Nat) : TabL (w.drewN n) := h.keep (pw_below_drewN (Below.refl _ _) n)
set_option maxHeartbeats 4000000 in
set_option maxRecDepth 100000 in
theorem impl_decimal.walk (n : Int) (w : World) (h0 : -9223372036854775808 ≤ n) (h1 : n ≤ 9223372036854775807) (hT_ : TabL w) :
  Calls Tryd.prog 58 #[.int .i64 n] w fun e w' => e = .returned (.string ⟨(Go.Lib.itoa n).toArray⟩) ∧ Below w.heap.size w w' := by
 have HT := Aside0.mk hT_.tab
 clear hT_
 go_enter Tryd.func58, Tryd.ntmps58
 go_wp2_with (go_at_call 68; (refine (Any.strconv_FormatInt_10 Tryd.lays173 n h0 h1 _ HT.out).mono ?_); rintro e w' ⟨rfl, k, os, rfl⟩; have HB := Aside0.mk (show Below w.heap.size w (Go.Sort.grow (w.drewN k) os) from Lib.below_grow _ w (Nat.le_refl _) k os))
 go_ret
 exact ⟨rfl, HB.out⟩
def impl_decimal.f (a0 : Int) : Option ByteArray := if -9223372036854775808 ≤ a0 ∧ a0 ≤ 9223372036854775807 then some ⟨(Go.Lib.itoa a0).toArray⟩ else none
theorem impl_decimal.calls (a0 : Int) (r : ByteArray) (w : World) (hT_ : TabL w) (h : impl_decimal.f a0 = some r) :
  Calls Tryd.prog 58 #[.int .i64 a0] w fun e w' => e = .returned (.string r) ∧ Below w.heap.size w w' := by
 unfold impl_decimal.f at h
 by_cases c : -9223372036854775808 ≤ a0 ∧ a0 ≤ 9223372036854775807
 ·rw [if_pos c] at h
  obtain rfl := Option.some.inj h
  exact impl_decimal.walk a0 w c.1 c.2 hT_
 ·rw [if_neg c] at h
  cases h

def impl_plan.fk (l : List S50) (w h : Int) (b : Int) : Nat → Option Nat
 | 0 => none
 | n + 1 => match impl_plan.fk l w h b n with
  | some i => some i
  | none => if (rd_T50 l (n : Int)).f0 ≤ w ∧ (rd_T50 l (n : Int)).f1 ≤ h ∧ (rd_T50 l (n : Int)).f2 = b then some n else none
def impl_plan.at (t : List Int) (x y : Nat) : Int := rd t ((x * 41 + y : Nat) : Int)
def impl_plan.fx (t : List Int) (w h : Nat) (b : Int) : Nat → Option Nat
 | 0 => none
 | n + 1 => match impl_plan.fx t w h b n with
  | some i => some i
  | none => if wrap64 (impl_plan.at t (n + 1) h + impl_plan.at t (w - (n + 1)) h) = b then some (n + 1) else none
def impl_plan.fy (t : List Int) (w h : Nat) (b : Int) : Nat → Option Nat
 | 0 => none
 | n + 1 => match impl_plan.fy t w h b n with
  | some i => some i
  | none => if wrap64 (impl_plan.at t w (n + 1) + impl_plan.at t w (h - (n + 1))) = b then some (n + 1) else none
def impl_plan.join (c : UInt8) (x : Nat) (p q : ByteArray) : ByteArray := ((((((⟨#[c]⟩ : ByteArray) ++ ⟨(Go.Lib.itoa (x : Int)).toArray⟩) ++ ⟨#[40]⟩) ++ p) ++ ⟨#[41, 40]⟩) ++ q) ++ ⟨#[41]⟩
def impl_plan.f (t : List Int) (l : List S50) : Nat → Nat → Nat → Option ByteArray
 | 0, _, _ => none
 | k + 1, w, h => if impl_plan.at t w h = 0 then some ⟨#[46]⟩ else match impl_plan.fk l w h (impl_plan.at t w h) l.length with
  | some i => some ⟨#[UInt8.ofNat (97 + i)]⟩
  | none => match impl_plan.fx t w h (impl_plan.at t w h) (w - 1) with
   | some x => (impl_plan.f t l k x h).bind fun p => (impl_plan.f t l k (w - x) h).bind fun q => if p.size ≤ 1000000000 ∧ q.size ≤ 1000000000 then some (impl_plan.join 124 x p q) else none
   | none => match impl_plan.fy t w h (impl_plan.at t w h) (h - 1) with
    | some y => (impl_plan.f t l k w y).bind fun p => (impl_plan.f t l k w (h - y)).bind fun q => if p.size ≤ 1000000000 ∧ q.size ≤ 1000000000 then some (impl_plan.join 45 y p q) else none
    | none => some ⟨#[46]⟩
theorem impl_plan.fk_lt {l : List S50} {w h b : Int} : ∀ {n i : Nat}, impl_plan.fk l w h b n = some i → i < n
 | 0, _, h => by cases h
 | n + 1, i, h => by
  unfold impl_plan.fk at h
  split at h
  ·rename_i j hj
   have := impl_plan.fk_lt hj
   obtain rfl := Option.some.inj h
   omega
  ·split at h
   ·obtain rfl := Option.some.inj h; omega
   ·cases h
theorem impl_plan.fx_in {t : List Int} {w h : Nat} {b : Int} : ∀ {n i : Nat}, impl_plan.fx t w h b n = some i → 1 ≤ i ∧ i ≤ n
 | 0, _, h => by cases h
 | n + 1, i, h => by
  unfold impl_plan.fx at h
  split at h
  ·rename_i j hj
   have := impl_plan.fx_in hj
   obtain rfl := Option.some.inj h
   omega
  ·split at h
   ·obtain rfl := Option.some.inj h; omega
   ·cases h
theorem impl_plan.fy_in {t : List Int} {w h : Nat} {b : Int} : ∀ {n i : Nat}, impl_plan.fy t w h b n = some i → 1 ≤ i ∧ i ≤ n
 | 0, _, h => by cases h
 | n + 1, i, h => by
  unfold impl_plan.fy at h
  split at h
  ·rename_i j hj
   have := impl_plan.fy_in hj
   obtain rfl := Option.some.inj h
   omega
  ·split at h
   ·obtain rfl := Option.some.inj h; omega
   ·cases h
theorem impl_plan.fk_keep {l : List S50} {w h b : Int} {n i : Nat} (hf : impl_plan.fk l w h b n = some i) : ∀ d, impl_plan.fk l w h b (n + d) = some i
 | 0 => hf
 | d + 1 => by
  show impl_plan.fk l w h b ((n + d) + 1) = some i
  unfold impl_plan.fk
  rw [impl_plan.fk_keep hf d]
theorem impl_plan.fx_keep {t : List Int} {w h : Nat} {b : Int} {n i : Nat} (hf : impl_plan.fx t w h b n = some i) : ∀ d, impl_plan.fx t w h b (n + d) = some i
 | 0 => hf
 | d + 1 => by
  show impl_plan.fx t w h b ((n + d) + 1) = some i
  unfold impl_plan.fx
  rw [impl_plan.fx_keep hf d]
theorem impl_plan.fy_keep {t : List Int} {w h : Nat} {b : Int} {n i : Nat} (hf : impl_plan.fy t w h b n = some i) : ∀ d, impl_plan.fy t w h b (n + d) = some i
 | 0 => hf
 | d + 1 => by
  show impl_plan.fy t w h b ((n + d) + 1) = some i
  unfold impl_plan.fy
  rw [impl_plan.fy_keep hf d]
theorem impl_plan.fk_not {l : List S50} {w h b : Int} {n m : Nat} (hf : impl_plan.fk l w h b m = none) (hn : n ≤ m) : impl_plan.fk l w h b n = none := by
 cases e : impl_plan.fk l w h b n with
 | none => rfl
 | some i =>
  have := impl_plan.fk_keep e (m - n)
  rw [show n + (m - n) = m by omega, hf] at this
  cases this
set_option maxHeartbeats 16000000 in
set_option maxRecDepth 100000 in
theorem impl_plan.walk (A2 : Option Addr) (c2 : Nat) (l2 : List S50) (t : List Int) (g : Nat) (hc2 : l2.length ≤ c2) (hl : l2.length ≤ 6) : ∀ (k w h : Nat) (r : ByteArray) (W : World) (_ : TabL W) (_ : impl_valuesOf.Is W g t) (_ : Kd.C k50 W A2 l2.length l2) (_ : 1 ≤ w ∧ w ≤ 40) (_ : 1 ≤ h ∧ h ≤ 40) (_ : impl_plan.f t l2 k w h = some r),
  Calls Tryd.prog 45 #[.pointer (some ⟨g, 0, none⟩), .int .i64 (w : Int), .int .i64 (h : Int), .slice A2 l2.length c2] W fun e w' => e = .returned (.string r) ∧ Below W.heap.size W w'
 | 0, _, _, _, _, _, _, _, _, _, hf => by cases hf
 | k + 1, w, h, r, W, hT, hI, hr, hw, hh, hf => by
  have ih := impl_plan.walk A2 c2 l2 t g hc2 hl k
  have mixed : Tryd.prog.follows .mixedOrders = true := by kernel_rfl
  have HIH := Aside0.mk ih
  have HT := Aside0.mk hT
  have HR2 := Aside0.mk hr
  have HB := Aside0.mk (Below.refl W.heap.size W)
  have HI := Aside0.mk hI
  clear ih hT hr
  have hw1 := hw.1
  have hw2 := hw.2
  have hh1 := hh.1
  have hh2 := hh.2
  clear hw hh
  have hcw := hI.cell (w * 41 + h) (by omega)
  have pw : (0 ≤ (w : Int) ∧ (w : Int) < 41) = True := eq_true ⟨by omega, by omega⟩
  have ph : (0 ≤ (h : Int) ∧ (h : Int) < 41) = True := eq_true ⟨by omega, by omega⟩
  unfold impl_plan.f at hf
  obtain ⟨b, hb⟩ : ∃ b, b = impl_plan.at t w h := ⟨_, rfl⟩
  rw [show rd t ((w * 41 + h : Nat) : Int) = b from hb.symm] at hcw
  rw [← hb] at hf
  have pw2 : (w < 41) = True := eq_true (by omega)
  have ph2 : (h < 41) = True := eq_true (by omega)
  have pw3 : ((w : Int) < 41) = True := eq_true (by omega)
  have ph3 : ((h : Int) < 41) = True := eq_true (by omega)
  clear hI hb
  by_cases c0 : b = 0
  ·rw [if_pos c0] at hf
   obtain rfl := Option.some.inj hf
   have c0b : (b == 0) = true := beq_iff_eq.mpr c0
   clear c0 hf
   go_enter Tryd.func45, Tryd.ntmps45
   go_wp2
   go_ret
   exact ⟨rfl, HB.out⟩
  ·rw [if_neg c0] at hf
   have c0b : (b == 0) = false := beq_eq_false_iff_ne.mpr c0
   have HF := Aside0.mk hf
   clear c0 hf
   go_enter Tryd.func45, Tryd.ntmps45
   go_wp2
   clear hcw
   go_loopg [25] l2.length (fun gg s25 wr => ∃ n : Nat, s25 = .int .i64 (n : Int) ∧ Aside0 (n + gg = l2.length) ∧ Aside0 (impl_plan.fk l2 (w : Int) (h : Int) b n = none) ∧ Aside0 (impl_valuesOf.Is wr g t) ∧ Aside0 (Below W.heap.size W wr))
   case atStart => exact ⟨0, rfl, ⟨by omega⟩, ⟨rfl⟩, HI, HB⟩
   case round =>
    clear HI HB
    obtain ⟨n, rfl, HN, HFK, HI, HB⟩ := hrel
    cases gk with
    | zero =>
     have hn : n = l2.length := by have := HN.out; omega
     subst hn
     have cn : decide (((l2.length : Nat) : Int) < ((l2.length : Nat) : Int)) = false := decide_eq_false (by omega)
     go_wp2
     have hf := HF.out
     rw [HFK.out] at hf
     have HF := Aside0.mk hf
     clear hf HFK HN
     go_loopg [12] (w - 1) (fun gg s12 wr => ∃ x : Nat, s12 = .int .i64 (x : Int) ∧ Aside0 (1 ≤ x) ∧ Aside0 (x + gg = w) ∧ Aside0 (impl_plan.fx t w h b (x - 1) = none) ∧ Aside0 (impl_valuesOf.Is wr g t) ∧ Aside0 (Below W.heap.size W wr))
     case atStart => exact ⟨1, rfl, ⟨by omega⟩, ⟨by omega⟩, ⟨rfl⟩, HI, HB⟩
     case round =>
      clear HI HB
      obtain ⟨x, rfl, X1, HN, HFX, HI, HB⟩ := hrel
      have x1 := X1.out
      cases gk with
      | zero =>
       have hx : w = x := by have := HN.out; omega
       subst hx
       have cx : decide ((w : Int) < (w : Int)) = false := decide_eq_false (by omega)
       go_wp2
       have hf := HF.out
       rw [HFX.out] at hf
       have HF := Aside0.mk hf
       clear hf HFX HN
       go_loopg [13] (h - 1) (fun gg s13 wr => ∃ y : Nat, s13 = .int .i64 (y : Int) ∧ Aside0 (1 ≤ y) ∧ Aside0 (y + gg = h) ∧ Aside0 (impl_plan.fy t w h b (y - 1) = none) ∧ Aside0 (impl_valuesOf.Is wr g t) ∧ Aside0 (Below W.heap.size W wr))
       case atStart => exact ⟨1, rfl, ⟨by omega⟩, ⟨by omega⟩, ⟨rfl⟩, HI, HB⟩
       case round =>
        clear HI HB
        obtain ⟨y, rfl, Y1, HN, HFY, HI, HB⟩ := hrel
        have y1 := Y1.out
        cases gk with
        | zero =>
         have hy : h = y := by have := HN.out; omega
         subst hy
         have cy : decide ((h : Int) < (h : Int)) = false := decide_eq_false (by omega)
         have hf := HF.out
         rw [HFY.out] at hf
         obtain rfl := Option.some.inj hf
         clear hf
         go_wp2
         go_ret
         exact ⟨rfl, HB.out⟩
        | succ k5 =>
         have hv : y < h := by have := HN.out; omega
         have cv : decide ((y : Int) < (h : Int)) = true := decide_eq_true (by omega)
         have pv : (0 ≤ (y : Int) ∧ (y : Int) < 41) = True := eq_true ⟨by omega, by omega⟩
         have pv2 : (y < 41) = True := eq_true (by omega)
         have pv3 : ((y : Int) < 41) = True := eq_true (by omega)
         have hsub : (h : Int) - (y : Int) = ((h - y : Nat) : Int) := by omega
         have ps : (0 ≤ ((h - y : Nat) : Int) ∧ ((h - y : Nat) : Int) < 41) = True := eq_true ⟨by omega, by omega⟩
         have ps2 : (h - y < 41) = True := eq_true (by omega)
         have ps3 : (((h - y : Nat) : Int) < 41) = True := eq_true (by omega)
         have hwr : IntKind.i64.wrap ((h - y : Nat) : Int) = ((h - y : Nat) : Int) := by rw [i64_w]; unfold wrap64; omega
         obtain ⟨va, hva⟩ : ∃ va, va = impl_plan.at t w y := ⟨_, rfl⟩
         obtain ⟨vb, hvb⟩ : ∃ vb, vb = impl_plan.at t w (h - y) := ⟨_, rfl⟩
         have hcA := show wr.drew.cell? ⟨g, (w * 41 + y), none⟩ = some (.int .i64 va) from by rw [hva]; exact HI.out.cell (w * 41 + y) (by omega)
         have hcB := show wr.drew.cell? ⟨g, (w * 41 + (h - y)), none⟩ = some (.int .i64 vb) from by rw [hvb]; exact HI.out.cell (w * 41 + (h - y)) (by omega)
         have hstep : impl_plan.fy t w h b (y + 1 - 1) = if IntKind.i64.wrap (va + vb) = b then some y else none := by
          obtain ⟨m, rfl⟩ : ∃ m, y = m + 1 := ⟨y - 1, by omega⟩
          rw [Nat.add_sub_cancel, impl_plan.fy, show impl_plan.fy t w h b m = none from HFY.out, i64_w, hva, hvb]
         clear hva hvb
         go_wp2
         refine wp_region_still_lit mixed (by kernel_rfl) ?_
         repeat still_step
         refine wpStill_nil ?_
         change Exit.then _ _ _ _ wr.drew
         have HI2 := Aside0.mk (HI.out.below (below_drew (Below.refl _ _)))
         have HB2 := Aside0.mk (below_drew1 HB.out)
         generalize wr.drew = wr2 at HI2 HB2 ⊢
         clear HI HB hcA hcB
         by_cases ce : IntKind.i64.wrap (va + vb) = b
         ·rw [if_pos ce] at hstep
          have ceb : (IntKind.i64.wrap (va + vb) == b) = true := beq_iff_eq.mpr ce
          have hkeep := impl_plan.fy_keep hstep (h - 1 - (y + 1 - 1))
          rw [show y + 1 - 1 + (h - 1 - (y + 1 - 1)) = h - 1 by omega] at hkeep
          have hf := HF.out
          rw [hkeep] at hf
          obtain ⟨q1, hq1, hf⟩ := Option.bind_eq_some_iff.mp hf
          obtain ⟨q2, hq2, hf⟩ := Option.bind_eq_some_iff.mp hf
          by_cases cs : q1.size ≤ 1000000000 ∧ q2.size ≤ 1000000000
          ·rw [if_pos cs] at hf
           obtain rfl := Option.some.inj hf
           obtain ⟨d, hd⟩ : ∃ d : ByteArray, d = ⟨(Go.Lib.itoa (y : Int)).toArray⟩ := ⟨_, rfl⟩
           have hds : d.size ≤ 21 := by rw [hd]; exact Go.Lib.itoa_length_le (y : Int) (by omega) (by omega)
           have HD := Aside0.mk (show ∀ W', TabL W' → Calls Tryd.prog 58 #[.int .i64 (y : Int)] W' (fun e w' => e = .returned (.string d) ∧ Below W'.heap.size W' w') from fun W' hT' => by rw [hd]; exact impl_decimal.walk _ _ (by omega) (by omega) hT')
           have HQ1 := Aside0.mk hq1
           have HQ2 := Aside0.mk hq2
           have HJ := Aside0.mk (show impl_plan.join 45 y q1 q2 = ((((((⟨#[45]⟩ : ByteArray) ++ d) ++ (⟨#[40]⟩ : ByteArray)) ++ q1) ++ (⟨#[41, 40]⟩ : ByteArray)) ++ q2) ++ (⟨#[41]⟩ : ByteArray) from by rw [hd]; rfl)
           have hz1 := cs.1
           have hz2 := cs.2
           have s1 : (9223372036854775807 < 1 + d.size) = False := eq_false (by omega)
           have s2 : (9223372036854775807 < 1 + d.size + 1) = False := eq_false (by omega)
           have s3 : (9223372036854775807 < 1 + d.size + 1 + q1.size) = False := eq_false (by omega)
           have s4 : (9223372036854775807 < 1 + d.size + 1 + q1.size + 2) = False := eq_false (by omega)
           have s5 : (9223372036854775807 < 1 + d.size + 1 + q1.size + 2 + q2.size) = False := eq_false (by omega)
           have s6 : (9223372036854775807 < 1 + d.size + 1 + q1.size + 2 + q2.size + 1) = False := eq_false (by omega)
           have HV := Aside0.mk hv
           clear hd hds hq1 hq2 hz1 hz2 cs hf hkeep hstep ce hv
           go_wp2_with (first
            | (go_at_call 58; (refine (HD.out _ (TabL.keep HT.out HB2.out)).mono ?_); rintro e w3 ⟨rfl, hb⟩; have HB3 := Aside0.mk (HB2.out.trans (hb.mono HB2.out.size)); have HI3 := Aside0.mk (HI2.out.below hb); clear hb HB2 HI2 HD)
            | (go_at_call 45; (refine (HIH.out w y q1 _ (TabL.keep HT.out HB3.out) HI3.out (Kd.C_below HR2.out HB3.out) ⟨by have := HV.out; omega, by have := HV.out; omega⟩ ⟨by have := HV.out; omega, by have := HV.out; omega⟩ HQ1.out).mono ?_); rintro e w4 ⟨rfl, hb⟩; have HB4 := Aside0.mk (HB3.out.trans (hb.mono HB3.out.size)); have HI4 := Aside0.mk (HI3.out.below hb); clear hb HB3 HI3 HQ1)
            | (go_at_call 45; (refine (HIH.out w (h - y) q2 _ (TabL.keep HT.out HB4.out) HI4.out (Kd.C_below HR2.out HB4.out) ⟨by have := HV.out; omega, by have := HV.out; omega⟩ ⟨by have := HV.out; omega, by have := HV.out; omega⟩ HQ2.out).mono ?_); rintro e w5 ⟨rfl, hb⟩; have HB5 := Aside0.mk (HB4.out.trans (hb.mono HB4.out.size)); clear hb HB4 HI4 HQ2))
           go_ret
           exact ⟨by rw [HJ.out]; rfl, HB5.out⟩
          ·rw [if_neg cs] at hf
           cases hf
         ·rw [if_neg ce] at hstep
          have ceb : (IntKind.i64.wrap (va + vb) == b) = false := beq_eq_false_iff_ne.mpr ce
          clear ce
          go_wp2
          go_roundg k5
          case measure => omega
          case rel => exact ⟨y + 1, by first | rfl | (congr 1; omega), ⟨by omega⟩, ⟨by have := HN.out; omega⟩, ⟨hstep⟩, HI2, HB2⟩
      | succ k4 =>
       have hv : x < w := by have := HN.out; omega
       have cv : decide ((x : Int) < (w : Int)) = true := decide_eq_true (by omega)
       have pv : (0 ≤ (x : Int) ∧ (x : Int) < 41) = True := eq_true ⟨by omega, by omega⟩
       have pv2 : (x < 41) = True := eq_true (by omega)
       have pv3 : ((x : Int) < 41) = True := eq_true (by omega)
       have hsub : (w : Int) - (x : Int) = ((w - x : Nat) : Int) := by omega
       have ps : (0 ≤ ((w - x : Nat) : Int) ∧ ((w - x : Nat) : Int) < 41) = True := eq_true ⟨by omega, by omega⟩
       have ps2 : (w - x < 41) = True := eq_true (by omega)
       have ps3 : (((w - x : Nat) : Int) < 41) = True := eq_true (by omega)
       have hwr : IntKind.i64.wrap ((w - x : Nat) : Int) = ((w - x : Nat) : Int) := by rw [i64_w]; unfold wrap64; omega
       obtain ⟨va, hva⟩ : ∃ va, va = impl_plan.at t x h := ⟨_, rfl⟩
       obtain ⟨vb, hvb⟩ : ∃ vb, vb = impl_plan.at t (w - x) h := ⟨_, rfl⟩
       have hcA := show wr.drew.cell? ⟨g, (x * 41 + h), none⟩ = some (.int .i64 va) from by rw [hva]; exact HI.out.cell (x * 41 + h) (by omega)
       have hcB := show wr.drew.cell? ⟨g, ((w - x) * 41 + h), none⟩ = some (.int .i64 vb) from by rw [hvb]; exact HI.out.cell ((w - x) * 41 + h) (by omega)
       have hstep : impl_plan.fx t w h b (x + 1 - 1) = if IntKind.i64.wrap (va + vb) = b then some x else none := by
        obtain ⟨m, rfl⟩ : ∃ m, x = m + 1 := ⟨x - 1, by omega⟩
        rw [Nat.add_sub_cancel, impl_plan.fx, show impl_plan.fx t w h b m = none from HFX.out, i64_w, hva, hvb]
       clear hva hvb
       go_wp2
       refine wp_region_still_lit mixed (by kernel_rfl) ?_
       repeat still_step
       refine wpStill_nil ?_
       change Exit.then _ _ _ _ wr.drew
       have HI2 := Aside0.mk (HI.out.below (below_drew (Below.refl _ _)))
       have HB2 := Aside0.mk (below_drew1 HB.out)
       generalize wr.drew = wr2 at HI2 HB2 ⊢
       clear HI HB hcA hcB
       by_cases ce : IntKind.i64.wrap (va + vb) = b
       ·rw [if_pos ce] at hstep
        have ceb : (IntKind.i64.wrap (va + vb) == b) = true := beq_iff_eq.mpr ce
        have hkeep := impl_plan.fx_keep hstep (w - 1 - (x + 1 - 1))
        rw [show x + 1 - 1 + (w - 1 - (x + 1 - 1)) = w - 1 by omega] at hkeep
        have hf := HF.out
        rw [hkeep] at hf
        obtain ⟨q1, hq1, hf⟩ := Option.bind_eq_some_iff.mp hf
        obtain ⟨q2, hq2, hf⟩ := Option.bind_eq_some_iff.mp hf
        by_cases cs : q1.size ≤ 1000000000 ∧ q2.size ≤ 1000000000
        ·rw [if_pos cs] at hf
         obtain rfl := Option.some.inj hf
         obtain ⟨d, hd⟩ : ∃ d : ByteArray, d = ⟨(Go.Lib.itoa (x : Int)).toArray⟩ := ⟨_, rfl⟩
         have hds : d.size ≤ 21 := by rw [hd]; exact Go.Lib.itoa_length_le (x : Int) (by omega) (by omega)
         have HD := Aside0.mk (show ∀ W', TabL W' → Calls Tryd.prog 58 #[.int .i64 (x : Int)] W' (fun e w' => e = .returned (.string d) ∧ Below W'.heap.size W' w') from fun W' hT' => by rw [hd]; exact impl_decimal.walk _ _ (by omega) (by omega) hT')
         have HQ1 := Aside0.mk hq1
         have HQ2 := Aside0.mk hq2
         have HJ := Aside0.mk (show impl_plan.join 124 x q1 q2 = ((((((⟨#[124]⟩ : ByteArray) ++ d) ++ (⟨#[40]⟩ : ByteArray)) ++ q1) ++ (⟨#[41, 40]⟩ : ByteArray)) ++ q2) ++ (⟨#[41]⟩ : ByteArray) from by rw [hd]; rfl)
         have hz1 := cs.1
         have hz2 := cs.2
         have s1 : (9223372036854775807 < 1 + d.size) = False := eq_false (by omega)
         have s2 : (9223372036854775807 < 1 + d.size + 1) = False := eq_false (by omega)
         have s3 : (9223372036854775807 < 1 + d.size + 1 + q1.size) = False := eq_false (by omega)
         have s4 : (9223372036854775807 < 1 + d.size + 1 + q1.size + 2) = False := eq_false (by omega)
         have s5 : (9223372036854775807 < 1 + d.size + 1 + q1.size + 2 + q2.size) = False := eq_false (by omega)
         have s6 : (9223372036854775807 < 1 + d.size + 1 + q1.size + 2 + q2.size + 1) = False := eq_false (by omega)
         have HV := Aside0.mk hv
         clear hd hds hq1 hq2 hz1 hz2 cs hf hkeep hstep ce hv
         go_wp2_with (first
          | (go_at_call 58; (refine (HD.out _ (TabL.keep HT.out HB2.out)).mono ?_); rintro e w3 ⟨rfl, hb⟩; have HB3 := Aside0.mk (HB2.out.trans (hb.mono HB2.out.size)); have HI3 := Aside0.mk (HI2.out.below hb); clear hb HB2 HI2 HD)
          | (go_at_call 45; (refine (HIH.out x h q1 _ (TabL.keep HT.out HB3.out) HI3.out (Kd.C_below HR2.out HB3.out) ⟨by have := HV.out; omega, by have := HV.out; omega⟩ ⟨by have := HV.out; omega, by have := HV.out; omega⟩ HQ1.out).mono ?_); rintro e w4 ⟨rfl, hb⟩; have HB4 := Aside0.mk (HB3.out.trans (hb.mono HB3.out.size)); have HI4 := Aside0.mk (HI3.out.below hb); clear hb HB3 HI3 HQ1)
          | (go_at_call 45; (refine (HIH.out (w - x) h q2 _ (TabL.keep HT.out HB4.out) HI4.out (Kd.C_below HR2.out HB4.out) ⟨by have := HV.out; omega, by have := HV.out; omega⟩ ⟨by have := HV.out; omega, by have := HV.out; omega⟩ HQ2.out).mono ?_); rintro e w5 ⟨rfl, hb⟩; have HB5 := Aside0.mk (HB4.out.trans (hb.mono HB4.out.size)); clear hb HB4 HI4 HQ2))
         go_ret
         exact ⟨by rw [HJ.out]; rfl, HB5.out⟩
        ·rw [if_neg cs] at hf
         cases hf
       ·rw [if_neg ce] at hstep
        have ceb : (IntKind.i64.wrap (va + vb) == b) = false := beq_eq_false_iff_ne.mpr ce
        clear ce
        go_wp2
        go_roundg k4
        case measure => omega
        case rel => exact ⟨x + 1, by first | rfl | (congr 1; omega), ⟨by omega⟩, ⟨by have := HN.out; omega⟩, ⟨hstep⟩, HI2, HB2⟩
    | succ k3 =>
     have hn : n < l2.length := by have := HN.out; omega
     have cn : decide ((n : Int) < ((l2.length : Nat) : Int)) = true := decide_eq_true (by omega)
     obtain ⟨ad, e1, hx0, hx1, hx2⟩ := at_T50 HR2.out (n : Int) (by omega) (by omega)
     subst e1
     replace hx0 := (HB.out.cell (World.block_lt_of_cell? _ _ hx0)).trans hx0
     replace hx1 := (HB.out.cell (World.block_lt_of_cell? _ _ hx1)).trans hx1
     replace hx2 := (HB.out.cell (World.block_lt_of_cell? _ _ hx2)).trans hx2
     have p1 : (0 ≤ (n : Int)) = True := eq_true (by omega)
     have hfk : impl_plan.fk l2 (w : Int) (h : Int) b (n + 1) = if (rd_T50 l2 (n : Int)).f0 ≤ (w : Int) ∧ (rd_T50 l2 (n : Int)).f1 ≤ (h : Int) ∧ (rd_T50 l2 (n : Int)).f2 = b then some n else none := by
      rw [impl_plan.fk, HFK.out]
     simp only [Int.toNat_natCast] at hx0 hx1 hx2
     generalize rd_T50 l2 (n : Int) = x at hx0 hx1 hx2 hfk
     by_cases c0 : x.f0 ≤ (w : Int)
     ·have d0 : decide (x.f0 ≤ (w : Int)) = true := decide_eq_true c0
      by_cases c1 : x.f1 ≤ (h : Int)
      ·have d1 : decide (x.f1 ≤ (h : Int)) = true := decide_eq_true c1
       by_cases c2' : x.f2 = b
       ·have d2 : (x.f2 == b) = true := beq_iff_eq.mpr c2'
        rw [if_pos ⟨c0, c1, c2'⟩] at hfk
        have hf := HF.out
        have hk2 := impl_plan.fk_keep hfk (l2.length - (n + 1))
        rw [show n + 1 + (l2.length - (n + 1)) = l2.length by omega] at hk2
        rw [hk2] at hf
        have hre := Option.some.inj hf
        clear hf hk2 hfk
        have hn6 : n < 6 := by omega
        have hcv : ∀ j : Nat, j < 6 → Utf8.encode (97 + (j : Int)) = ⟨#[UInt8.ofNat (97 + j)]⟩ := by
         intro j hj
         match j, hj with
         | 0, _ => rfl
         | 1, _ => rfl
         | 2, _ => rfl
         | 3, _ => rfl
         | 4, _ => rfl
         | 5, _ => rfl
        have hcn := (hcv n hn6).trans hre
        clear hcv hre
        have hwn : IntKind.i64.wrap (97 + (n : Int)) = 97 + (n : Int) := by rw [i64_w]; unfold wrap64; omega
        have hwn2 : IntKind.i32.wrap (97 + (n : Int)) = 97 + (n : Int) := by rw [i32_w]; unfold wrap32; omega
        go_wp2
        go_ret
        exact ⟨rfl, by repeat (first | exact HB.out | refine below_alloc ?_ _)⟩
       ·have d2 : (x.f2 == b) = false := beq_eq_false_iff_ne.mpr c2'
        rw [if_neg (fun hq => c2' hq.2.2)] at hfk
        go_wp2
        go_roundg k3
        case measure => omega
        case rel =>
         have HB2 := Aside0.mk (show Below wr.heap.size wr (wr.alloc (Obj.cells #[Value.int IntKind.i64 x.f0, Value.int IntKind.i64 x.f1, Value.int IntKind.i64 x.f2] 50)) from below_alloc (Below.refl _ _) _)
         exact ⟨n + 1, rfl, ⟨by have := HN.out; omega⟩, ⟨hfk⟩, ⟨HI.out.below HB2.out⟩, ⟨HB.out.trans (HB2.out.mono HB.out.size)⟩⟩
      ·have d1 : decide (x.f1 ≤ (h : Int)) = false := decide_eq_false c1
       rw [if_neg (fun hq => c1 hq.2.1)] at hfk
       go_wp2
       go_roundg k3
       case measure => omega
       case rel =>
        have HB2 := Aside0.mk (show Below wr.heap.size wr (wr.alloc (Obj.cells #[Value.int IntKind.i64 x.f0, Value.int IntKind.i64 x.f1, Value.int IntKind.i64 x.f2] 50)) from below_alloc (Below.refl _ _) _)
        exact ⟨n + 1, rfl, ⟨by have := HN.out; omega⟩, ⟨hfk⟩, ⟨HI.out.below HB2.out⟩, ⟨HB.out.trans (HB2.out.mono HB.out.size)⟩⟩
     ·have d0 : decide (x.f0 ≤ (w : Int)) = false := decide_eq_false c0
      rw [if_neg (fun hq => c0 hq.1)] at hfk
      go_wp2
      go_roundg k3
      case measure => omega
      case rel =>
       have HB2 := Aside0.mk (show Below wr.heap.size wr (wr.alloc (Obj.cells #[Value.int IntKind.i64 x.f0, Value.int IntKind.i64 x.f1, Value.int IntKind.i64 x.f2] 50)) from below_alloc (Below.refl _ _) _)
       exact ⟨n + 1, rfl, ⟨by have := HN.out; omega⟩, ⟨hfk⟩, ⟨HI.out.below HB2.out⟩, ⟨HB.out.trans (HB2.out.mono HB.out.size)⟩⟩

def impl_BestPlan.f (a0 : Int) (a1 : Int) (l2 : List S50) : Option (ByteArray × Int) := (impl_checkTable.f a0 a1 l2).bind fun c => if c = 0 then (if 1 ≤ a0 ∧ a0 ≤ 40 ∧ 1 ≤ a1 ∧ a1 ≤ 40 ∧ l2.length ≤ 6 then ((impl_plan.f (impl_valuesOf.tab l2 a1.toNat a0.toNat) l2 (a0.toNat + a1.toNat) a0.toNat a1.toNat).bind fun p => some (p, 0)) else none) else some (⟨#[]⟩, c)
set_option maxHeartbeats 4000000 in
set_option maxRecDepth 100000 in
theorem impl_BestPlan.calls (a0 : Int) (a1 : Int) (A2 : Option Addr) (c2 : Nat) (l2 : List S50) (r1 : ByteArray) (r2 : Int) (w : World) (hT_ : TabL w) (hr2 : Kd.C k50 w A2 l2.length l2) (hc2 : l2.length ≤ c2) (h : impl_BestPlan.f a0 a1 l2 = some (r1, r2)) :
  Calls Tryd.prog 19 #[.int .i64 a0, .int .i64 a1, .slice A2 l2.length c2] w fun e w' => e = .returned (.tuple #[.string r1, .int .i64 r2]) ∧ Below w.heap.size w w' := by
 unfold impl_BestPlan.f at h
 obtain ⟨c, A1, h⟩ := Option.bind_eq_some_iff.mp h
 have HR2 := Aside0.mk hr2
 have HT := Aside0.mk hT_
 have A1 := Aside0.mk A1
 clear hr2 hT_
 by_cases hc : c = 0
 ·rw [if_pos hc] at h
  subst hc
  by_cases hd : 1 ≤ a0 ∧ a0 ≤ 40 ∧ 1 ≤ a1 ∧ a1 ≤ 40 ∧ l2.length ≤ 6
  ·rw [if_pos hd] at h
   obtain ⟨p, hp, h⟩ := Option.bind_eq_some_iff.mp h
   obtain ⟨rfl, rfl⟩ := Prod.mk.inj (Option.some.inj h)
   clear h
   obtain ⟨W, rfl⟩ := Int.eq_ofNat_of_zero_le (show 0 ≤ a0 by omega)
   obtain ⟨H, rfl⟩ := Int.eq_ofNat_of_zero_le (show 0 ≤ a1 by omega)
   obtain ⟨h0, h1, h2, h3, h4⟩ := hd
   have hW : 1 ≤ W ∧ W ≤ 40 := by omega
   have hH : 1 ≤ H ∧ H ≤ 40 := by omega
   have HP := Aside0.mk (show impl_plan.f (impl_valuesOf.tab l2 H W) l2 (W + H) W H = some p from hp)
   have HWH := Aside0.mk (And.intro hW hH)
   clear h0 h1 h2 h3 hp hW hH
   go_enter Tryd.func19, Tryd.ntmps19
   go_wp2_with (first
    | (go_at_call 43; (refine (impl_checkTable.calls _ _ A2 c2 l2 0 _ HR2.out hc2 A1.out).mono ?_); rintro e w1 ⟨rfl, HB0⟩; have HB := Aside0.mk (show Below w.heap.size w w1 from HB0); clear HB0)
    | (go_at_call 44; (refine (impl_valuesOf.calls A2 c2 l2 W H _ HWH.out.1.2 HWH.out.2.2 (Kd.C_below HR2.out HB.out) hc2 (by omega)).mono ?_); rintro e w2 ⟨g, rfl, hg, hi, hb⟩; have HC := Aside0.mk (HB.out.trans (hb.mono HB.out.size)); have HI := Aside0.mk hi; clear hg hi hb)
    | (go_at_call 45; (refine (impl_plan.walk A2 c2 l2 _ g hc2 h4 (W + H) W H p _ (TabL.keep HT.out HC.out) HI.out (Kd.C_below HR2.out HC.out) HWH.out.1 HWH.out.2 HP.out).mono ?_); rintro e w3 ⟨rfl, hb⟩; have HD := Aside0.mk (HC.out.trans (hb.mono HC.out.size)); clear hb))
   go_ret2
   exact ⟨rfl, HD.out⟩
  ·rw [if_neg hd] at h
   cases h
 ·rw [if_neg hc] at h
  obtain ⟨rfl, rfl⟩ := Prod.mk.inj (Option.some.inj h)
  have hn : (c != 0) = true := bne_iff_ne.mpr hc
  go_enter Tryd.func19, Tryd.ntmps19
  go_wp2_with (first
   | (go_at_call 43; (refine (impl_checkTable.calls _ _ A2 c2 l2 c _ HR2.out hc2 A1.out).mono ?_); rintro e w1 ⟨rfl, HB0⟩; have HB := Aside0.mk (show Below w.heap.size w w1 from HB0); clear HB0))
  go_ret2
  exact ⟨rfl, HB.out⟩








def strings_Index.f (a0 : ByteArray) (a1 : ByteArray) : Option Int := match a1.data.toList with
 | [b] => some (Go.Lib.indexByte a0.data.toList b)
 | _ => none
theorem strings_Index.calls (a0 : ByteArray) (a1 : ByteArray) (r : Int) (w : World) (h : strings_Index.f a0 a1 = some r) :
  Calls Tryd.prog 65 #[.string a0, .string a1] w fun e w' => e = .returned (.int .i64 r) ∧ Drawn0 w w' := by
 unfold strings_Index.f at h
 split at h
 ·rename_i b hb
  obtain rfl := Option.some.inj h
  have e1 : a1 = ⟨#[b]⟩ := by
   obtain ⟨⟨l⟩⟩ := a1
   simp only at hb
   subst hb
   rfl
  subst e1
  refine (Any.strings_Index_one Tryd.lays143 a0 b w).mono ?_
  rintro e w' ⟨rfl, rfl⟩
  exact ⟨rfl, Drawn0.refl _⟩
 ·cases h















end Go.Proofs.YtomddpdfcdnaaaaDoor.PFnBestPlans
