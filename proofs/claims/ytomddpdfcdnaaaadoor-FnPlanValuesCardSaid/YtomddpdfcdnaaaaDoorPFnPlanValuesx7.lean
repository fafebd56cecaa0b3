import Derived.Test.YtomddpdfcdnaaaaDoorPFnPlanValuesx0
import Derived.Test.YtomddpdfcdnaaaaDoorPFnPlanValuesx4
import Derived.StillTactics
namespace Go.Proofs.YtomddpdfcdnaaaaDoor.PFnPlanValues
open Go.RowKit Go.Proofs.YtomddpdfcdnaaaaDoorW.PrintWords Go.Proofs.YtomddpdfcdnaaaaDoorW.PrintLast Go.Proofs.YtomddpdfcdnaaaaDoorW.PrintMore
attribute [local go_sem] max2_int min2_int max_two min_two max_three min_three max_four min_four   -- for this text's walks alone
set_option linter.unusedVariables false
set_option linter.unusedSimpArgs false

def l12Kd (l : List S50) (w h : Int) (n : Nat) : Int := (l.take n).foldl (fun b k => if k.f0 ≤ w then (if k.f1 ≤ h then max b k.f2 else b) else b) 0
theorem l12Kd_step (l : List S50) (w h : Int) (n : Nat) (hn : n < l.length) : l12Kd l w h (n + 1) = (if (rd_T50 l (n : Int)).f0 ≤ w then (if (rd_T50 l (n : Int)).f1 ≤ h then max (l12Kd l w h n) (rd_T50 l (n : Int)).f2 else l12Kd l w h n) else l12Kd l w h n) := by
 unfold l12Kd
 rw [List.take_succ_eq_append_getElem hn, List.foldl_append, List.foldl_cons, List.foldl_nil]
 have : rd_T50 l (n : Int) = l[n] := by simp [rd_T50, List.getD_eq_getElem?_getD, List.getElem?_eq_getElem hn]
 rw [this]
theorem impl_valuesOf.zero (w : World) : (zeroValue 78).run Tryd.prog w = .ok (.agg (Array.replicate 1681 (.int .i64 0))) w := by kernel_rfl
def impl_valuesOf.cx (t : List Int) (w h : Nat) (b : Int) : Nat → Int
 | 0 => b
 | n + 1 => max (impl_valuesOf.cx t w h b n) (wrap64 (rd t (((n + 1) * 41 + h : Nat) : Int) + rd t (((w - (n + 1)) * 41 + h : Nat) : Int)))
def impl_valuesOf.cy (t : List Int) (w h : Nat) (b : Int) : Nat → Int
 | 0 => b
 | n + 1 => max (impl_valuesOf.cy t w h b n) (wrap64 (rd t ((w * 41 + (n + 1) : Nat) : Int) + rd t ((w * 41 + (h - (n + 1)) : Nat) : Int)))
def impl_valuesOf.best (t : List Int) (l : List S50) (w h : Nat) : Int := impl_valuesOf.cy t w h (impl_valuesOf.cx t w h (l12Kd l w h l.length) (w - 1)) (h - 1)
def impl_valuesOf.row (t : List Int) (l : List S50) (w : Nat) : Nat → List Int
 | 0 => t
 | n + 1 => (impl_valuesOf.row t l w n).set (w * 41 + (n + 1)) (impl_valuesOf.best (impl_valuesOf.row t l w n) l w (n + 1))
def impl_valuesOf.tab (l : List S50) (H : Nat) : Nat → List Int
 | 0 => List.replicate 1681 0
 | n + 1 => impl_valuesOf.row (impl_valuesOf.tab l H n) l (n + 1) H
structure impl_valuesOf.Is (w : World) (g : Nat) (t : List Int) : Prop where
 blk : w.heap[g]? = some (.cells (t.map (Value.int .i64)).toArray 78 (0, 0))
 len : t.length = 1681
theorem impl_valuesOf.Is.cell {w : World} {g : Nat} {t : List Int} (h : impl_valuesOf.Is w g t) (i : Nat) (hi : i < 1681) : w.cell? ⟨g, i, none⟩ = some (.int .i64 (rd t (i : Int))) := by
 rw [blk_cell h.blk i]
 have := h.len
 simp [rd, List.getD_eq_getElem?_getD, List.getElem?_eq_getElem (show i < t.length by omega)]
theorem impl_valuesOf.Is.set {w : World} {g : Nat} {t : List Int} (h : impl_valuesOf.Is w g t) (i : Nat) (v : Int) : impl_valuesOf.Is (w.setCell ⟨g, i, none⟩ (.int .i64 v)) g (t.set i v) :=
 ⟨blk_put h.blk i (.int .i64 v) (by simp [List.map_set]), by rw [List.length_set]; exact h.len⟩
theorem impl_valuesOf.Is.below {w W : World} {g : Nat} {t : List Int} (h : impl_valuesOf.Is w g t) (hb : Below w.heap.size w W) : impl_valuesOf.Is W g t :=
 ⟨(hb.block g (blk_lt h.blk)).trans h.blk, h.len⟩
set_option maxHeartbeats 4000000 in
set_option maxRecDepth 100000 in
theorem impl_valuesOf.calls (A2 : Option Addr) (c2 : Nat) (l2 : List S50) (W H : Nat) (w : World) (hW : W ≤ 40) (hH : H ≤ 40) (hr2 : Kd.C k50 w A2 l2.length l2) (hc2 : l2.length ≤ c2) (hl : l2.length ≤ 1000000) :
  Calls Tryd.prog 44 #[.int .i64 W, .int .i64 H, .slice A2 l2.length c2] w fun e w' => ∃ g, e = .returned (.pointer (some ⟨g, 0, none⟩)) ∧ w.heap.size ≤ g ∧ impl_valuesOf.Is w' g (impl_valuesOf.tab l2 H W) ∧ Below w.heap.size w w' := by
 have mixed : Tryd.prog.follows .mixedOrders = true := by kernel_rfl
 have hz := impl_valuesOf.zero
 obtain ⟨Z, hZ⟩ : ∃ Z : Array Value, Z = Array.replicate 1681 (.int .i64 0) := ⟨_, rfl⟩
 rw [← hZ] at hz
 have HZ := Aside0.mk hZ
 have HR2 := Aside0.mk hr2
 clear hZ hr2
 go_enter Tryd.func44, Tryd.ntmps44
 go_wp2
 have HI := Aside0.mk (show impl_valuesOf.Is (w.alloc (.cells Z 78)) w.heap.size (impl_valuesOf.tab l2 H 0) from ⟨by rw [heap_alloc_new, HZ.out, impl_valuesOf.tab, List.map_replicate, List.toArray_replicate], List.length_replicate⟩)
 have HB := Aside0.mk (show Below w.heap.size w (w.alloc (.cells Z 78)) from below_alloc (Below.refl _ _) _)
 clear hz
 obtain ⟨g, hg⟩ : ∃ g, g = w.heap.size := ⟨_, rfl⟩
 have HG := Aside0.mk hg
 generalize w.alloc (.cells Z 78) = w1 at HI HB ⊢
 rw [← hg] at HI ⊢
 clear hg HZ
 go_loopg [8] W (fun gg s8 wr => ∃ i : Nat, s8 = .int .i64 ((i : Int) + 1) ∧ Aside0 (i + gg = W) ∧ Aside0 (impl_valuesOf.Is wr g (impl_valuesOf.tab l2 H i)) ∧ Aside0 (Below w.heap.size w wr))
 case atStart => exact ⟨0, rfl, ⟨by omega⟩, HI, HB⟩
 case round =>
  clear HI HB
  obtain ⟨i, rfl, HN, HI, HB⟩ := hrel
  cases gk with
  | zero =>
   have hiW : i = W := by have := HN.out; omega
   subst hiW
   have cb : decide ((i : Int) + 1 ≤ (i : Int)) = false := decide_eq_false (by omega)
   go_wp2
   go_ret
   exact ⟨g, rfl, by rw [HG.out]; exact Nat.le_refl _, HI.out, HB.out⟩
  | succ k1 =>
   have hi : i < W := by have := HN.out; omega
   have cb : decide ((i : Int) + 1 ≤ (W : Int)) = true := decide_eq_true (by omega)
   go_wp2
   go_loopg [9] H (fun gg s9 wr => ∃ j : Nat, s9 = .int .i64 ((j : Int) + 1) ∧ Aside0 (j + gg = H) ∧ Aside0 (impl_valuesOf.Is wr g (impl_valuesOf.row (impl_valuesOf.tab l2 H i) l2 (i + 1) j)) ∧ Aside0 (Below w.heap.size w wr))
   case atStart => exact ⟨0, rfl, ⟨by omega⟩, HI, HB⟩
   case round =>
    clear HI HB
    obtain ⟨j, rfl, HM, HI, HB⟩ := hrel
    cases gk with
    | zero =>
     have hj : j = H := by have := HM.out; omega
     subst hj
     have cj : decide ((j : Int) + 1 ≤ (j : Int)) = false := decide_eq_false (by omega)
     go_wp2
     go_roundg k1
     case measure => omega
     case rel => exact ⟨i + 1, by first | rfl | (congr 1; omega), ⟨by have := HN.out; omega⟩, HI, HB⟩
    | succ k2 =>
     have hj : j < H := by have := HM.out; omega
     have cj : decide ((j : Int) + 1 ≤ (H : Int)) = true := decide_eq_true (by omega)
     go_wp2
     go_loopg [29, 10] l2.length (fun gg s29 s10 wr => ∃ n : Nat, s29 = .int .i64 (n : Int) ∧ s10 = .int .i64 (l12Kd l2 ((i : Int) + 1) ((j : Int) + 1) n) ∧ Aside0 (n + gg = l2.length) ∧ Aside0 (impl_valuesOf.Is wr g (impl_valuesOf.row (impl_valuesOf.tab l2 H i) l2 (i + 1) j)) ∧ Aside0 (Below w.heap.size w wr))
     case atStart => exact ⟨0, rfl, rfl, ⟨by omega⟩, HI, HB⟩
     case round =>
      clear HI HB
      obtain ⟨n, rfl, rfl, HQ, HI, HB⟩ := hrel
      cases gk with
      | zero =>
       have hn : n = l2.length := by have := HQ.out; omega
       subst hn
       have cn : decide (((l2.length : Nat) : Int) < ((l2.length : Nat) : Int)) = false := decide_eq_false (by omega)
       go_wp2
       clear HQ
       generalize hb0 : l12Kd l2 ((i : Int) + 1) ((j : Int) + 1) l2.length = b0
       generalize ht0 : impl_valuesOf.row (impl_valuesOf.tab l2 H i) l2 (i + 1) j = t0 at HI ⊢
       go_loopg [13, 10] i (fun gg s13 s10 wr => ∃ x : Nat, s13 = .int .i64 ((x : Int) + 1) ∧ s10 = .int .i64 (impl_valuesOf.cx t0 (i + 1) (j + 1) b0 x) ∧ Aside0 (x + gg = i) ∧ Aside0 (impl_valuesOf.Is wr g t0) ∧ Aside0 (Below w.heap.size w wr))
       case atStart => exact ⟨0, rfl, rfl, ⟨by omega⟩, HI, HB⟩
       case round =>
        clear HI HB
        obtain ⟨x, rfl, rfl, HX, HI, HB⟩ := hrel
        cases gk with
        | zero =>
         have hx : i = x := by have := HX.out; omega
         subst hx
         have cx : decide ((i : Int) + 1 < (i : Int) + 1) = false := decide_eq_false (by omega)
         go_wp2
         clear HX
         generalize hb1 : impl_valuesOf.cx t0 (i + 1) (j + 1) b0 i = b1
         go_loopg [14, 10] j (fun gg s14 s10 wr => ∃ y : Nat, s14 = .int .i64 ((y : Int) + 1) ∧ s10 = .int .i64 (impl_valuesOf.cy t0 (i + 1) (j + 1) b1 y) ∧ Aside0 (y + gg = j) ∧ Aside0 (impl_valuesOf.Is wr g t0) ∧ Aside0 (Below w.heap.size w wr))
         case atStart => exact ⟨0, rfl, rfl, ⟨by omega⟩, HI, HB⟩
         case round =>
          clear HI HB
          obtain ⟨y, rfl, rfl, HY, HI, HB⟩ := hrel
          cases gk with
          | zero =>
           have hy : j = y := by have := HY.out; omega
           subst hy
           have cy : decide ((j : Int) + 1 < (j : Int) + 1) = false := decide_eq_false (by omega)
           have pi : (0 ≤ (i : Int) + 1 ∧ (i : Int) + 1 < 41) = True := eq_true ⟨by omega, by omega⟩
           have pj : (0 ≤ (j : Int) + 1 ∧ (j : Int) + 1 < 41) = True := eq_true ⟨by omega, by omega⟩
           have hcS := HI.out.cell ((i + 1) * 41 + (j + 1)) (by omega)
           have hfS := blk_frozen HI.out.blk ((i + 1) * 41 + (j + 1))
           go_wp2
           go_roundg k2
           case measure => omega
           case rel => exact ⟨j + 1, rfl, ⟨by have := HM.out; omega⟩, ⟨by
            have hs := HI.out.set ((i + 1) * 41 + (j + 1)) (impl_valuesOf.cy t0 (i + 1) (j + 1) b1 j)
            rw [impl_valuesOf.row, ht0]
            have e : impl_valuesOf.best t0 l2 (i + 1) (j + 1) = impl_valuesOf.cy t0 (i + 1) (j + 1) b1 j := by
             unfold impl_valuesOf.best
             rw [← hb1, ← hb0]
             rfl
            rw [e]
            exact hs⟩, ⟨HB.out.setCell (by show w.heap.size ≤ g; rw [HG.out]; exact Nat.le_refl _) _⟩⟩
          | succ k5 =>
           have hy : y < j := by have := HY.out; omega
           have cy : decide ((y : Int) + 1 < (j : Int) + 1) = true := decide_eq_true (by omega)
           go_wp2
           have pi : (0 ≤ (i : Int) + 1 ∧ (i : Int) + 1 < 41) = True := eq_true ⟨by omega, by omega⟩
           have py : (0 ≤ (y : Int) + 1 ∧ (y : Int) + 1 < 41) = True := eq_true ⟨by omega, by omega⟩
           have hsub : (j : Int) + 1 - ((y : Int) + 1) = ((j - y : Nat) : Int) := by omega
           have ps : (0 ≤ ((j - y : Nat) : Int) ∧ ((j - y : Nat) : Int) < 41) = True := eq_true ⟨by omega, by omega⟩
           have ps2 : (j - y < 41) = True := eq_true (by omega)
           have ps3 : (((j - y : Nat) : Int) < 41) = True := eq_true (by omega)
           have hwr : IntKind.i64.wrap ((j - y : Nat) : Int) = ((j - y : Nat) : Int) := by rw [i64_w]; unfold wrap64; omega
           have hcA := show wr.drew.cell? ⟨g, (i + 1) * 41 + (y + 1), none⟩ = _ from HI.out.cell ((i + 1) * 41 + (y + 1)) (by omega)
           have hcB := show wr.drew.cell? ⟨g, (i + 1) * 41 + (j - y), none⟩ = _ from HI.out.cell ((i + 1) * 41 + (j - y)) (by omega)
           refine wp_region_still_lit mixed (by kernel_rfl) ?_
           repeat still_step
           refine wpStill_nil ?_
           change Exit.inBlock _ _ _ _ wr.drew
           have HI2 := Aside0.mk (HI.out.below (below_drew (Below.refl _ _)))
           have HB2 := Aside0.mk (below_drew1 HB.out)
           generalize wr.drew = wr2 at HI2 HB2 ⊢
           have hcy : impl_valuesOf.cy t0 (i + 1) (j + 1) b1 (y + 1) = max (impl_valuesOf.cy t0 (i + 1) (j + 1) b1 y) (IntKind.i64.wrap (rd t0 (((i : Int) + 1) * 41 + ((y : Int) + 1)) + rd t0 (((i : Int) + 1) * 41 + ((j - y : Nat) : Int)))) := by
            rw [impl_valuesOf.cy, i64_w, show j + 1 - (y + 1) = j - y by omega]
            rfl
           go_wp2
           all_goals
            go_roundg k5
            case measure => omega
            case rel => exact ⟨y + 1, rfl, by rw [hcy]; congr 1; omega, ⟨by have := HY.out; omega⟩, HI2, HB2⟩
        | succ k4 =>
         have hx : x < i := by have := HX.out; omega
         have cx : decide ((x : Int) + 1 < (i : Int) + 1) = true := decide_eq_true (by omega)
         go_wp2
         have px : (0 ≤ (x : Int) + 1 ∧ (x : Int) + 1 < 41) = True := eq_true ⟨by omega, by omega⟩
         have pj : (0 ≤ (j : Int) + 1 ∧ (j : Int) + 1 < 41) = True := eq_true ⟨by omega, by omega⟩
         have hsub : (i : Int) + 1 - ((x : Int) + 1) = ((i - x : Nat) : Int) := by omega
         have ps : (0 ≤ ((i - x : Nat) : Int) ∧ ((i - x : Nat) : Int) < 41) = True := eq_true ⟨by omega, by omega⟩
         have ps2 : (i - x < 41) = True := eq_true (by omega)
         have ps3 : (((i - x : Nat) : Int) < 41) = True := eq_true (by omega)
         have hwr : IntKind.i64.wrap ((i - x : Nat) : Int) = ((i - x : Nat) : Int) := by rw [i64_w]; unfold wrap64; omega
         have hcA := show wr.drew.cell? ⟨g, (x + 1) * 41 + (j + 1), none⟩ = _ from HI.out.cell ((x + 1) * 41 + (j + 1)) (by omega)
         have hcB := show wr.drew.cell? ⟨g, (i - x) * 41 + (j + 1), none⟩ = _ from HI.out.cell ((i - x) * 41 + (j + 1)) (by omega)
         refine wp_region_still_lit mixed (by kernel_rfl) ?_
         repeat still_step
         refine wpStill_nil ?_
         change Exit.inBlock _ _ _ _ wr.drew
         have HI2 := Aside0.mk (HI.out.below (below_drew (Below.refl _ _)))
         have HB2 := Aside0.mk (below_drew1 HB.out)
         generalize wr.drew = wr2 at HI2 HB2 ⊢
         have hcx : impl_valuesOf.cx t0 (i + 1) (j + 1) b0 (x + 1) = max (impl_valuesOf.cx t0 (i + 1) (j + 1) b0 x) (IntKind.i64.wrap (rd t0 (((x : Int) + 1) * 41 + ((j : Int) + 1)) + rd t0 (((i - x : Nat) : Int) * 41 + ((j : Int) + 1)))) := by
          rw [impl_valuesOf.cx, i64_w, show i + 1 - (x + 1) = i - x by omega]
          rfl
         go_wp2
         all_goals
          go_roundg k4
          case measure => omega
          case rel => exact ⟨x + 1, rfl, by rw [hcx]; congr 1; omega, ⟨by have := HX.out; omega⟩, HI2, HB2⟩
      | succ k3 =>
       have hn : n < l2.length := by have := HQ.out; omega
       have cn : decide ((n : Int) < ((l2.length : Nat) : Int)) = true := decide_eq_true (by omega)
       obtain ⟨ad, e1, hx0, hx1, hx2⟩ := at_T50 HR2.out (n : Int) (by omega) (by omega)
       subst e1
       replace hx0 := (HB.out.cell (World.block_lt_of_cell? _ _ hx0)).trans hx0
       replace hx1 := (HB.out.cell (World.block_lt_of_cell? _ _ hx1)).trans hx1
       replace hx2 := (HB.out.cell (World.block_lt_of_cell? _ _ hx2)).trans hx2
       have p1 : (0 ≤ (n : Int)) = True := eq_true (by omega)
       have hkd := l12Kd_step l2 ((i : Int) + 1) ((j : Int) + 1) n hn
       simp only [Int.toNat_natCast] at hx0 hx1 hx2
       generalize rd_T50 l2 (n : Int) = x at hx0 hx1 hx2 hkd
       by_cases c0 : x.f0 ≤ (i : Int) + 1
       ·have c0b : decide (x.f0 ≤ (i : Int) + 1) = true := decide_eq_true c0
        by_cases c1 : x.f1 ≤ (j : Int) + 1
        ·have c1b : decide (x.f1 ≤ (j : Int) + 1) = true := decide_eq_true c1
         rw [if_pos c0, if_pos c1] at hkd
         go_wp2
         all_goals
          go_roundg k3
          case measure => omega
          case rel =>
           have HB2 := Aside0.mk (show Below wr.heap.size wr (wr.alloc (Obj.cells #[Value.int IntKind.i64 x.f0, Value.int IntKind.i64 x.f1, Value.int IntKind.i64 x.f2] 50)) from below_alloc (Below.refl _ _) _)
           exact ⟨n + 1, rfl, by rw [hkd]; congr 1; omega, ⟨by have := HQ.out; omega⟩, ⟨HI.out.below HB2.out⟩, ⟨HB.out.trans (HB2.out.mono HB.out.size)⟩⟩
        ·have c1b : decide (x.f1 ≤ (j : Int) + 1) = false := decide_eq_false c1
         rw [if_pos c0, if_neg c1] at hkd
         go_wp2
         go_roundg k3
         case measure => omega
         case rel =>
          have HB2 := Aside0.mk (show Below wr.heap.size wr (wr.alloc (Obj.cells #[Value.int IntKind.i64 x.f0, Value.int IntKind.i64 x.f1, Value.int IntKind.i64 x.f2] 50)) from below_alloc (Below.refl _ _) _)
          exact ⟨n + 1, rfl, by rw [hkd], ⟨by have := HQ.out; omega⟩, ⟨HI.out.below HB2.out⟩, ⟨HB.out.trans (HB2.out.mono HB.out.size)⟩⟩
       ·have c0b : decide (x.f0 ≤ (i : Int) + 1) = false := decide_eq_false c0
        rw [if_neg c0] at hkd
        go_wp2
        go_roundg k3
        case measure => omega
        case rel =>
         have HB2 := Aside0.mk (show Below wr.heap.size wr (wr.alloc (Obj.cells #[Value.int IntKind.i64 x.f0, Value.int IntKind.i64 x.f1, Value.int IntKind.i64 x.f2] 50)) from below_alloc (Below.refl _ _) _)
         exact ⟨n + 1, rfl, by rw [hkd], ⟨by have := HQ.out; omega⟩, ⟨HI.out.below HB2.out⟩, ⟨HB.out.trans (HB2.out.mono HB.out.size)⟩⟩

def impl_BestValue.f (a0 : Int) (a1 : Int) (l2 : List S50) : Option (Int × Int) := (impl_checkTable.f a0 a1 l2).bind fun c => if c = 0 then (if 0 ≤ a0 ∧ a0 ≤ 40 ∧ 0 ≤ a1 ∧ a1 ≤ 40 ∧ l2.length ≤ 1000000 then some (rd (impl_valuesOf.tab l2 a1.toNat a0.toNat) ((a0.toNat * 41 + a1.toNat : Nat) : Int), 0) else none) else some (0, c)
set_option maxHeartbeats 4000000 in
set_option maxRecDepth 100000 in
theorem impl_BestValue.calls (a0 : Int) (a1 : Int) (A2 : Option Addr) (c2 : Nat) (l2 : List S50) (r1 : Int) (r2 : Int) (w : World) (hr2 : Kd.C k50 w A2 l2.length l2) (hc2 : l2.length ≤ c2) (h : impl_BestValue.f a0 a1 l2 = some (r1, r2)) :
  Calls Tryd.prog 26 #[.int .i64 a0, .int .i64 a1, .slice A2 l2.length c2] w fun e w' => e = .returned (.tuple #[.int .i64 r1, .int .i64 r2]) ∧ Below w.heap.size w w' := by
 unfold impl_BestValue.f at h
 obtain ⟨c, A1, h⟩ := Option.bind_eq_some_iff.mp h
 have HR2 := Aside0.mk hr2
 have A1 := Aside0.mk A1
 clear hr2
 by_cases hc : c = 0
 ·rw [if_pos hc] at h
  subst hc
  by_cases hd : 0 ≤ a0 ∧ a0 ≤ 40 ∧ 0 ≤ a1 ∧ a1 ≤ 40 ∧ l2.length ≤ 1000000
  ·rw [if_pos hd] at h
   obtain ⟨rfl, rfl⟩ := Prod.mk.inj (Option.some.inj h)
   clear h
   obtain ⟨W, rfl⟩ := Int.eq_ofNat_of_zero_le hd.1
   obtain ⟨H, rfl⟩ := Int.eq_ofNat_of_zero_le hd.2.2.1
   obtain ⟨-, h1, -, h2, h3⟩ := hd
   have hW : W ≤ 40 := by omega
   have hH : H ≤ 40 := by omega
   have pW : (0 ≤ (W : Int) ∧ (W : Int) < 41) = True := eq_true ⟨by omega, by omega⟩
   have pH : (0 ≤ (H : Int) ∧ (H : Int) < 41) = True := eq_true ⟨by omega, by omega⟩
   clear h1 h2
   go_enter Tryd.func26, Tryd.ntmps26
   go_wp2_with (first
    | (go_at_call 43; (refine (impl_checkTable.calls _ _ A2 c2 l2 0 _ HR2.out hc2 A1.out).mono ?_); rintro e w1 ⟨rfl, HB0⟩; have HB := Aside0.mk (show Below w.heap.size w w1 from HB0); clear HB0)
    | (go_at_call 44; (refine (impl_valuesOf.calls A2 c2 l2 W H _ hW hH (Kd.C_below HR2.out HB.out) hc2 h3).mono ?_); rintro e w2 ⟨g, rfl, hg, hi, hb⟩; have HC := Aside0.mk (HB.out.trans (hb.mono HB.out.size)); have hcell := hi.cell (W * 41 + H) (by omega); clear hg hi hb))
   go_ret2
   exact ⟨rfl, HC.out⟩
  ·rw [if_neg hd] at h
   cases h
 ·rw [if_neg hc] at h
  obtain ⟨rfl, rfl⟩ := Prod.mk.inj (Option.some.inj h)
  have hn : (c != 0) = true := bne_iff_ne.mpr hc
  go_enter Tryd.func26, Tryd.ntmps26
  go_wp2_with (first
   | (go_at_call 43; (refine (impl_checkTable.calls _ _ A2 c2 l2 c _ HR2.out hc2 A1.out).mono ?_); rintro e w1 ⟨rfl, HB0⟩; have HB := Aside0.mk (show Below w.heap.size w w1 from HB0); clear HB0))
  go_ret2
  exact ⟨rfl, HB.out⟩

def IsS82 (w0 W : World) (g : Nat) (f0 : List Int) (f1 : Int) (f2 : Int) : Prop := ∃ A0 c0, W.heap[g]? = some (.cells #[.slice A0 f0.length c0, .int .i64 f1, .int .i64 f2] 82 (0, 0)) ∧ w0.heap.size ≤ g ∧ Kd.C (Kd.int .u8) w0 A0 f0.length f0
theorem IsS82.grown {w0 W : World} {g : Nat} {f0 : List Int} {f1 : Int} {f2 : Int} {W1 : World} {row : Option Nat} (h : IsS82 w0 W g f0 f1 f2) (hw : W.grownBy W1 row) (hne : some g ≠ row) : IsS82 w0 W1 g f0 f1 f2 := by
 obtain ⟨A0, c0, hb, hg, hr0⟩ := h
 exact ⟨A0, c0, blk_grown hb hw hne, hg, hr0⟩
theorem IsS82.own_neN {w0 W : World} {g : Nat} {f0 : List Int} {f1 : Int} {f2 : Int} {α : Type} {d : Kd α} {e : Nat} {base : Nat} {ok : Nat → Prop} {v : Value} {xs : List α} (h : IsS82 w0 W g f0 f1 f2) (ho : Kd.N d e W base ok v xs) (ht : e ≠ 82) : some g ≠ v.ownBlock := by
 obtain ⟨A0, c0, hb, hg, hr0⟩ := h
 exact Kd.N_ne ho hb ht
theorem IsS82.fresh {w0 W : World} {g : Nat} {f0 : List Int} {f1 : Int} {f2 : Int} (h : IsS82 w0 W g f0 f1 f2) : ∀ k, W.heap.size ≤ k → k ≠ g := by
 obtain ⟨A0, c0, hb, hg, hr0⟩ := h
 exact Kd.freshB hb
theorem IsS82.kept {w0 W : World} {g : Nat} {f0 : List Int} {f1 : Int} {f2 : Int} {W1 : World} {S : Nat → Prop} (h : IsS82 w0 W g f0 f1 f2) (hk : Kept W W1 S) (hne : ¬ S g) : IsS82 w0 W1 g f0 f1 f2 := by
 obtain ⟨A0, c0, hb, hg, hr0⟩ := h
 exact ⟨A0, c0, blk_kept hb hk hne, hg, hr0⟩
theorem IsS82.below {w0 W : World} {g : Nat} {f0 : List Int} {f1 : Int} {f2 : Int} {W1 : World} (h : IsS82 w0 W g f0 f1 f2) (hw : Below W.heap.size W W1) : IsS82 w0 W1 g f0 f1 f2 := h.grown (grown_of_below hw none) (by simp)
theorem IsS82.alloc {w0 W : World} {g : Nat} {f0 : List Int} {f1 : Int} {f2 : Int} (h : IsS82 w0 W g f0 f1 f2) (o : Obj) : IsS82 w0 (W.alloc o) g f0 f1 f2 := h.below (below_alloc (Below.refl _ _) o)
theorem IsS82.drewN {w0 W : World} {g : Nat} {f0 : List Int} {f1 : Int} {f2 : Int} (h : IsS82 w0 W g f0 f1 f2) (m : Nat) : IsS82 w0 (W.drewN m) g f0 f1 f2 := h
theorem IsS82.drew {w0 W : World} {g : Nat} {f0 : List Int} {f1 : Int} {f2 : Int} (h : IsS82 w0 W g f0 f1 f2) : IsS82 w0 W.drew g f0 f1 f2 := h
theorem IsS82.at_ {w0 W : World} {g : Nat} {f0 : List Int} {f1 : Int} {f2 : Int} {w' : World} {m : Nat} (hq : W.drewN m = w') (h : IsS82 w0 W g f0 f1 f2) : IsS82 w0 w' g f0 f1 f2 := by subst hq; exact IsS82.drewN h m
theorem IsS82.apart {w0 W : World} {g : Nat} {f0 : List Int} {f1 : Int} {f2 : Int} {α : Type} {d : Kd α} {e : Nat} {base : Nat} {ok : Nat → Prop} {v : Value} {xs : List α} (h : IsS82 w0 W g f0 f1 f2) (ho : d.R e W base ok v xs) (ht : ∀ q, q ∈ e :: d.E → q ≠ 82) : d.R e W base (fun k => ok k ∧ k ≠ g) v xs := by
 obtain ⟨A0, c0, hb, hg, hr0⟩ := h
 exact Kd.R_types ho hb ht
theorem IsS82.own_ne {w0 W : World} {g : Nat} {f0 : List Int} {f1 : Int} {f2 : Int} {α : Type} {d : Kd α} {e : Nat} {base : Nat} {ok : Nat → Prop} {v : Value} {xs : List α} (h : IsS82 w0 W g f0 f1 f2) (ho : d.R e W base ok v xs) (ht : e ≠ 82) : some g ≠ v.ownBlock := by
 obtain ⟨A0, c0, hb, hg, hr0⟩ := h
 exact Kd.R_ne ho hb ht
theorem IsS82.apartQ {w0 W : World} {g : Nat} {f0 : List Int} {f1 : Int} {f2 : Int} {α : Type} {d : Kd α} {e : Nat} {base : Nat} {ok : Nat → Prop} {v : Value} {xs : List α} (h : IsS82 w0 W g f0 f1 f2) (ho : d.Q e W base ok v xs) (ht : ∀ q, q ∈ e :: d.E → q ≠ 82) : d.Q e W base (fun k => ok k ∧ k ≠ g) v xs := by
 obtain ⟨A0, c0, hb, hg, hr0⟩ := h
 exact Kd.Q_types ho hb ht
theorem IsS82.own_neQ {w0 W : World} {g : Nat} {f0 : List Int} {f1 : Int} {f2 : Int} {α : Type} {d : Kd α} {e : Nat} {base : Nat} {ok : Nat → Prop} {v : Value} {xs : List α} (h : IsS82 w0 W g f0 f1 f2) (ho : d.Q e W base ok v xs) (ht : e ≠ 82) : some g ≠ v.ownBlock := by
 obtain ⟨A0, c0, hb, hg, hr0⟩ := h
 exact Kd.Q_ne ho hb ht
theorem IsS82.apartS {w0 W : World} {g : Nat} {f0 : List Int} {f1 : Int} {f2 : Int} {α : Type} {d : Kd α} {e : Nat} {base : Nat} {ok : Nat → Prop} {v : Value} {xs : List α} (h : IsS82 w0 W g f0 f1 f2) (ho : d.S e W base ok v xs) (ht : ∀ q, q ∈ e :: d.E → q ≠ 82) : d.S e W base (fun k => ok k ∧ k ≠ g) v xs := by
 obtain ⟨A0, c0, hb, hg, hr0⟩ := h
 exact Kd.S_types ho hb ht
theorem IsS82.own_neS {w0 W : World} {g : Nat} {f0 : List Int} {f1 : Int} {f2 : Int} {α : Type} {d : Kd α} {e : Nat} {base : Nat} {ok : Nat → Prop} {v : Value} {xs : List α} (h : IsS82 w0 W g f0 f1 f2) (ho : d.S e W base ok v xs) (ht : e ≠ 82) : some g ≠ v.ownBlock := by
 obtain ⟨A0, c0, hb, hg, hr0⟩ := h
 exact Kd.S_ne ho hb ht
theorem IsS82.lt {w0 W : World} {g : Nat} {f0 : List Int} {f1 : Int} {f2 : Int} (h : IsS82 w0 W g f0 f1 f2) : g < W.heap.size := by
 obtain ⟨A0, c0, hb, hg, hr0⟩ := h
 exact blk_lt hb
theorem IsS82.ge {w0 W : World} {g : Nat} {f0 : List Int} {f1 : Int} {f2 : Int} (h : IsS82 w0 W g f0 f1 f2) : w0.heap.size ≤ g := by
 obtain ⟨A0, c0, hb, hg, hr0⟩ := h
 exact hg
theorem IsS82.ne_blk {w0 W : World} {g : Nat} {f0 : List Int} {f1 : Int} {f2 : Int} {a : Nat} {cs : Array Value} {t : TypeId} {fr : Nat × Nat} (h : IsS82 w0 W g f0 f1 f2) (hb2 : W.heap[a]? = some (.cells cs t fr)) (ht : t ≠ 82) : g ≠ a := by
 obtain ⟨A0, c0, hb, hg, hr0⟩ := h
 rintro rfl
 rw [hb] at hb2
 injection hb2 with hb2
 injection hb2 with _ ht2
 exact ht ht2.symm
theorem IsS82.far {w0 W : World} {g : Nat} {f0 : List Int} {f1 : Int} {f2 : Int} {p : Addr} (h : IsS82 w0 W g f0 f1 f2) (hne : g ≠ p.block) (u : Value) : IsS82 w0 (W.setCell p u) g f0 f1 f2 := by
 obtain ⟨A0, c0, hb, hg, hr0⟩ := h
 exact ⟨A0, c0, blk_far hb hne u, hg, hr0⟩
theorem cellS82_0 {W : World} {g : Nat} {A0 : Option Addr} {c0 : Nat} {f0 : List Int} {f1 : Int} {f2 : Int} (h : W.heap[g]? = some (.cells #[.slice A0 f0.length c0, .int .i64 f1, .int .i64 f2] 82 (0, 0))) : W.cell? ⟨g, 0, none⟩ = some (.slice A0 f0.length c0) := (blk_cell h 0).trans rfl
theorem cellS82_1 {W : World} {g : Nat} {A0 : Option Addr} {c0 : Nat} {f0 : List Int} {f1 : Int} {f2 : Int} (h : W.heap[g]? = some (.cells #[.slice A0 f0.length c0, .int .i64 f1, .int .i64 f2] 82 (0, 0))) : W.cell? ⟨g, 1, none⟩ = some (.int .i64 f1) := (blk_cell h 1).trans rfl
theorem IsS82.set_1 {w0 W : World} {g : Nat} {f0 : List Int} {f1 : Int} {f2 : Int} (h : IsS82 w0 W g f0 f1 f2) (x : Int) : IsS82 w0 (W.setCell ⟨g, 1, none⟩ (.int .i64 x)) g f0 x f2 := by
 obtain ⟨A0, c0, hb, hg, hr0⟩ := h
 exact ⟨A0, c0, by simpa using blk_set hb 1 (.int .i64 x), hg, hr0⟩
theorem cellS82_2 {W : World} {g : Nat} {A0 : Option Addr} {c0 : Nat} {f0 : List Int} {f1 : Int} {f2 : Int} (h : W.heap[g]? = some (.cells #[.slice A0 f0.length c0, .int .i64 f1, .int .i64 f2] 82 (0, 0))) : W.cell? ⟨g, 2, none⟩ = some (.int .i64 f2) := (blk_cell h 2).trans rfl
theorem IsS82.set_2 {w0 W : World} {g : Nat} {f0 : List Int} {f1 : Int} {f2 : Int} (h : IsS82 w0 W g f0 f1 f2) (x : Int) : IsS82 w0 (W.setCell ⟨g, 2, none⟩ (.int .i64 x)) g f0 f1 x := by
 obtain ⟨A0, c0, hb, hg, hr0⟩ := h
 exact ⟨A0, c0, by simpa using blk_set hb 2 (.int .i64 x), hg, hr0⟩
theorem IsS82.new (w0 W : World) (A0 : Option Addr) (c0 : Nat) (f0 : List Int) (f1 : Int) (f2 : Int) (hB : Below w0.heap.size w0 W) (hr0 : Kd.C (Kd.int .u8) w0 A0 f0.length f0) : IsS82 w0 (W.alloc (.cells #[.slice A0 f0.length c0, .int .i64 f1, .int .i64 f2] 82)) W.heap.size f0 f1 f2 := ⟨A0, c0, by simpa using heap_alloc_new W _, hB.size, hr0⟩

def spec_l01From.l0 : Nat → List Int → Int → List Int → Int → Int → Option (List Int × Int × Int)
 | 0, _, _, _, _, _ => none
 | k + 1, x0, x4, x232000, x232001, x232002 => if x4 < (x0.length : Int) then (if x4 < 64 then (if 0 ≤ x4 then (spec_l01From.l0 k x0 (wrap64 (x4 + 1)) x232000 x232001 (Int.tmod (wrap64 ((wrap64 (x232002 * 71)) + (wrap64 (rd x0 x4)))) 2147483647)) else (none)) else (some (x232000, x232001, x232002))) else (some (x232000, x232001, x232002))
def spec_l01From.f (k : Nat) (l0 : List Int) : Option (List Int × Int × Int) := spec_l01From.l0 k l0 0 l0 0 88007
theorem spec_l01From.mono_l : ∀ k, (∀ y0 y1 y2 y3 y4, LeO (spec_l01From.l0 k y0 y1 y2 y3 y4) (spec_l01From.l0 (k + 1) y0 y1 y2 y3 y4))
 | 0 => fun _ _ _ _ _ r h => by simp [spec_l01From.l0] at h
 | k + 1 => by
  have ih0 := spec_l01From.mono_l k
  ·intro y0 y1 y2 y3 y4
   unfold spec_l01From.l0
   repeat' first
   | (with_reducible exact ih0 _ _ _ _ _)
   | (with_reducible exact LeO.refl _)
   | (with_reducible exact LeO.none _)
   | (with_reducible refine LeO.ite ?_ ?_)
   | (with_reducible refine LeO.bind ?_ (fun _ => ?_))
   | exact ih0 _ _ _ _ _
   | exact LeO.none _
   | refine LeO.ite ?_ ?_
   | refine LeO.bind ?_ (fun _ => ?_)
theorem spec_l01From.mono : ∀ a0 k, LeO (spec_l01From.f k a0) (spec_l01From.f (k + 1) a0) := by
 intro a0 k
 have ih0 := spec_l01From.mono_l k
 unfold spec_l01From.f
 repeat' first
   | (with_reducible exact ih0 _ _ _ _ _)
   | (with_reducible exact LeO.refl _)
   | (with_reducible exact LeO.none _)
   | (with_reducible refine LeO.ite ?_ ?_)
   | (with_reducible refine LeO.bind ?_ (fun _ => ?_))
   | exact ih0 _ _ _ _ _
   | exact LeO.none _
   | refine LeO.ite ?_ ?_
   | refine LeO.bind ?_ (fun _ => ?_)
def spec_l01From.T5 : Bool × List (List Nat × List Nat) := (true, [([], []), ([], []), ([1], [1]), ([2], [2]), ([3], [3]), ([4], [4]), ([], []), ([], []), ([6, 7], [6, 7]), ([8], [8]), ([9], [9]), ([5, 10], [5, 10]), ([11], [11]), ([0, 0, 1, 2, 3, 4, 5, 6, 7, 8, 9, 10, 11, 12], [0]), ([13, 0, 1, 2, 3, 4, 5, 6, 7, 8, 9, 10, 11, 12], [13]), ([14, 12, 0, 1, 2, 3, 4, 5, 6, 7, 8, 9, 10, 11, 12], [12, 14])])
def spec_l01From.B5 : List Nat := [0, 0, 2, 6, 14, 30, 0, 0, 192, 448, 960, 2046, 4094, 8191, 16383, 32767]
theorem spec_l01From.tab5 : rtab .any (opsOf Tryd.f47 5) = spec_l01From.T5 := by kernel_rfl
theorem spec_l01From.bits5 : waitsOk spec_l01From.T5.2 spec_l01From.B5 = true := by kernel_rfl
set_option maxHeartbeats 8000000 in
set_option maxRecDepth 100000 in
theorem spec_l01From.calls (k : Nat) (A0 : Option Addr) (c0 : Nat) (l0 : List Int) (r1 : List Int) (r2 : Int) (r3 : Int) (w0 w : World) (hB : Below w0.heap.size w0 w) (hr0 : Kd.C (Kd.int .u8) w0 A0 l0.length l0) (hc0 : l0.length ≤ c0) (h : spec_l01From.f k l0 = some (r1, r2, r3)) :
  Calls Tryd.prog 47 #[.slice A0 l0.length c0] w fun e w' => ∃ g_ : Nat, e = .returned (.pointer (some ⟨g_, 0, none⟩)) ∧ IsS82 w0 w' g_ r1 r2 r3 ∧ Below w0.heap.size w0 w' ∧ Below w.heap.size w w' := by
 have hu82 := Tryd.underlying82
 have HR0 := Aside0.mk hr0
 have HC0 := Aside0.mk hc0
 clear hr0 hc0
 have HBW := Aside0.mk (Below.refl w.heap.size w)
 have HW0 := Aside0.mk hB.size
 have HB := Aside0.mk hB
 clear hB
 have H : (spec_l01From.l0 k l0 0 l0 0 88007) = some (r1, r2, r3) := h
 clear h
 have H' := Aside0.mk H
 clear H
 go_enter Tryd.func47, Tryd.ntmps47
 go_wp2_with (first | ((with_reducible refine gate_dst (N := 7) rfl ?_); refine box_event ?hg (N := 7) ?hd (cs := #[.slice A0 l0.length c0, .int .i64 0, .int .i64 88007]) (t := 82) ?hr ?_; (case hd => rfl); (case hg => rfl); (case hr => first | (go_simp; done) | (go_simp; rfl)); intro gb231 hg w2 hbox hb; have n0_ := Aside0.mk (below_step HBW.out hb); have n1_ := Aside0.mk (below_step (by repeat (first | (with_reducible first | exact HB.out | apply below_alloc | apply pw_below_drewN | apply below_drew1) | exact HB.out)) hb); have n2_ := Aside0.mk (hbox); have n3_ := Aside0.mk ((by rw [hg]; exact (below_size (by repeat (first | (with_reducible first | exact HBW.out | apply below_alloc | apply pw_below_drewN | apply below_drew1) | exact HBW.out))) : w.heap.size ≤ gb231)); have n4_ := Aside0.mk ((Nat.le_trans HW0.out (by rw [hg]; exact (below_size (by repeat (first | (with_reducible first | exact HBW.out | apply below_alloc | apply pw_below_drewN | apply below_drew1) | exact HBW.out))) : w.heap.size ≤ gb231) : w0.heap.size ≤ gb231)); clear HBW; clear HB; have HBW := n0_; have HB := n1_; have BK231 := n2_; have GW231 := n3_; have GE231 := n4_; clear n0_ n1_ n2_ n3_ n4_; clear hb hbox hg))
 go_loopg [4] k (fun kq v4 w' => ∃ (x4_1 : Int) (x232002_1 : Int), v4 = .int .i64 x4_1 ∧ Aside0 (spec_l01From.l0 kq l0 x4_1 l0 0 x232002_1 = some (r1, r2, r3)) ∧ Aside0 (kq ≤ k) ∧ Aside0 (w'.heap[gb231]? = some (.cells #[(.slice A0 l0.length c0), .int .i64 0, .int .i64 x232002_1] 82 (0, 0))) ∧ Aside0 (Below w0.heap.size w0 w') ∧ Aside0 (Below w.heap.size w w'))
 case atStart => exact ⟨(0), (88007), (by first | rfl | (simp; done) | (simp [*]; done)), H', ⟨Nat.le_refl _⟩, ⟨by (with_reducible repeat (first | refine blk_drewN ?_ _ | refine blk_drew ?_ | refine blk_alloc ?_ _)); exact BK231.out⟩, ⟨by repeat (first | (with_reducible first | exact HB.out | apply below_alloc | apply pw_below_drewN | apply below_drew1 | refine below_set ?_ GE231.out) | exact HB.out)⟩, ⟨by repeat (first | (with_reducible first | exact HBW.out | apply below_alloc | apply pw_below_drewN | apply below_drew1 | refine below_set ?_ GW231.out) | exact HBW.out)⟩⟩
 case round =>
  clear H'
  try clear p2
  obtain ⟨x4_1, x232002_1, rfl, HA, HK1, BK231, HB, HBW⟩ := hrel
  cases gk with
  | zero => exact absurd HA.out (by simp [spec_l01From.l0])
  | succ k1 =>
   have H := HA.out
   clear HA
   simp only [spec_l01From.l0] at H
   by_cases c3 : x4_1 < (l0.length : Int)
   ·rw [if_pos c3] at H
    have c3b0 : decide (x4_1 < (l0.length : Int)) = true := decide_eq_true c3
    clear c3
    by_cases c4 : x4_1 < 64
    ·rw [if_pos c4] at H
     have c4b0 : decide (x4_1 < 64) = true := decide_eq_true c4
     clear c4
     by_cases c5 : 0 ≤ x4_1
     ·rw [if_pos c5] at H
      have c5b0 : decide (0 ≤ x4_1) = true := decide_eq_true c5
      clear c5
      have H' := Aside0.mk H
      clear H
      try go_wp2
      have n0_ := Aside0.mk (blk_drew BK231.out)
      have n1_ := Aside0.mk (below_drew1 HB.out)
      have n99_ := Aside0.mk (below_drew1 HBW.out)
      clear BK231
      clear HB
      have BK231 := n0_
      have HB := n1_
      clear HBW
      have HBW := n99_
      clear n99_
      clear n0_ n1_
      have p232 : 0 ≤ (x4_1 : Int) := of_decide_eq_true (by first | (with_reducible assumption) | assumption)
      have q232 : x4_1 < (l0.length : Int) := of_decide_eq_true (by first | (with_reducible assumption) | assumption)
      obtain ⟨ad232, e232, hx232_0⟩ := Kd.at_int HR0.out x4_1 p232 q232
      have hw232_0 := hx232_0
      cases e232
      replace hx232_0 := pw_cell_below HB.out hx232_0
      replace p232 := eq_true p232
      replace q232 := eq_true q232
      refine start_ (n := 16) (S := fun w' => w'.cell? ⟨gb231, 0, none⟩ = some (.slice (some ad232) l0.length c0) ∧ w'.cell? ⟨gb231, 1, none⟩ = some (.int .i64 0) ∧ w'.cell? ⟨gb231, 2, none⟩ = some (.int .i64 x232002_1) ∧ w'.cell? (ad232.add (x4_1).toNat) = some (.int .u8 (rd l0 x4_1))) (ds := [15]) #[false, false, false, false, false, false, false, false, false, false, false, false, false, false, false, false] (by kernel_rfl) rfl rfl ⟨(blk_cell BK231.out 0).trans rfl, (blk_cell BK231.out 1).trans rfl, (blk_cell BK231.out 2).trans rfl, ((HB.out.cell (World.block_lt_of_cell? _ _ hw232_0)).trans hw232_0)⟩ (fun hHeld => ?_); refine with_tabW spec_l01From.tab5 spec_l01From.bits5 (fun HT_ HW_ => ?_)
      generalize wr.drew = w6 at BK231 HB HBW hx232_0 hHeld ⊢
      refine pure_ (i := 0) (N := some 18) (v := ?_) (a' := ?_) #[true, false, false, false, false, false, false, false, false, false, false, false, false, false, false, false] rfl rfl (any_of HT_.out (by kernel_rfl)) (fun _ _ _ h => h) (Or.inl ⟨by rfl, ?_⟩) ?_ ?_
      rotate_left
      ·intro w'
       go_simp
       with_reducible rfl
      rotate_left
      ·simp only [Act.put, List.setIfInBounds_toArray, List.set_cons_zero, List.set_cons_succ, i64_w, i32_w]
       rfl
      refine pure_ (i := 1) (N := some 19) (v := ?_) (a' := ?_) #[true, true, false, false, false, false, false, false, false, false, false, false, false, false, false, false] rfl rfl (any_of HT_.out (by kernel_rfl)) (fun _ _ _ h => h) (Or.inl ⟨by rfl, ?_⟩) ?_ ?_
      rotate_left
      ·intro w'
       go_simp
       with_reducible rfl
      rotate_left
      ·simp only [Act.put, List.setIfInBounds_toArray, List.set_cons_zero, List.set_cons_succ, i64_w, i32_w]
       rfl
      refine pure_ (i := 2) (N := some 20) (v := ?_) (a' := ?_) #[true, true, true, false, false, false, false, false, false, false, false, false, false, false, false, false] rfl rfl (any_of HT_.out (by kernel_rfl)) (fun _ _ _ h => h) (Or.inl ⟨by rfl, ?_⟩) ?_ ?_
      rotate_left
      ·intro w'
       go_simp
       with_reducible rfl
      rotate_left
      ·simp only [Act.put, List.setIfInBounds_toArray, List.set_cons_zero, List.set_cons_succ, i64_w, i32_w]
       rfl
      refine pure_ (i := 3) (N := some 21) (v := ?_) (a' := ?_) #[true, true, true, true, false, false, false, false, false, false, false, false, false, false, false, false] rfl rfl (any_of HT_.out (by kernel_rfl)) (fun _ _ _ h => h) (Or.inl ⟨by rfl, ?_⟩) ?_ ?_
      rotate_left
      ·intro w'
       go_simp
       with_reducible rfl
      rotate_left
      ·simp only [Act.put, List.setIfInBounds_toArray, List.set_cons_zero, List.set_cons_succ, i64_w, i32_w]
       rfl
      refine pure_ (i := 6) (N := some 24) (v := ?_) (a' := ?_) #[true, true, true, true, false, false, true, false, false, false, false, false, false, false, false, false] rfl rfl (any_of HT_.out (by kernel_rfl)) (fun _ _ _ h => h) (Or.inl ⟨by rfl, ?_⟩) ?_ ?_
      rotate_left
      ·intro w'
       go_simp
       with_reducible rfl
      rotate_left
      ·simp only [Act.put, List.setIfInBounds_toArray, List.set_cons_zero, List.set_cons_succ, i64_w, i32_w]
       rfl
      refine pure_ (i := 7) (N := some 25) (v := ?_) (a' := ?_) #[true, true, true, true, false, false, true, true, false, false, false, false, false, false, false, false] rfl rfl (any_of HT_.out (by kernel_rfl)) (fun _ _ _ h => h) (Or.inl ⟨by rfl, ?_⟩) ?_ ?_
      rotate_left
      ·intro w'
       go_simp
       with_reducible rfl
      rotate_left
      ·simp only [Act.put, List.setIfInBounds_toArray, List.set_cons_zero, List.set_cons_succ, i64_w, i32_w]
       rfl
      refine pure_ (i := 8) (N := some 26) (v := ?_) (a' := ?_) #[true, true, true, true, false, false, true, true, true, false, false, false, false, false, false, false] rfl rfl (any_of HT_.out (by kernel_rfl)) (fun _ _ _ h => h) (Or.inl ⟨by rfl, ?_⟩) ?_ ?_
      rotate_left
      ·intro w'
       go_simp
       with_reducible rfl
      rotate_left
      ·simp only [Act.put, List.setIfInBounds_toArray, List.set_cons_zero, List.set_cons_succ, i64_w, i32_w]
       rfl
      refine take_ (i := 4) (N := some 22) (v := ?_) (a' := ?_) #[true, true, true, true, true, false, true, true, true, false, false, false, false, false, false, false] rfl rfl (take_ofW HT_.out HW_.out (by kernel_rfl)) (fun _ _ _ h => h) (Or.inl ⟨by rfl, ?_⟩) hHeld ?_ ?_
      rotate_left
      ·rintro w' ⟨s0, s1, s2, s3⟩
       go_simp
       with_reducible rfl
      rotate_left
      ·simp only [Act.put, List.setIfInBounds_toArray, List.set_cons_zero, List.set_cons_succ, i64_w, i32_w]
       rfl
      refine pure_ (i := 5) (N := some 23) (v := ?_) (a' := ?_) #[true, true, true, true, true, true, true, true, true, false, false, false, false, false, false, false] rfl rfl (any_of HT_.out (by kernel_rfl)) (fun _ _ _ h => h) (Or.inl ⟨by rfl, ?_⟩) ?_ ?_
      rotate_left
      ·intro w'
       go_simp
       with_reducible rfl
      rotate_left
      ·simp only [Act.put, List.setIfInBounds_toArray, List.set_cons_zero, List.set_cons_succ, i64_w, i32_w]
       rfl
      refine take_ (i := 9) (N := some 27) (v := ?_) (a' := ?_) #[true, true, true, true, true, true, true, true, true, true, false, false, false, false, false, false] rfl rfl (take_ofW HT_.out HW_.out (by kernel_rfl)) (fun _ _ _ h => h) (Or.inl ⟨by rfl, ?_⟩) hHeld ?_ ?_
      rotate_left
      ·rintro w' ⟨s0, s1, s2, s3⟩
       go_simp
       with_reducible rfl
      rotate_left
      ·simp only [Act.put, List.setIfInBounds_toArray, List.set_cons_zero, List.set_cons_succ, i64_w, i32_w]
       rfl
      refine pure_ (i := 10) (N := some 28) (v := ?_) (a' := ?_) #[true, true, true, true, true, true, true, true, true, true, true, false, false, false, false, false] rfl rfl (any_of HT_.out (by kernel_rfl)) (fun _ _ _ h => h) (Or.inl ⟨by rfl, ?_⟩) ?_ ?_
      rotate_left
      ·intro w'
       go_simp
       with_reducible rfl
      rotate_left
      ·simp only [Act.put, List.setIfInBounds_toArray, List.set_cons_zero, List.set_cons_succ, i64_w, i32_w]
       rfl
      refine pure_ (i := 11) (N := some 29) (v := ?_) (a' := ?_) #[true, true, true, true, true, true, true, true, true, true, true, true, false, false, false, false] rfl rfl (any_of HT_.out (by kernel_rfl)) (fun _ _ _ h => h) (Or.inl ⟨by rfl, ?_⟩) ?_ ?_
      rotate_left
      ·intro w'
       go_simp
       with_reducible rfl
      rotate_left
      ·simp only [Act.put, List.setIfInBounds_toArray, List.set_cons_zero, List.set_cons_succ, i64_w, i32_w]
       rfl
      refine pure_ (i := 12) (N := some 30) (v := ?_) (a' := ?_) #[true, true, true, true, true, true, true, true, true, true, true, true, true, false, false, false] rfl rfl (any_of HT_.out (by kernel_rfl)) (fun _ _ _ h => h) (Or.inl ⟨by rfl, ?_⟩) ?_ ?_
      rotate_left
      ·intro w'
       go_simp
       with_reducible rfl
      rotate_left
      ·simp only [Act.put, List.setIfInBounds_toArray, List.set_cons_zero, List.set_cons_succ, i64_w, i32_w]
       rfl
      refine pure_ (i := 13) (N := some 31) (v := ?_) (a' := ?_) #[true, true, true, true, true, true, true, true, true, true, true, true, true, true, false, false] rfl rfl (any_of HT_.out (by kernel_rfl)) (fun _ _ _ h => h) (Or.inl ⟨by rfl, ?_⟩) ?_ ?_
      rotate_left
      ·intro w'
       go_simp
       with_reducible rfl
      rotate_left
      ·simp only [Act.put, List.setIfInBounds_toArray, List.set_cons_zero, List.set_cons_succ, i64_w, i32_w]
       rfl
      refine pure_ (i := 14) (N := some 32) (v := ?_) (a' := ?_) #[true, true, true, true, true, true, true, true, true, true, true, true, true, true, true, false] rfl rfl (any_of HT_.out (by kernel_rfl)) (fun _ _ _ h => h) (Or.inl ⟨by rfl, ?_⟩) ?_ ?_
      rotate_left
      ·intro w'
       go_simp
       with_reducible rfl
      rotate_left
      ·simp only [Act.put, List.setIfInBounds_toArray, List.set_cons_zero, List.set_cons_succ, i64_w, i32_w]
       rfl
      refine last_ (i := 15) (N := none) #[true, true, true, true, true, true, true, true, true, true, true, true, true, true, true, true] rfl rfl (one_of HT_.out (by kernel_rfl)) (by decide) (fun K hK => ?_)
      have hs7 : w6.cell? ⟨gb231, 2, none⟩ = some (.int .i64 x232002_1) := (blk_cell BK231.out 2).trans rfl
      have hfs7 := blk_frozen BK231.out 2
      refine skip_ (w1 := ?_) (by rfl) rfl ?_ ?_
      rotate_left
      ·go_simp
       rfl
      refine hK.out _ _ ?_
      clear hK K
      refine done_ (done_of HT_.out (by kernel_rfl)) ?_
      try go_wp2
      go_roundg k1
      case measure => have := HK1.out; omega
      case rel => exact ⟨(wrap64 (x4_1 + 1)), (Int.tmod (wrap64 ((wrap64 (x232002_1 * 71)) + (wrap64 (rd l0 x4_1)))) 2147483647), (by first | rfl | (simp; done) | (simp [*]; done)), H', ⟨by have := HK1.out; omega⟩, ⟨by (with_reducible repeat (first | refine blk_drewN ?_ _ | refine blk_drew ?_ | refine blk_alloc ?_ _)); refine blk_put (cs := #[.slice (some ad232) l0.length c0, .int .i64 0, .int .i64 x232002_1]) ?_ 2 _ rfl; (with_reducible repeat (first | refine blk_drewN ?_ _ | refine blk_drew ?_ | refine blk_alloc ?_ _)); exact BK231.out⟩, ⟨by repeat (first | (with_reducible first | exact HB.out | apply below_alloc | apply pw_below_drewN | apply below_drew1 | refine below_set ?_ GE231.out) | exact HB.out)⟩, ⟨by repeat (first | (with_reducible first | exact HBW.out | apply below_alloc | apply pw_below_drewN | apply below_drew1 | refine below_set ?_ GW231.out) | exact HBW.out)⟩⟩
     ·rw [if_neg c5] at H
      exact absurd H (by simp)
    ·rw [if_neg c4] at H
     have c4b0 : decide (x4_1 < 64) = false := decide_eq_false c4
     clear c4
     simp only [Option.some.injEq, Prod.mk.injEq] at H
     obtain ⟨rfl, rfl, rfl⟩ := H
     go_wp2
     go_ret
     exact ⟨_, rfl, (show IsS82 w0 _ gb231 l0 0 x232002_1 from ⟨_, _, by (with_reducible repeat (first | refine blk_drewN ?_ _ | refine blk_drew ?_ | refine blk_alloc ?_ _)); exact BK231.out, GE231.out, HR0.out⟩), by repeat (first | (with_reducible first | exact HB.out | apply below_alloc | apply pw_below_drewN | apply below_drew1 | refine below_set ?_ GE231.out) | exact HB.out), by repeat (first | (with_reducible first | exact HBW.out | apply below_alloc | apply pw_below_drewN | apply below_drew1 | refine below_set ?_ GW231.out) | exact HBW.out)⟩
   ·rw [if_neg c3] at H
    have c3b0 : decide (x4_1 < (l0.length : Int)) = false := decide_eq_false c3
    clear c3
    simp only [Option.some.injEq, Prod.mk.injEq] at H
    obtain ⟨rfl, rfl, rfl⟩ := H
    go_wp2
    go_ret
    exact ⟨_, rfl, (show IsS82 w0 _ gb231 l0 0 x232002_1 from ⟨_, _, by (with_reducible repeat (first | refine blk_drewN ?_ _ | refine blk_drew ?_ | refine blk_alloc ?_ _)); exact BK231.out, GE231.out, HR0.out⟩), by repeat (first | (with_reducible first | exact HB.out | apply below_alloc | apply pw_below_drewN | apply below_drew1 | refine below_set ?_ GE231.out) | exact HB.out), by repeat (first | (with_reducible first | exact HBW.out | apply below_alloc | apply pw_below_drewN | apply below_drew1 | refine below_set ?_ GW231.out) | exact HBW.out)⟩

end Go.Proofs.YtomddpdfcdnaaaaDoor.PFnPlanValues
