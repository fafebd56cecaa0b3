import Derived.Test.YtomddpdfcdnaaaaDoorPFnPlanValuesx0
import Derived.Test.YtomddpdfcdnaaaaDoorPFnPlanValuesx3
import Derived.Test.YtomddpdfcdnaaaaDoorLays
import Derived.Lib.AppendIntMem
import Derived.Lib.ItoaLen
import Derived.Lib.ItoaMem
import Derived.Lib.SmallJoins
namespace Go.Proofs.YtomddpdfcdnaaaaDoor.PFnPlanValues
open Go.RowKit Go.Proofs.YtomddpdfcdnaaaaDoorW.PrintWords Go.Proofs.YtomddpdfcdnaaaaDoorW.PrintLast Go.Proofs.YtomddpdfcdnaaaaDoorW.PrintMore
attribute [local go_sem] max2_int min2_int max_two min_two max_three min_three max_four min_four   -- for this text's walks alone
set_option linter.unusedVariables false
set_option linter.unusedSimpArgs false

def impl_checkTable.f (a0 : Int) (a1 : Int) (l2 : List (S50)) : Option (Int) := (impl_IsCatalogue.f l2).bind fun t150 => (if t150 = true then ((impl_inRange.f a0 1 40).bind fun t151 => (if t151 = true then ((impl_inRange.f a1 1 40).bind fun t152 => (if t152 = true then (some 0) else (some 2))) else (some 2))) else (some 1))
set_option maxHeartbeats 8000000 in
set_option maxRecDepth 100000 in
theorem impl_checkTable.calls (a0 : Int) (a1 : Int) (A2 : Option Addr) (c2 : Nat) (l2 : List (S50)) (r : Int) (w : World) (hr2 : Kd.C k50 w A2 l2.length l2) (hc2 : l2.length ≤ c2) (h : impl_checkTable.f a0 a1 l2 = some r) :
  Calls Tryd.prog 43 #[.int .i64 a0, .int .i64 a1, .slice A2 l2.length c2] w fun e w' => e = .returned (.int .i64 r) ∧ Below w.heap.size w w' := by
 have HR2 := Aside0.mk hr2
 have HC2 := Aside0.mk hc2
 clear hr2 hc2
 have HB := Aside0.mk (Below.refl w.heap.size w)
 have H : ((impl_IsCatalogue.f l2).bind fun t150 => (if t150 = true then ((impl_inRange.f a0 1 40).bind fun t151 => (if t151 = true then ((impl_inRange.f a1 1 40).bind fun t152 => (if t152 = true then (some 0) else (some 2))) else (some 2))) else (some 1))) = some r := h
 clear h
 replace H := Option.bind_eq_some_iff.mp H
 obtain ⟨t150, A40, H⟩ := H
 replace H : (if t150 = true then ((impl_inRange.f a0 1 40).bind fun t151 => (if t151 = true then ((impl_inRange.f a1 1 40).bind fun t152 => (if t152 = true then (some 0) else (some 2))) else (some 2))) else (some 1)) = some r := H
 have A4 := Aside0.mk A40
 clear A40
 by_cases c5 : t150 = true
 ·subst c5
  have H1 : ((impl_inRange.f a0 1 40).bind fun t151 => (if t151 = true then ((impl_inRange.f a1 1 40).bind fun t152 => (if t152 = true then (some 0) else (some 2))) else (some 2))) = some r := by rw [if_pos rfl] at H; exact H
  clear H
  have H := H1
  clear H1
  replace H := Option.bind_eq_some_iff.mp H
  obtain ⟨t151, A60, H⟩ := H
  replace H : (if t151 = true then ((impl_inRange.f a1 1 40).bind fun t152 => (if t152 = true then (some 0) else (some 2))) else (some 2)) = some r := H
  have A6 := Aside0.mk A60
  clear A60
  by_cases c7 : t151 = true
  ·subst c7
   have H1 : ((impl_inRange.f a1 1 40).bind fun t152 => (if t152 = true then (some 0) else (some 2))) = some r := by rw [if_pos rfl] at H; exact H
   clear H
   have H := H1
   clear H1
   replace H := Option.bind_eq_some_iff.mp H
   obtain ⟨t152, A80, H⟩ := H
   replace H : (if t152 = true then (some 0) else (some 2)) = some r := H
   have A8 := Aside0.mk A80
   clear A80
   by_cases c9 : t152 = true
   ·subst c9
    have H1 : (some 0) = some r := by rw [if_pos rfl] at H; exact H
    clear H
    have H := H1
    clear H1
    obtain rfl := Option.some.inj H
    go_enter Tryd.func43, Tryd.ntmps43
    go_wp2_with (first | ((with_reducible refine gate_callee (f := 32) rfl ?_); refine goesL_ (some 9) rfl rfl Tryd.func32 (by kernel_rfl) rfl #[.slice A2 l2.length c2] rfl (by (try simp only [List.map_toArray, List.map_cons, List.map_nil]); first | done | rfl | (simp only [List.length_drop, List.length_take]; rfl)) ?_; (with_reducible refine (impl_IsCatalogue.calls _ _ l2 true _ ?side1 ?side2 A4.out).mono ?_); (case side1 => repeat (first | exact HR2.out | (with_reducible refine Kd.C_alloc ?_ _) | (with_reducible refine Kd.C_drewN ?_ _) | (with_reducible refine Kd.C_drew ?_))); (case side2 => exact HC2.out); rintro e w10 ⟨rfl, hb⟩; refine ⟨_, rfl, ?_⟩; have n0_ := Aside0.mk (below_step (by repeat (first | (with_reducible first | exact HB.out | apply below_alloc | apply pw_below_drewN | apply below_drew1) | exact HB.out)) hb); clear HB; have HB := n0_; clear n0_; (try clear hb)) | ((with_reducible refine gate_callee (f := 48) rfl ?_); refine goesL_ (some 13) rfl rfl Tryd.func48 (by kernel_rfl) rfl #[.int .i64 a0, .int .i64 1, .int .i64 40] rfl (by (try simp only [List.map_toArray, List.map_cons, List.map_nil]); first | done | rfl | (simp only [List.length_drop, List.length_take]; rfl)) ?_; (with_reducible refine (impl_inRange.calls a0 1 40 true _ A6.out).mono ?_); rintro e w' ⟨rfl, ⟨nd, rfl⟩⟩; refine ⟨_, rfl, ?_⟩) | (go_at_call 48; (with_reducible refine (impl_inRange.calls a1 1 40 true _ A8.out).mono ?_); rintro e w' ⟨rfl, ⟨nd, rfl⟩⟩))
    go_ret
    exact ⟨by first | rfl | (simp [errW_none, errW_some] <;> rfl) | (simp [*, errW_none, errW_some] <;> rfl), by repeat (first | (with_reducible first | exact HB.out | apply below_alloc | apply pw_below_drewN | apply below_drew1) | exact HB.out)⟩
   ·replace c9 := Bool.eq_false_iff.mpr c9
    subst c9
    have H1 : (some 2) = some r := by rw [if_neg (show ¬ (false = true) by decide)] at H; exact H
    clear H
    have H := H1
    clear H1
    obtain rfl := Option.some.inj H
    go_enter Tryd.func43, Tryd.ntmps43
    go_wp2_with (first | ((with_reducible refine gate_callee (f := 32) rfl ?_); refine goesL_ (some 9) rfl rfl Tryd.func32 (by kernel_rfl) rfl #[.slice A2 l2.length c2] rfl (by (try simp only [List.map_toArray, List.map_cons, List.map_nil]); first | done | rfl | (simp only [List.length_drop, List.length_take]; rfl)) ?_; (with_reducible refine (impl_IsCatalogue.calls _ _ l2 true _ ?side1 ?side2 A4.out).mono ?_); (case side1 => repeat (first | exact HR2.out | (with_reducible refine Kd.C_alloc ?_ _) | (with_reducible refine Kd.C_drewN ?_ _) | (with_reducible refine Kd.C_drew ?_))); (case side2 => exact HC2.out); rintro e w11 ⟨rfl, hb⟩; refine ⟨_, rfl, ?_⟩; have n0_ := Aside0.mk (below_step (by repeat (first | (with_reducible first | exact HB.out | apply below_alloc | apply pw_below_drewN | apply below_drew1) | exact HB.out)) hb); clear HB; have HB := n0_; clear n0_; (try clear hb)) | ((with_reducible refine gate_callee (f := 48) rfl ?_); refine goesL_ (some 13) rfl rfl Tryd.func48 (by kernel_rfl) rfl #[.int .i64 a0, .int .i64 1, .int .i64 40] rfl (by (try simp only [List.map_toArray, List.map_cons, List.map_nil]); first | done | rfl | (simp only [List.length_drop, List.length_take]; rfl)) ?_; (with_reducible refine (impl_inRange.calls a0 1 40 true _ A6.out).mono ?_); rintro e w' ⟨rfl, ⟨nd, rfl⟩⟩; refine ⟨_, rfl, ?_⟩) | (go_at_call 48; (with_reducible refine (impl_inRange.calls a1 1 40 false _ A8.out).mono ?_); rintro e w' ⟨rfl, ⟨nd, rfl⟩⟩))
    go_ret
    exact ⟨by first | rfl | (simp [errW_none, errW_some] <;> rfl) | (simp [*, errW_none, errW_some] <;> rfl), by repeat (first | (with_reducible first | exact HB.out | apply below_alloc | apply pw_below_drewN | apply below_drew1) | exact HB.out)⟩
  ·replace c7 := Bool.eq_false_iff.mpr c7
   subst c7
   have H1 : (some 2) = some r := by rw [if_neg (show ¬ (false = true) by decide)] at H; exact H
   clear H
   have H := H1
   clear H1
   obtain rfl := Option.some.inj H
   go_enter Tryd.func43, Tryd.ntmps43
   go_wp2_with (first | ((with_reducible refine gate_callee (f := 32) rfl ?_); refine goesL_ (some 9) rfl rfl Tryd.func32 (by kernel_rfl) rfl #[.slice A2 l2.length c2] rfl (by (try simp only [List.map_toArray, List.map_cons, List.map_nil]); first | done | rfl | (simp only [List.length_drop, List.length_take]; rfl)) ?_; (with_reducible refine (impl_IsCatalogue.calls _ _ l2 true _ ?side1 ?side2 A4.out).mono ?_); (case side1 => repeat (first | exact HR2.out | (with_reducible refine Kd.C_alloc ?_ _) | (with_reducible refine Kd.C_drewN ?_ _) | (with_reducible refine Kd.C_drew ?_))); (case side2 => exact HC2.out); rintro e w12 ⟨rfl, hb⟩; refine ⟨_, rfl, ?_⟩; have n0_ := Aside0.mk (below_step (by repeat (first | (with_reducible first | exact HB.out | apply below_alloc | apply pw_below_drewN | apply below_drew1) | exact HB.out)) hb); clear HB; have HB := n0_; clear n0_; (try clear hb)) | ((with_reducible refine gate_callee (f := 48) rfl ?_); refine goesL_ (some 13) rfl rfl Tryd.func48 (by kernel_rfl) rfl #[.int .i64 a0, .int .i64 1, .int .i64 40] rfl (by (try simp only [List.map_toArray, List.map_cons, List.map_nil]); first | done | rfl | (simp only [List.length_drop, List.length_take]; rfl)) ?_; (with_reducible refine (impl_inRange.calls a0 1 40 false _ A6.out).mono ?_); rintro e w' ⟨rfl, ⟨nd, rfl⟩⟩; refine ⟨_, rfl, ?_⟩))
   go_ret
   exact ⟨by first | rfl | (simp [errW_none, errW_some] <;> rfl) | (simp [*, errW_none, errW_some] <;> rfl), by repeat (first | (with_reducible first | exact HB.out | apply below_alloc | apply pw_below_drewN | apply below_drew1) | exact HB.out)⟩
 ·replace c5 := Bool.eq_false_iff.mpr c5
  subst c5
  have H1 : (some 1) = some r := by rw [if_neg (show ¬ (false = true) by decide)] at H; exact H
  clear H
  have H := H1
  clear H1
  obtain rfl := Option.some.inj H
  go_enter Tryd.func43, Tryd.ntmps43
  go_wp2_with (first | ((with_reducible refine gate_callee (f := 32) rfl ?_); refine goesL_ (some 9) rfl rfl Tryd.func32 (by kernel_rfl) rfl #[.slice A2 l2.length c2] rfl (by (try simp only [List.map_toArray, List.map_cons, List.map_nil]); first | done | rfl | (simp only [List.length_drop, List.length_take]; rfl)) ?_; (with_reducible refine (impl_IsCatalogue.calls _ _ l2 false _ ?side1 ?side2 A4.out).mono ?_); (case side1 => repeat (first | exact HR2.out | (with_reducible refine Kd.C_alloc ?_ _) | (with_reducible refine Kd.C_drewN ?_ _) | (with_reducible refine Kd.C_drew ?_))); (case side2 => exact HC2.out); rintro e w13 ⟨rfl, hb⟩; refine ⟨_, rfl, ?_⟩; have n0_ := Aside0.mk (below_step (by repeat (first | (with_reducible first | exact HB.out | apply below_alloc | apply pw_below_drewN | apply below_drew1) | exact HB.out)) hb); clear HB; have HB := n0_; clear n0_; (try clear hb)))
  go_ret
  exact ⟨by first | rfl | (simp [errW_none, errW_some] <;> rfl) | (simp [*, errW_none, errW_some] <;> rfl), by repeat (first | (with_reducible first | exact HB.out | apply below_alloc | apply pw_below_drewN | apply below_drew1) | exact HB.out)⟩








def strings_Index.f (a0 : ByteArray) (a1 : ByteArray) : Option Int := match a1.data.toList with
 | [b] => some (Go.Lib.indexByte a0.data.toList b)
 | _ => none
theorem strings_Index.calls (a0 : ByteArray) (a1 : ByteArray) (r : Int) (w : World) (h : strings_Index.f a0 a1 = some r) :
  Calls Tryd.prog 65 #[.string a0, .string a1] w fun e w' => e = .returned (.int .i64 r) ∧ Drawn0 w w' := by
 unfold strings_Index.f at h
 split at h
 ·rename_i b hb
  obtain rfl := Option.some.inj h
  have e1 : a1 = ⟨#[b]⟩ := by
   obtain ⟨⟨l⟩⟩ := a1
   simp only at hb
   subst hb
   rfl
  subst e1
  refine (Any.strings_Index_one Tryd.lays143 a0 b w).mono ?_
  rintro e w' ⟨rfl, rfl⟩
  exact ⟨rfl, Drawn0.refl _⟩
 ·cases h




def strconv_bool2_int.f (a0 : Bool) : Option (Int) := if a0 = true then (some 1) else (some 0)
set_option maxHeartbeats 8000000 in
set_option maxRecDepth 100000 in
theorem strconv_bool2_int.calls (a0 : Bool) (r : Int) (w : World) (h : strconv_bool2_int.f a0 = some r) :
  Calls Tryd.prog 93 #[.bool a0] w fun e w' => e = .returned (.int .i64 r) ∧ Drawn0 w w' := by
 have H : (if a0 = true then (some 1) else (some 0)) = some r := h
 clear h
 by_cases c2 : a0 = true
 ·subst c2
  have H1 : (some 1) = some r := by rw [if_pos rfl] at H; exact H
  clear H
  have H := H1
  clear H1
  obtain rfl := Option.some.inj H
  go_enter Tryd.func93, Tryd.ntmps93
  go_wp2
  go_ret
  exact ⟨by first | rfl | (simp; done) | (simp [*]; done), by repeat (first | exact Drawn0.refl _ | apply Drawn0.step)⟩
 ·replace c2 := Bool.eq_false_iff.mpr c2
  subst c2
  have H1 : (some 0) = some r := by rw [if_neg (show ¬ (false = true) by decide)] at H; exact H
  clear H
  have H := H1
  clear H1
  obtain rfl := Option.some.inj H
  go_enter Tryd.func93, Tryd.ntmps93
  go_wp2
  go_ret
  exact ⟨by first | rfl | (simp; done) | (simp [*]; done), by repeat (first | exact Drawn0.refl _ | apply Drawn0.step)⟩










structure TabL (w : World) : Prop where
 tab : Go.Lib.TabIs Tryd.prog w "internal/strconv.uint64pow10" .u64 Go.Lib.pow10Tab
 syn : ∃ tp p, w.var? Tryd.prog "strconv.ErrSyntax" = some #[.iface tp p]
 rng : ∃ tp p, w.var? Tryd.prog "strconv.ErrRange" = some #[.iface tp p]
theorem TabL.var {w W : World} {n : String} {cs : Array Value} (h : w.var? Tryd.prog n = some cs) (hb : Below w.heap.size w W) : W.var? Tryd.prog n = some cs := by
 unfold World.var? at h ⊢
 cases hg : Tryd.prog.globalNamed n with
 | none => simp [hg] at h
 | some g =>
  simp only [hg, Option.bind_some] at h ⊢
  have hlt : g < w.heap.size := by
   rcases Nat.lt_or_ge g w.heap.size with h' | h'
   ·exact h'
   ·rw [Array.getElem?_eq_none h'] at h; simp at h
  rw [hb.block g hlt]
  exact h
theorem TabL.keep {w W : World} (h : TabL w) (hb : Below w.heap.size w W) : TabL W := ⟨TabL.var h.tab hb, h.syn.imp fun _ e => e.imp fun _ e => TabL.var e hb, h.rng.imp fun _ e => e.imp fun _ e => TabL.var e hb⟩
theorem TabL.drewN {w : World} (h : TabL w) (n : Nat) : TabL (w.drewN n) := h.keep (pw_below_drewN (Below.refl _ _) n)
set_option maxHeartbeats 4000000 in
set_option maxRecDepth 100000 in
theorem impl_decimal.walk (n : Int) (w : World) (h0 : -9223372036854775808 ≤ n) (h1 : n ≤ 9223372036854775807) (hT_ : TabL w) :
  Calls Tryd.prog 58 #[.int .i64 n] w fun e w' => e = .returned (.string ⟨(Go.Lib.itoa n).toArray⟩) ∧ Below w.heap.size w w' := by
 have HT := Aside0.mk hT_.tab
 clear hT_
 go_enter Tryd.func58, Tryd.ntmps58
 go_wp2_with (go_at_call 68; (refine (Any.strconv_FormatInt_10 Tryd.lays173 n h0 h1 _ HT.out).mono ?_); rintro e w' ⟨rfl, k, os, rfl⟩; have HB := Aside0.mk (show Below w.heap.size w (Go.Sort.grow (w.drewN k) os) from Lib.below_grow _ w (Nat.le_refl _) k os))
 go_ret
 exact ⟨rfl, HB.out⟩
def impl_decimal.f (a0 : Int) : Option ByteArray := if -9223372036854775808 ≤ a0 ∧ a0 ≤ 9223372036854775807 then some ⟨(Go.Lib.itoa a0).toArray⟩ else none
theorem impl_decimal.calls (a0 : Int) (r : ByteArray) (w : World) (hT_ : TabL w) (h : impl_decimal.f a0 = some r) :
  Calls Tryd.prog 58 #[.int .i64 a0] w fun e w' => e = .returned (.string r) ∧ Below w.heap.size w w' := by
 unfold impl_decimal.f at h
 by_cases c : -9223372036854775808 ≤ a0 ∧ a0 ≤ 9223372036854775807
 ·rw [if_pos c] at h
  obtain rfl := Option.some.inj h
  exact impl_decimal.walk a0 w c.1 c.2 hT_
 ·rw [if_neg c] at h
  cases h















theorem impl_readDecimal.ba_len (s : ByteArray) : s.data.toList.length = s.size := Array.length_toList
theorem impl_readDecimal.ba_loop (s : ByteArray) : ∀ (d i : Nat) (r : List UInt8), i + d = s.size → ByteArray.toList.loop s i r = r.reverse ++ s.data.toList.drop i := by
 have hl := impl_readDecimal.ba_len s
 intro d
 induction d with
 | zero =>
  intro i r h
  unfold ByteArray.toList.loop
  rw [if_neg (by omega), List.drop_eq_nil_of_le (by omega), List.append_nil]
 | succ d ih =>
  intro i r h
  unfold ByteArray.toList.loop
  have e : s.get! i = s.data.toList[i]'(by omega) := by
   obtain ⟨a⟩ := s
   have hi : i < a.size := by have : (ByteArray.mk a).size = a.size := rfl; omega
   show a[i]! = _
   rw [getElem!_pos a i hi]
   rfl
  rw [if_pos (by omega), ih (i + 1) _ (by omega), List.drop_eq_getElem_cons (show i < s.data.toList.length by omega), e, List.reverse_cons, List.append_assoc]
  rfl
theorem impl_readDecimal.ba_toList (s : ByteArray) : s.toList = s.data.toList := by
 unfold ByteArray.toList
 rw [impl_readDecimal.ba_loop s s.size 0 [] (by omega)]
 rfl
theorem impl_readDecimal.eq_ba (s t : ByteArray) : (s.toList == t.toList) = decide (s = t) := by
 rw [impl_readDecimal.ba_toList, impl_readDecimal.ba_toList]
 by_cases h : s = t
 ·subst h; simp
 ·rw [decide_eq_false h]
  refine beq_eq_false_iff_ne.2 fun hc => h ?_
  obtain ⟨⟨l⟩⟩ := s
  obtain ⟨⟨m⟩⟩ := t
  have hc : l = m := hc
  rw [hc]
def impl_readDecimal.f (a0 : ByteArray) : Option (Int × Bool) := if a0.size ≤ 281474976710656 then (match Go.Lib.parseIntB 64 a0.data.toList with
 | .ok v => if 10 < a0.size then some (0, false) else if v < 0 then some (0, false) else (impl_decimal.f v).bind fun t => if t = a0 then some (v, true) else some (0, false)
 | _ => some (0, false)) else none
set_option maxHeartbeats 4000000 in
set_option maxRecDepth 100000 in
theorem impl_readDecimal.calls (a0 : ByteArray) (r1 : Int) (r2 : Bool) (w : World) (hT_ : TabL w) (h : impl_readDecimal.f a0 = some (r1, r2)) :
  Calls Tryd.prog 66 #[.string a0] w fun e w' => e = .returned (.tuple #[.int .i64 r1, .bool r2]) ∧ Below w.heap.size w w' := by
 have HT := Aside0.mk hT_
 clear hT_
 unfold impl_readDecimal.f at h
 by_cases hs : a0.size ≤ 281474976710656
 ·rw [if_pos hs] at h
  split at h
  ·rename_i v hv
   by_cases hq1 : 10 < a0.size
   ·rw [if_pos hq1] at h
    obtain ⟨rfl, rfl⟩ := Prod.mk.inj (Option.some.inj h)
    have hd1 : decide ((a0.size : Int) > 10) = true := decide_eq_true (by omega)
    have hd2 : (10 < a0.size) = True := eq_true hq1
    go_enter Tryd.func66, Tryd.ntmps66
    go_wp2_with (go_at_call 70; go_loud ((refine (Any.strconv_ParseInt_10_at64_ok Tryd.lays174 _ (by omega) _ hv _).mono ?_); rintro e w1 ⟨rfl, hw1⟩; have HB := Aside0.mk (show Below w.heap.size w w1 from (by rcases hw1 with rfl | ⟨t_, rfl⟩ <;> first | exact Below.refl _ _ | exact Go.Joins.below_bytesWorld _ _ _ _ (Nat.le_refl _))); clear hw1))
    go_ret2
    exact ⟨rfl, HB.out⟩
   ·rw [if_neg hq1] at h
    have hd1 : decide ((a0.size : Int) > 10) = false := decide_eq_false (by omega)
    have hd2 : (10 < a0.size) = False := eq_false hq1
    by_cases hq2 : v < 0
    ·rw [if_pos hq2] at h
     obtain ⟨rfl, rfl⟩ := Prod.mk.inj (Option.some.inj h)
     have hd3 : decide (v < 0) = true := decide_eq_true hq2
     go_enter Tryd.func66, Tryd.ntmps66
     go_wp2_with (go_at_call 70; go_loud ((refine (Any.strconv_ParseInt_10_at64_ok Tryd.lays174 _ (by omega) _ hv _).mono ?_); rintro e w1 ⟨rfl, hw1⟩; have HB := Aside0.mk (show Below w.heap.size w w1 from (by rcases hw1 with rfl | ⟨t_, rfl⟩ <;> first | exact Below.refl _ _ | exact Go.Joins.below_bytesWorld _ _ _ _ (Nat.le_refl _))); clear hw1))
     go_ret2
     exact ⟨rfl, HB.out⟩
    ·rw [if_neg hq2] at h
     have hd3 : decide (v < 0) = false := decide_eq_false hq2
     obtain ⟨t, A1, h1⟩ := Option.bind_eq_some_iff.mp h
     clear h
     have h : (if t = a0 then some (v, true) else some (0, false)) = some (r1, r2) := h1
     clear h1
     have A1 := Aside0.mk A1
     by_cases ht : t = a0
     ·rw [if_pos ht] at h
      subst ht
      obtain ⟨rfl, rfl⟩ := Prod.mk.inj (Option.some.inj h)
      have hq : (t.toList == t.toList) = true := beq_self_eq_true _
      go_enter Tryd.func66, Tryd.ntmps66
      go_wp2_with (first
       | (go_at_call 70; go_loud ((refine (Any.strconv_ParseInt_10_at64_ok Tryd.lays174 _ (by omega) _ hv _).mono ?_); rintro e w1 ⟨rfl, hw1⟩; have HB := Aside0.mk (show Below w.heap.size w w1 from (by rcases hw1 with rfl | ⟨t_, rfl⟩ <;> first | exact Below.refl _ _ | exact Go.Joins.below_bytesWorld _ _ _ _ (Nat.le_refl _))); clear hw1))
       | (go_at_call 58; go_loud ((refine (impl_decimal.calls _ _ _ (HT.out.keep HB.out) A1.out).mono ?_); rintro e w2 ⟨rfl, HB0⟩; have HC := Aside0.mk (HB.out.trans (HB0.mono HB.out.size)); clear HB0)))
      go_ret2
      exact ⟨rfl, HC.out⟩
     ·rw [if_neg ht] at h
      obtain ⟨rfl, rfl⟩ := Prod.mk.inj (Option.some.inj h)
      have hq : (t.toList == a0.toList) = false := by rw [impl_readDecimal.eq_ba, decide_eq_false ht]
      go_enter Tryd.func66, Tryd.ntmps66
      go_wp2_with (first
       | (go_at_call 70; go_loud ((refine (Any.strconv_ParseInt_10_at64_ok Tryd.lays174 _ (by omega) _ hv _).mono ?_); rintro e w1 ⟨rfl, hw1⟩; have HB := Aside0.mk (show Below w.heap.size w w1 from (by rcases hw1 with rfl | ⟨t_, rfl⟩ <;> first | exact Below.refl _ _ | exact Go.Joins.below_bytesWorld _ _ _ _ (Nat.le_refl _))); clear hw1))
       | (go_at_call 58; go_loud ((refine (impl_decimal.calls _ _ _ (HT.out.keep HB.out) A1.out).mono ?_); rintro e w2 ⟨rfl, HB0⟩; have HC := Aside0.mk (HB.out.trans (HB0.mono HB.out.size)); clear HB0)))
      go_ret2
      exact ⟨rfl, HC.out⟩
  ·rename_i hne
   obtain ⟨rfl, rfl⟩ := Prod.mk.inj (Option.some.inj h)
   obtain ⟨n0, hc⟩ : ∃ n0, Calls Tryd.prog 70 #[.string a0, .int .i64 10, .int .i64 64] w fun e w' => ∃ N, e = .returned (.tuple #[.int .i64 n0, .iface (Tryd.lays174_ren.t 168) (.pointer (some ⟨N, 0, none⟩))]) ∧ Below w.heap.size w w' := by
    cases hv : Go.Lib.parseIntB 64 a0.data.toList with
    | ok v => exact absurd hv (hne v)
    | range =>
     obtain ⟨tp, p, hp⟩ := HT.out.rng
     exact ⟨_, (Any.strconv_ParseInt_10_at64_range_var Tryd.lays174 a0 hs hv tp p w hp).mono fun e w' ⟨N, h1, _, _, h2⟩ => ⟨N, h1, h2⟩⟩
    | _ =>
     obtain ⟨tp, p, hp⟩ := HT.out.syn
     exact ⟨_, (Any.strconv_ParseInt_10_at64_syntax_var Tryd.lays174 a0 hs hv tp p w hp).mono fun e w' ⟨N, h1, _, _, h2⟩ => ⟨N, h1, h2⟩⟩
   go_enter Tryd.func66, Tryd.ntmps66
   go_wp2_with (go_at_call 70; go_loud ((refine hc.mono ?_); rintro e w1 ⟨N, rfl, HB0⟩; have HC := Aside0.mk HB0; clear HB0))
   go_ret2
   exact ⟨rfl, HC.out⟩
 ·rw [if_neg hs] at h
  cases h


def strings_HasPrefix.f (a0 : ByteArray) (a1 : ByteArray) : Option Bool := some (Go.Lib.hasPrefix a0.data.toList a1.data.toList)
theorem strings_HasPrefix.calls (a0 : ByteArray) (a1 : ByteArray) (r : Bool) (w : World) (h : strings_HasPrefix.f a0 a1 = some r) :
  Calls Tryd.prog 71 #[.string a0, .string a1] w fun e w' => e = .returned (.bool r) ∧ Drawn0 w w' := by
 obtain rfl := Option.some.inj h
 refine (Any.strings_HasPrefix Tryd.lays99 a0 a1 w).mono ?_
 rintro e w' ⟨rfl, rfl⟩
 exact ⟨rfl, Drawn0.refl _⟩


end Go.Proofs.YtomddpdfcdnaaaaDoor.PFnPlanValues
