-- Written by a program of this session.
import Derived.Test.YtnnglnphkbpemaaDoorPFnExactCodeTextx0
import Derived.Test.YtnnglnphkbpemaaDoorPFnExactCodeTextx1
import Derived.Test.YtnnglnphkbpemaaDoorLays
import Derived.Lib.AppendIntMem
import Derived.Lib.ItoaLen
import Derived.Lib.ItoaMem
namespace Go.Proofs.YtnnglnphkbpemaaDoor.PFnExactCodeText
open Go.RowKit Go.Proofs.YtnnglnphkbpemaaDoorW.PrintWords Go.Proofs.YtnnglnphkbpemaaDoorW.PrintLast Go.Proofs.YtnnglnphkbpemaaDoorW.PrintMore
attribute [local go_sem] max2_int min2_int max_two min_two max_three min_three max_four min_four   -- for this text's walks alone
set_option linter.unusedVariables false
set_option linter.unusedSimpArgs false

/-! ### strconv_bool2_int: function 72 -/
def strconv_bool2_int.f (a0 : Bool) : Option (Int) := if a0 = true then (some 1) else (some 0)
set_option maxHeartbeats 8000000 in
set_option maxRecDepth 100000 in
theorem strconv_bool2_int.calls (a0 : Bool) (r : Int) (w : World) (h : strconv_bool2_int.f a0 = some r) :
    Calls Tryd.prog 72 #[.bool a0] w fun e w' => e = .returned (.int .i64 r) ∧ Drawn0 w w' := by
  have H : (if a0 = true then (some 1) else (some 0)) = some r := h
  clear h
  by_cases c2 : a0 = true
  · subst c2
    have H1 : (some 1) = some r := by rw [if_pos rfl] at H; exact H
    clear H
    have H := H1
    clear H1
    obtain rfl := Option.some.inj H
    go_enter Tryd.func72, Tryd.ntmps72
    go_wp2
    go_ret
    exact ⟨by first | rfl | (simp; done) | (simp [*]; done), by repeat (first | exact Drawn0.refl _ | apply Drawn0.step)⟩
  · replace c2 := Bool.eq_false_iff.mpr c2
    subst c2
    have H1 : (some 0) = some r := by rw [if_neg (show ¬ (false = true) by decide)] at H; exact H
    clear H
    have H := H1
    clear H1
    obtain rfl := Option.some.inj H
    go_enter Tryd.func72, Tryd.ntmps72
    go_wp2
    go_ret
    exact ⟨by first | rfl | (simp; done) | (simp [*]; done), by repeat (first | exact Drawn0.refl _ | apply Drawn0.step)⟩

-- NOT PRINTED: function 64 (strconv_numDigits)

-- NOT PRINTED: function 65 (strconv_formatBase10)

-- NOT PRINTED: function 73 (strconv_isPowerOfTwo)

-- NOT PRINTED: function 75 (bits_TrailingZeros32)

-- NOT PRINTED: function 76 (bits_TrailingZeros64)

-- NOT PRINTED: function 74 (bits_TrailingZeros)

-- NOT PRINTED: function 66 (strconv_formatBits)

-- NOT PRINTED: function 52 (strconv_FormatInt_52)

-- NOT PRINTED: function 40 (strconv_FormatInt_40)

-- NOT PRINTED: function 35 (impl_decimal)

-- NOT PRINTED: function 53 (bits_Mul32)

-- NOT PRINTED: function 54 (bits_Mul64)

-- NOT PRINTED: function 41 (bits_Mul)

-- NOT PRINTED: function 55 (stringslite_HasPrefix)

-- NOT PRINTED: function 42 (strings_HasPrefix)

-- NOT PRINTED: function 67 (abi_NoEscape)

-- NOT PRINTED: function 56 (strings_Builder_copyCheck)

-- NOT PRINTED: function 68 (bytealg_MakeNoZero)

-- NOT PRINTED: function 57 (strings_Builder_grow)

-- NOT PRINTED: function 43 (strings_Builder_Grow)

-- NOT PRINTED: function 44 (strings_Builder_WriteString)

-- NOT PRINTED: function 45 (strings_Builder_Len)

-- NOT PRINTED: function 46 (strings_Builder_String)

-- NOT PRINTED: function 36 (strings_Repeat)

-- NOT PRINTED: function 22 (impl_seven)

/-! ### impl_CodeText: function 7, by a template of this session -/
/-- The library's variables that the road reads hold what the program's text lays in them. -/
structure TabL (w : World) : Prop where
  tab : Go.Lib.TabIs Tryd.prog w "internal/strconv.uint64pow10" .u64 Go.Lib.pow10Tab
theorem TabL.var {w W : World} {n : String} {cs : Array Value} (h : w.var? Tryd.prog n = some cs) (hb : Below w.heap.size w W) : W.var? Tryd.prog n = some cs := by
  unfold World.var? at h ⊢
  cases hg : Tryd.prog.globalNamed n with
  | none => simp [hg] at h
  | some g =>
    simp only [hg, Option.bind_some] at h ⊢
    have hlt : g < w.heap.size := by
      rcases Nat.lt_or_ge g w.heap.size with h' | h'
      · exact h'
      · rw [Array.getElem?_eq_none h'] at h; simp at h
    rw [hb.block g hlt]
    exact h
theorem TabL.keep {w W : World} (h : TabL w) (hb : Below w.heap.size w W) : TabL W := ⟨TabL.var h.tab hb⟩
theorem TabL.drewN {w : World} (h : TabL w) (n : Nat) : TabL (w.drewN n) := h.keep (pw_below_drewN (Below.refl _ _) n)
/-! A code's text: seven digits. -/
theorem TabL.extra : Builder.Extra Tryd.prog Tryd.lays105_ren where
  sizeBuilder := by kernel_rfl
  liesBuilder := by kernel_rfl
  t5 := Tryd.lays173.t5
  a5 := Tryd.lays173.a5
  z5 := Tryd.lays173.z5
  v5 := Tryd.lays173.v5
  infoByte := by kernel_rfl
  cellsByte := by kernel_rfl
  sizeByte := by kernel_rfl
  neB5 := by decide
theorem impl_CodeText.nd : ∀ (k u : Nat), u < 10 ^ (k + 1) → Go.Lib.nDigits u ≤ k + 1
  | 0, u, h => by rw [Go.Lib.nDigits_small (by simpa using h)]; exact Nat.le_refl _
  | k + 1, u, h => by
    by_cases hu : u < 10
    · rw [Go.Lib.nDigits_small hu]; omega
    · rw [Go.Lib.nDigits_big hu]
      have := impl_CodeText.nd k (u / 10) (by rw [Nat.pow_succ] at h; omega)
      omega
theorem impl_CodeText.dig (n : Int) (h0 : 0 ≤ n) (h : n ≤ 9999999) : (Go.Lib.itoa n).length ≤ 7 := by
  obtain ⟨u, rfl⟩ := Int.eq_ofNat_of_zero_le h0
  rw [Go.Lib.itoa_nonneg, Go.Lib.decDigits_length]
  exact impl_CodeText.nd 6 u (by omega)
def impl_CodeText.txt (n : Int) : ByteArray := (⟨(Go.Lib.repeatL [48] (7 - (Go.Lib.itoa n).length)).toArray⟩ : ByteArray) ++ ⟨(Go.Lib.itoa n).toArray⟩
def impl_CodeText.f (a0 : Int) : Option ByteArray := (impl_IsCode.f a0).bind fun t => if t = true then some (impl_CodeText.txt a0) else some ⟨#[]⟩
set_option maxHeartbeats 4000000 in
set_option maxRecDepth 100000 in
theorem impl_decimal.calls (n : Int) (w : World) (h0 : -9223372036854775808 ≤ n) (h1 : n ≤ 9223372036854775807) (hT_ : TabL w) :
    Calls Tryd.prog 35 #[.int .i64 n] w fun e w' => e = .returned (.string ⟨(Go.Lib.itoa n).toArray⟩) ∧ Below w.heap.size w w' := by
  have HT := Aside0.mk hT_.tab
  clear hT_
  go_enter Tryd.func35, Tryd.ntmps35
  go_wp2_with (go_at_call 40; (refine (Any.strconv_FormatInt_10 Tryd.lays173 n h0 h1 _ HT.out).mono ?_); rintro e w' ⟨rfl, k, os, rfl⟩; have HB := Aside0.mk (show Below w.heap.size w (Go.Sort.grow (w.drewN k) os) from Lib.below_grow _ w (Nat.le_refl _) k os))
  go_ret
  exact ⟨rfl, HB.out⟩
theorem impl_inRange.val (a b c : Int) : impl_inRange.f a b c = some (decide (b ≤ a ∧ a ≤ c)) := by
  unfold impl_inRange.f
  by_cases h : b ≤ a
  · rw [if_pos h]; congr 1; simp [h]
  · rw [if_neg h]; congr 1; simp [h]
theorem impl_CodeText.code (n : Int) (h : impl_IsCode.f n = some true) : 0 ≤ n ∧ n ≤ 9999999 := by
  unfold impl_IsCode.f at h
  rw [impl_inRange.val] at h
  simp only [Option.bind_some] at h
  by_cases hc : 0 ≤ n ∧ n ≤ 9999999
  · exact hc
  · rw [decide_eq_false hc, if_neg (by decide)] at h
    cases h
set_option maxHeartbeats 4000000 in
set_option maxRecDepth 100000 in
theorem impl_seven.calls (n : Int) (w : World) (h0 : 0 ≤ n) (h1 : n ≤ 9999999) (hT_ : TabL w) :
    Calls Tryd.prog 22 #[.int .i64 n] w fun e w' => e = .returned (.string (impl_CodeText.txt n)) ∧ Below w.heap.size w w' := by
  have HT := Aside0.mk hT_
  clear hT_
  have hd := impl_CodeText.dig n h0 h1
  have hw : (7 - (((Go.Lib.itoa n).length : Nat) : Int)) = ((7 - (Go.Lib.itoa n).length : Nat) : Int) := by omega
  have HW := Aside0.mk hw
  have hc : (9223372036854775807 < (Go.Lib.repeatL [48] (7 - (Go.Lib.itoa n).length)).length + (Go.Lib.itoa n).length) = False := by
    refine eq_false ?_
    rw [Go.Lib.repeatL_length, List.length_singleton]
    omega
  clear hw
  unfold impl_CodeText.txt
  go_enter Tryd.func22, Tryd.ntmps22
  go_wp2_with (first
    | (go_at_call 35; (refine (impl_decimal.calls n _ (by omega) (by omega) HT.out).mono ?_); rintro e w1 ⟨rfl, HB0⟩; have HB := Aside0.mk HB0; clear HB0)
    | (go_at_call 36; go_loud (rw [HW.out]; (refine (Any.strings_Repeat Tryd.lays105 TabL.extra ⟨#[48]⟩ (7 - (Go.Lib.itoa n).length) _ (by omega) (by show 1 * _ ≤ _; omega)).mono ?_); rintro e w2 ⟨rfl, HB1⟩; have HC := Aside0.mk (HB.out.trans (HB1.mono HB.out.size)); clear HB1)))
  go_ret
  exact ⟨rfl, HC.out⟩
set_option maxHeartbeats 4000000 in
set_option maxRecDepth 100000 in
theorem impl_CodeText.calls (a0 : Int) (r : ByteArray) (w : World) (hT_ : TabL w) (h : impl_CodeText.f a0 = some r) :
    Calls Tryd.prog 7 #[.int .i64 a0] w fun e w' => e = .returned (.string r) ∧ Below w.heap.size w w' := by
  have HT := Aside0.mk hT_
  clear hT_
  unfold impl_CodeText.f at h
  obtain ⟨t, A1, h⟩ := Option.bind_eq_some_iff.mp h
  cases t with
  | false =>
    rw [if_neg (by decide)] at h
    obtain rfl := Option.some.inj h
    go_enter Tryd.func7, Tryd.ntmps7
    go_wp2_with (go_at_call 18; (refine (impl_IsCode.calls a0 false _ A1).mono ?_); rintro e w1 ⟨rfl, nd, rfl⟩)
    go_ret
    exact ⟨rfl, pw_below_drewN (Below.refl _ _) _⟩
  | true =>
    rw [if_pos rfl] at h
    obtain rfl := Option.some.inj h
    have h0 := (impl_CodeText.code a0 A1).1
    have h1 := (impl_CodeText.code a0 A1).2
    go_enter Tryd.func7, Tryd.ntmps7
    go_wp2_with (first
      | (go_at_call 18; (refine (impl_IsCode.calls a0 true _ A1).mono ?_); rintro e w1 ⟨rfl, nd, rfl⟩)
      | (go_at_call 22; go_loud ((refine (impl_seven.calls a0 _ h0 h1 (HT.out.drewN _)).mono ?_); rintro e w2 ⟨rfl, HB0⟩; have HB := Aside0.mk (show Below w.heap.size w w2 from (pw_below_drewN (Below.refl _ _) nd).trans HB0); clear HB0)))
    go_ret
    exact ⟨rfl, HB.out⟩

/-! ### laws_FnExactCodeText: function 3 -/
def laws_FnExactCodeText.f (k : Nat) (a0 : Int) : Option (Bool) := (spec_CodeText.f k a0).bind fun t144 => ((impl_CodeText.f a0).bind fun t145 => (if t145.toList = t144.toList then (some true) else (some false)))
theorem laws_FnExactCodeText.mono : ∀ a0 k, LeO (laws_FnExactCodeText.f k a0) (laws_FnExactCodeText.f (k + 1) a0) := by
  intro a0 k
  unfold laws_FnExactCodeText.f
  repeat' first
      | (with_reducible exact spec_CodeText.mono _ _)
      | (with_reducible exact LeO.refl _)
      | (with_reducible exact LeO.none _)
      | (with_reducible refine LeO.ite ?_ ?_)
      | (with_reducible refine LeO.bind ?_ (fun _ => ?_))
      | exact spec_CodeText.mono _ _
      | exact LeO.none _
      | refine LeO.ite ?_ ?_
      | refine LeO.bind ?_ (fun _ => ?_)
set_option maxHeartbeats 8000000 in
set_option maxRecDepth 100000 in
theorem laws_FnExactCodeText.calls (k : Nat) (a0 : Int) (r : Bool) (w : World) (hT_ : TabL w) (hr_ : Aside0 (r = true)) (h : laws_FnExactCodeText.f k a0 = some r) :
    Calls Tryd.prog 3 #[.int .i64 a0] w fun e w' => e = .returned (.bool r) ∧ Below w.heap.size w w' := by
  have HT_ := Aside0.mk hT_
  clear hT_
  have HB := Aside0.mk (Below.refl w.heap.size w)
  have H : ((spec_CodeText.f k a0).bind fun t144 => ((impl_CodeText.f a0).bind fun t145 => (if t145.toList = t144.toList then (some true) else (some false)))) = some r := h
  clear h
  replace H := Option.bind_eq_some_iff.mp H
  obtain ⟨t144, A20, H⟩ := H
  replace H : ((impl_CodeText.f a0).bind fun t145 => (if t145.toList = t144.toList then (some true) else (some false))) = some r := H
  have A2 := Aside0.mk A20
  clear A20
  replace H := Option.bind_eq_some_iff.mp H
  obtain ⟨t145, A30, H⟩ := H
  replace H : (if t145.toList = t144.toList then (some true) else (some false)) = some r := H
  have A3 := Aside0.mk A30
  clear A30
  by_cases c4 : t145.toList = t144.toList
  · rw [if_pos c4] at H
    have c4b0 : (t145.toList == t144.toList) = true := beq_iff_eq.mpr c4
    have c4b1 : (t145.toList != t144.toList) = false := bne_eq_false_iff_eq.mpr c4
    clear c4
    obtain rfl := Option.some.inj H
    go_enter Tryd.func3, Tryd.ntmps3
    go_wp2_with (first | ((with_reducible refine gate_callee (f := 6) rfl ?_); refine goesL_ (some 6) rfl rfl Tryd.func6 (by kernel_rfl) rfl #[.int .i64 a0] rfl (by (try simp only [List.map_toArray, List.map_cons, List.map_nil]); first | done | rfl | (simp only [List.length_drop, List.length_take]; rfl)) ?_; (with_reducible refine (spec_CodeText.calls k a0 t144 _ A2.out).mono ?_); rintro e w5 ⟨rfl, hb⟩; refine ⟨_, rfl, ?_⟩; have n0_ := Aside0.mk (below_step (by repeat (first | (with_reducible first | exact HB.out | apply below_alloc | apply pw_below_drewN | apply below_drew1) | exact HB.out)) hb); clear HB; have HB := n0_; clear n0_; (try clear hb); (try clear hb2); (try clear hk); (try clear hi)) | ((with_reducible refine gate_callee (f := 7) rfl ?_); refine goesL_ (some 8) rfl rfl Tryd.func7 (by kernel_rfl) rfl #[.int .i64 a0] rfl (by (try simp only [List.map_toArray, List.map_cons, List.map_nil]); first | done | rfl | (simp only [List.length_drop, List.length_take]; rfl)) ?_; (with_reducible refine (impl_CodeText.calls a0 t145 _ ?side1 A3.out).mono ?_); (case side1 => first | exact TabL.keep HT_.out (by repeat (first | (with_reducible first | exact HB.out | apply below_alloc | apply pw_below_drewN | apply below_drew1) | exact HB.out)) | exact HT_.out | exact TabL.drewN HT_.out _); rintro e w6 ⟨rfl, hb⟩; refine ⟨_, rfl, ?_⟩; have n0_ := Aside0.mk (below_step (by repeat (first | (with_reducible first | exact HB.out | apply below_alloc | apply pw_below_drewN | apply below_drew1) | exact HB.out)) hb); clear HB; have HB := n0_; clear n0_; (try clear hb); (try clear hb2); (try clear hk); (try clear hi)))
    go_ret
    exact ⟨by first | rfl | (simp [errW_none, errW_some] <;> rfl) | (simp [*, errW_none, errW_some] <;> rfl), by repeat (first | (with_reducible first | exact HB.out | apply below_alloc | apply pw_below_drewN | apply below_drew1) | exact HB.out)⟩
  · rw [if_neg c4] at H
    have c4b0 : (t145.toList == t144.toList) = false := beq_eq_false_iff_ne.mpr c4
    have c4b1 : (t145.toList != t144.toList) = true := bne_iff_ne.mpr c4
    exact absurd ((Option.some.inj H).trans hr_.out) (by decide)

end Go.Proofs.YtnnglnphkbpemaaDoor.PFnExactCodeText
