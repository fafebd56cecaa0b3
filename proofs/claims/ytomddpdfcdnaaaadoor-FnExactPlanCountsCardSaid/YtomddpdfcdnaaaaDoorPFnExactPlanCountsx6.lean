-- Written by a program of this session.
import Derived.Test.YtomddpdfcdnaaaaDoorPFnExactPlanCountsx0
import Derived.Test.YtomddpdfcdnaaaaDoorPFnExactPlanCountsx4
import Derived.Test.YtomddpdfcdnaaaaDoorLays
import Derived.Lib.SmallJoins
namespace Go.Proofs.YtomddpdfcdnaaaaDoor.PFnExactPlanCounts
open Go.RowKit Go.Proofs.YtomddpdfcdnaaaaDoorW.PrintWords Go.Proofs.YtomddpdfcdnaaaaDoorW.PrintLast Go.Proofs.YtomddpdfcdnaaaaDoorW.PrintMore
attribute [local go_sem] max2_int min2_int max_two min_two max_three min_three max_four min_four   -- for this text's walks alone
set_option linter.unusedVariables false
set_option linter.unusedSimpArgs false

-- NOT PRINTED: function 86 (strconv_ParseUint)

-- NOT PRINTED: function 77 (strconv_ParseInt_77)

-- NOT PRINTED: function 98 (stringslite_Clone)

-- NOT PRINTED: function 87 (strconv_syntaxError)

-- NOT PRINTED: function 88 (strconv_rangeError)

-- NOT PRINTED: function 99 (errors_New)

-- NOT PRINTED: function 103 (strconv_Itoa_103)

-- NOT PRINTED: function 100 (strconv_Itoa_100)

-- NOT PRINTED: function 89 (strconv_baseError)

-- NOT PRINTED: function 90 (strconv_bitSizeError)

-- NOT PRINTED: function 78 (strconv_toError)

-- NOT PRINTED: function 70 (strconv_ParseInt_70)

/-! ### impl_readDecimal: function 66, by a template of this session -/
theorem impl_readDecimal.ba_len (s : ByteArray) : s.data.toList.length = s.size := Array.length_toList
theorem impl_readDecimal.ba_loop (s : ByteArray) : ∀ (d i : Nat) (r : List UInt8), i + d = s.size → ByteArray.toList.loop s i r = r.reverse ++ s.data.toList.drop i := by
  have hl := impl_readDecimal.ba_len s
  intro d
  induction d with
  | zero =>
    intro i r h
    unfold ByteArray.toList.loop
    rw [if_neg (by omega), List.drop_eq_nil_of_le (by omega), List.append_nil]
  | succ d ih =>
    intro i r h
    unfold ByteArray.toList.loop
    have e : s.get! i = s.data.toList[i]'(by omega) := by
      obtain ⟨a⟩ := s
      have hi : i < a.size := by have : (ByteArray.mk a).size = a.size := rfl; omega
      show a[i]! = _
      rw [getElem!_pos a i hi]
      rfl
    rw [if_pos (by omega), ih (i + 1) _ (by omega), List.drop_eq_getElem_cons (show i < s.data.toList.length by omega), e, List.reverse_cons, List.append_assoc]
    rfl
theorem impl_readDecimal.ba_toList (s : ByteArray) : s.toList = s.data.toList := by
  unfold ByteArray.toList
  rw [impl_readDecimal.ba_loop s s.size 0 [] (by omega)]
  rfl
theorem impl_readDecimal.eq_ba (s t : ByteArray) : (s.toList == t.toList) = decide (s = t) := by
  rw [impl_readDecimal.ba_toList, impl_readDecimal.ba_toList]
  by_cases h : s = t
  · subst h; simp
  · rw [decide_eq_false h]
    refine beq_eq_false_iff_ne.2 fun hc => h ?_
    obtain ⟨⟨l⟩⟩ := s
    obtain ⟨⟨m⟩⟩ := t
    have hc : l = m := hc
    rw [hc]
def impl_readDecimal.f (a0 : ByteArray) : Option (Int × Bool) := if a0.size ≤ 281474976710656 then (match Go.Lib.parseIntB 64 a0.data.toList with
  | .ok v => if 10 < a0.size then some (0, false) else if v < 0 then some (0, false) else (impl_decimal.f v).bind fun t => if t = a0 then some (v, true) else some (0, false)
  | _ => some (0, false)) else none
set_option maxHeartbeats 4000000 in
set_option maxRecDepth 100000 in
theorem impl_readDecimal.calls (a0 : ByteArray) (r1 : Int) (r2 : Bool) (w : World) (hT_ : TabL w) (h : impl_readDecimal.f a0 = some (r1, r2)) :
    Calls Tryd.prog 66 #[.string a0] w fun e w' => e = .returned (.tuple #[.int .i64 r1, .bool r2]) ∧ Below w.heap.size w w' := by
  have HT := Aside0.mk hT_
  clear hT_
  unfold impl_readDecimal.f at h
  by_cases hs : a0.size ≤ 281474976710656
  · rw [if_pos hs] at h
    split at h
    · rename_i v hv
      by_cases hq1 : 10 < a0.size
      · rw [if_pos hq1] at h
        obtain ⟨rfl, rfl⟩ := Prod.mk.inj (Option.some.inj h)
        have hd1 : decide ((a0.size : Int) > 10) = true := decide_eq_true (by omega)
        have hd2 : (10 < a0.size) = True := eq_true hq1
        go_enter Tryd.func66, Tryd.ntmps66
        go_wp2_with (go_at_call 70; go_loud ((refine (Any.strconv_ParseInt_10_at64_ok Tryd.lays174 _ (by omega) _ hv _).mono ?_); rintro e w1 ⟨rfl, hw1⟩; have HB := Aside0.mk (show Below w.heap.size w w1 from (by rcases hw1 with rfl | ⟨t_, rfl⟩ <;> first | exact Below.refl _ _ | exact Go.Joins.below_bytesWorld _ _ _ _ (Nat.le_refl _))); clear hw1))
        go_ret2
        exact ⟨rfl, HB.out⟩
      · rw [if_neg hq1] at h
        have hd1 : decide ((a0.size : Int) > 10) = false := decide_eq_false (by omega)
        have hd2 : (10 < a0.size) = False := eq_false hq1
        by_cases hq2 : v < 0
        · rw [if_pos hq2] at h
          obtain ⟨rfl, rfl⟩ := Prod.mk.inj (Option.some.inj h)
          have hd3 : decide (v < 0) = true := decide_eq_true hq2
          go_enter Tryd.func66, Tryd.ntmps66
          go_wp2_with (go_at_call 70; go_loud ((refine (Any.strconv_ParseInt_10_at64_ok Tryd.lays174 _ (by omega) _ hv _).mono ?_); rintro e w1 ⟨rfl, hw1⟩; have HB := Aside0.mk (show Below w.heap.size w w1 from (by rcases hw1 with rfl | ⟨t_, rfl⟩ <;> first | exact Below.refl _ _ | exact Go.Joins.below_bytesWorld _ _ _ _ (Nat.le_refl _))); clear hw1))
          go_ret2
          exact ⟨rfl, HB.out⟩
        · rw [if_neg hq2] at h
          have hd3 : decide (v < 0) = false := decide_eq_false hq2
          obtain ⟨t, A1, h1⟩ := Option.bind_eq_some_iff.mp h
          clear h
          have h : (if t = a0 then some (v, true) else some (0, false)) = some (r1, r2) := h1
          clear h1
          have A1 := Aside0.mk A1
          by_cases ht : t = a0
          · rw [if_pos ht] at h
            subst ht
            obtain ⟨rfl, rfl⟩ := Prod.mk.inj (Option.some.inj h)
            have hq : (t.toList == t.toList) = true := beq_self_eq_true _
            go_enter Tryd.func66, Tryd.ntmps66
            go_wp2_with (first
              | (go_at_call 70; go_loud ((refine (Any.strconv_ParseInt_10_at64_ok Tryd.lays174 _ (by omega) _ hv _).mono ?_); rintro e w1 ⟨rfl, hw1⟩; have HB := Aside0.mk (show Below w.heap.size w w1 from (by rcases hw1 with rfl | ⟨t_, rfl⟩ <;> first | exact Below.refl _ _ | exact Go.Joins.below_bytesWorld _ _ _ _ (Nat.le_refl _))); clear hw1))
              | (go_at_call 58; go_loud ((refine (impl_decimal.calls _ _ _ (HT.out.keep HB.out) A1.out).mono ?_); rintro e w2 ⟨rfl, HB0⟩; have HC := Aside0.mk (HB.out.trans (HB0.mono HB.out.size)); clear HB0)))
            go_ret2
            exact ⟨rfl, HC.out⟩
          · rw [if_neg ht] at h
            obtain ⟨rfl, rfl⟩ := Prod.mk.inj (Option.some.inj h)
            have hq : (t.toList == a0.toList) = false := by rw [impl_readDecimal.eq_ba, decide_eq_false ht]
            go_enter Tryd.func66, Tryd.ntmps66
            go_wp2_with (first
              | (go_at_call 70; go_loud ((refine (Any.strconv_ParseInt_10_at64_ok Tryd.lays174 _ (by omega) _ hv _).mono ?_); rintro e w1 ⟨rfl, hw1⟩; have HB := Aside0.mk (show Below w.heap.size w w1 from (by rcases hw1 with rfl | ⟨t_, rfl⟩ <;> first | exact Below.refl _ _ | exact Go.Joins.below_bytesWorld _ _ _ _ (Nat.le_refl _))); clear hw1))
              | (go_at_call 58; go_loud ((refine (impl_decimal.calls _ _ _ (HT.out.keep HB.out) A1.out).mono ?_); rintro e w2 ⟨rfl, HB0⟩; have HC := Aside0.mk (HB.out.trans (HB0.mono HB.out.size)); clear HB0)))
            go_ret2
            exact ⟨rfl, HC.out⟩
    · rename_i hne
      obtain ⟨rfl, rfl⟩ := Prod.mk.inj (Option.some.inj h)
      obtain ⟨n0, hc⟩ : ∃ n0, Calls Tryd.prog 70 #[.string a0, .int .i64 10, .int .i64 64] w fun e w' => ∃ N, e = .returned (.tuple #[.int .i64 n0, .iface (Tryd.lays174_ren.t 168) (.pointer (some ⟨N, 0, none⟩))]) ∧ Below w.heap.size w w' := by
        cases hv : Go.Lib.parseIntB 64 a0.data.toList with
        | ok v => exact absurd hv (hne v)
        | range =>
          obtain ⟨tp, p, hp⟩ := HT.out.rng
          exact ⟨_, (Any.strconv_ParseInt_10_at64_range_var Tryd.lays174 a0 hs hv tp p w hp).mono fun e w' ⟨N, h1, _, _, h2⟩ => ⟨N, h1, h2⟩⟩
        | _ =>
          obtain ⟨tp, p, hp⟩ := HT.out.syn
          exact ⟨_, (Any.strconv_ParseInt_10_at64_syntax_var Tryd.lays174 a0 hs hv tp p w hp).mono fun e w' ⟨N, h1, _, _, h2⟩ => ⟨N, h1, h2⟩⟩
      go_enter Tryd.func66, Tryd.ntmps66
      go_wp2_with (go_at_call 70; go_loud ((refine hc.mono ?_); rintro e w1 ⟨N, rfl, HB0⟩; have HC := Aside0.mk HB0; clear HB0))
      go_ret2
      exact ⟨rfl, HC.out⟩
  · rw [if_neg hs] at h
    cases h

-- NOT PRINTED: function 79 (stringslite_HasPrefix)

/-! ### strings_HasPrefix: function 71, by a template of this session -/
/-- Whether a text begins with another. -/
def strings_HasPrefix.f (a0 : ByteArray) (a1 : ByteArray) : Option Bool := some (Go.Lib.hasPrefix a0.data.toList a1.data.toList)
theorem strings_HasPrefix.calls (a0 : ByteArray) (a1 : ByteArray) (r : Bool) (w : World) (h : strings_HasPrefix.f a0 a1 = some r) :
    Calls Tryd.prog 71 #[.string a0, .string a1] w fun e w' => e = .returned (.bool r) ∧ Drawn0 w w' := by
  obtain rfl := Option.some.inj h
  refine (Any.strings_HasPrefix Tryd.lays99 a0 a1 w).mono ?_
  rintro e w' ⟨rfl, rfl⟩
  exact ⟨rfl, Drawn0.refl _⟩


end Go.Proofs.YtomddpdfcdnaaaaDoor.PFnExactPlanCounts
