-- Written by a program of this session.
import Derived.Test.YtnnglnphkbpemaaDoorPFnExactReadCodex0
import Derived.Test.YtnnglnphkbpemaaDoorPFnExactReadCodex1
import Derived.Lib.SmallJoins
namespace Go.Proofs.YtnnglnphkbpemaaDoor.PFnExactReadCode
open Go.RowKit Go.Proofs.YtnnglnphkbpemaaDoorW.PrintWords Go.Proofs.YtnnglnphkbpemaaDoorW.PrintLast Go.Proofs.YtnnglnphkbpemaaDoorW.PrintMore
attribute [local go_sem] max2_int min2_int max_two min_two max_three min_three max_four min_four   -- for this text's walks alone
set_option linter.unusedVariables false
set_option linter.unusedSimpArgs false

-- NOT PRINTED: function 47 (strconv_ParseUint)

-- NOT PRINTED: function 37 (strconv_ParseInt_37)

-- NOT PRINTED: function 60 (stringslite_Clone)

-- NOT PRINTED: function 48 (strconv_syntaxError)

-- NOT PRINTED: function 49 (strconv_rangeError)

-- NOT PRINTED: function 61 (errors_New)

-- NOT PRINTED: function 69 (strconv_Itoa_69)

-- NOT PRINTED: function 62 (strconv_Itoa_62)

-- NOT PRINTED: function 50 (strconv_baseError)

-- NOT PRINTED: function 51 (strconv_bitSizeError)

-- NOT PRINTED: function 38 (strconv_toError)

-- NOT PRINTED: function 24 (strconv_ParseInt_24)

/-! ### impl_ReadCode: function 9, by a template of this session -/
/-! The program's reader of codes. -/
theorem impl_ReadCode.ba_len (s : ByteArray) : s.data.toList.length = s.size := Array.length_toList
theorem impl_ReadCode.ba_loop (s : ByteArray) : ∀ (d i : Nat) (r : List UInt8), i + d = s.size → ByteArray.toList.loop s i r = r.reverse ++ s.data.toList.drop i := by
  have hl := impl_ReadCode.ba_len s
  intro d
  induction d with
  | zero =>
    intro i r h
    unfold ByteArray.toList.loop
    rw [if_neg (by omega), List.drop_eq_nil_of_le (by omega), List.append_nil]
  | succ d ih =>
    intro i r h
    unfold ByteArray.toList.loop
    have e : s.get! i = s.data.toList[i]'(by omega) := by
      obtain ⟨a⟩ := s
      have hi : i < a.size := by have : (ByteArray.mk a).size = a.size := rfl; omega
      show a[i]! = _
      rw [getElem!_pos a i hi]
      rfl
    rw [if_pos (by omega), ih (i + 1) _ (by omega), List.drop_eq_getElem_cons (show i < s.data.toList.length by omega), e, List.reverse_cons, List.append_assoc]
    rfl
theorem impl_ReadCode.ba_toList (s : ByteArray) : s.toList = s.data.toList := by
  unfold ByteArray.toList
  rw [impl_ReadCode.ba_loop s s.size 0 [] (by omega)]
  rfl
theorem impl_ReadCode.eq_ba (s t : ByteArray) : (s.toList == t.toList) = decide (s = t) := by
  rw [impl_ReadCode.ba_toList, impl_ReadCode.ba_toList]
  by_cases h : s = t
  · subst h; simp
  · rw [decide_eq_false h]
    refine beq_eq_false_iff_ne.2 fun hc => h ?_
    obtain ⟨⟨l⟩⟩ := s
    obtain ⟨⟨m⟩⟩ := t
    have hc : l = m := hc
    rw [hc]
def impl_ReadCode.f (a0 : ByteArray) : Option (Int × Bool) := if a0.size ≤ 281474976710656 then (match Go.Lib.parseIntB 64 a0.data.toList with
  | .ok v => (impl_CodeText.f v).bind fun t => if t = a0 then some (v, true) else some (0, false)
  | _ => some (0, false)) else none
set_option maxHeartbeats 4000000 in
set_option maxRecDepth 100000 in
theorem impl_ReadCode.calls (a0 : ByteArray) (r1 : Int) (r2 : Bool) (w : World) (hT_ : TabL w) (h : impl_ReadCode.f a0 = some (r1, r2)) :
    Calls Tryd.prog 9 #[.string a0] w fun e w' => e = .returned (.tuple #[.int .i64 r1, .bool r2]) ∧ Below w.heap.size w w' := by
  have HT := Aside0.mk hT_
  clear hT_
  unfold impl_ReadCode.f at h
  by_cases hs : a0.size ≤ 281474976710656
  · rw [if_pos hs] at h
    split at h
    · rename_i v hv
      obtain ⟨t, A1, h1⟩ := Option.bind_eq_some_iff.mp h
      clear h
      have h : (if t = a0 then some (v, true) else some (0, false)) = some (r1, r2) := h1
      clear h1
      have A1 := Aside0.mk A1
      by_cases ht : t = a0
      · rw [if_pos ht] at h
        subst ht
        obtain ⟨rfl, rfl⟩ := Prod.mk.inj (Option.some.inj h)
        have hq : (t.toList == t.toList) = true := beq_self_eq_true _
        go_enter Tryd.func9, Tryd.ntmps9
        go_wp2_with (first
          | (go_at_call 24; go_loud ((refine (Any.strconv_ParseInt_10_at64_ok Tryd.lays174 _ (by omega) _ hv _).mono ?_); rintro e w1 ⟨rfl, hw1⟩; have HB := Aside0.mk (show Below w.heap.size w w1 from (by rcases hw1 with rfl | ⟨t_, rfl⟩ <;> first | exact Below.refl _ _ | exact Go.Joins.below_bytesWorld _ _ _ _ (Nat.le_refl _))); clear hw1))
          | (go_at_call 7; go_loud ((refine (impl_CodeText.calls _ _ _ (HT.out.keep HB.out) A1.out).mono ?_); rintro e w2 ⟨rfl, HB0⟩; have HC := Aside0.mk (HB.out.trans (HB0.mono HB.out.size)); clear HB0)))
        go_ret2
        exact ⟨rfl, HC.out⟩
      · rw [if_neg ht] at h
        obtain ⟨rfl, rfl⟩ := Prod.mk.inj (Option.some.inj h)
        have hq : (t.toList == a0.toList) = false := by rw [impl_ReadCode.eq_ba, decide_eq_false ht]
        go_enter Tryd.func9, Tryd.ntmps9
        go_wp2_with (first
          | (go_at_call 24; go_loud ((refine (Any.strconv_ParseInt_10_at64_ok Tryd.lays174 _ (by omega) _ hv _).mono ?_); rintro e w1 ⟨rfl, hw1⟩; have HB := Aside0.mk (show Below w.heap.size w w1 from (by rcases hw1 with rfl | ⟨t_, rfl⟩ <;> first | exact Below.refl _ _ | exact Go.Joins.below_bytesWorld _ _ _ _ (Nat.le_refl _))); clear hw1))
          | (go_at_call 7; go_loud ((refine (impl_CodeText.calls _ _ _ (HT.out.keep HB.out) A1.out).mono ?_); rintro e w2 ⟨rfl, HB0⟩; have HC := Aside0.mk (HB.out.trans (HB0.mono HB.out.size)); clear HB0)))
        go_ret2
        exact ⟨rfl, HC.out⟩
    · rename_i hne
      obtain ⟨rfl, rfl⟩ := Prod.mk.inj (Option.some.inj h)
      obtain ⟨n0, hc⟩ : ∃ n0, Calls Tryd.prog 24 #[.string a0, .int .i64 10, .int .i64 64] w fun e w' => ∃ N, e = .returned (.tuple #[.int .i64 n0, .iface (Tryd.lays174_ren.t 168) (.pointer (some ⟨N, 0, none⟩))]) ∧ Below w.heap.size w w' := by
        cases hv : Go.Lib.parseIntB 64 a0.data.toList with
        | ok v => exact absurd hv (hne v)
        | range =>
          obtain ⟨tp, p, hp⟩ := HT.out.rng
          exact ⟨_, (Any.strconv_ParseInt_10_at64_range_var Tryd.lays174 a0 hs hv tp p w hp).mono fun e w' ⟨N, h1, _, _, h2⟩ => ⟨N, h1, h2⟩⟩
        | _ =>
          obtain ⟨tp, p, hp⟩ := HT.out.syn
          exact ⟨_, (Any.strconv_ParseInt_10_at64_syntax_var Tryd.lays174 a0 hs hv tp p w hp).mono fun e w' ⟨N, h1, _, _, h2⟩ => ⟨N, h1, h2⟩⟩
      go_enter Tryd.func9, Tryd.ntmps9
      go_wp2_with (go_at_call 24; go_loud ((refine hc.mono ?_); rintro e w1 ⟨N, rfl, HB0⟩; have HC := Aside0.mk HB0; clear HB0))
      go_ret2
      exact ⟨rfl, HC.out⟩
  · rw [if_neg hs] at h
    cases h

/-! ### laws_FnExactReadCode: function 4 -/
def laws_FnExactReadCode.f (k : Nat) (a0 : ByteArray) : Option (Bool) := if (a0.size : Int) > 1048576 then (some true) else ((spec_ReadCode.f k a0).bind fun bt146 => ((impl_ReadCode.f a0).bind fun bt148 => (if bt148.1 = bt146.1 then (if (bt148.2 != bt146.2) = true then (some false) else (some true)) else (some false))))
theorem laws_FnExactReadCode.mono : ∀ a0 k, LeO (laws_FnExactReadCode.f k a0) (laws_FnExactReadCode.f (k + 1) a0) := by
  intro a0 k
  unfold laws_FnExactReadCode.f
  repeat' first
      | (with_reducible exact spec_ReadCode.mono _ _)
      | (with_reducible exact LeO.refl _)
      | (with_reducible exact LeO.none _)
      | (with_reducible refine LeO.ite ?_ ?_)
      | (with_reducible refine LeO.bind ?_ (fun _ => ?_))
      | exact spec_ReadCode.mono _ _
      | exact LeO.none _
      | refine LeO.ite ?_ ?_
      | refine LeO.bind ?_ (fun _ => ?_)
set_option maxHeartbeats 8000000 in
set_option maxRecDepth 100000 in
theorem laws_FnExactReadCode.calls (k : Nat) (a0 : ByteArray) (r : Bool) (w : World) (hT_ : TabL w) (hr_ : Aside0 (r = true)) (h : laws_FnExactReadCode.f k a0 = some r) :
    Calls Tryd.prog 4 #[.string a0] w fun e w' => e = .returned (.bool r) ∧ Below w.heap.size w w' := by
  have HT_ := Aside0.mk hT_
  clear hT_
  have HB := Aside0.mk (Below.refl w.heap.size w)
  have H : (if (a0.size : Int) > 1048576 then (some true) else ((spec_ReadCode.f k a0).bind fun bt146 => ((impl_ReadCode.f a0).bind fun bt148 => (if bt148.1 = bt146.1 then (if (bt148.2 != bt146.2) = true then (some false) else (some true)) else (some false))))) = some r := h
  clear h
  by_cases c2 : (a0.size : Int) > 1048576
  · rw [if_pos c2] at H
    have c2b0 : decide (1048576 < (a0.size : Int)) = true := decide_eq_true c2
    have c2b1 : decide (1048576 < a0.size) = true := decide_eq_true (by omega)
    clear c2
    obtain rfl := Option.some.inj H
    go_enter Tryd.func4, Tryd.ntmps4
    go_wp2
    go_ret
    exact ⟨by first | rfl | (simp [errW_none, errW_some] <;> rfl) | (simp [*, errW_none, errW_some] <;> rfl), by repeat (first | (with_reducible first | exact HB.out | apply below_alloc | apply pw_below_drewN | apply below_drew1) | exact HB.out)⟩
  · rw [if_neg c2] at H
    have c2b0 : decide (1048576 < (a0.size : Int)) = false := decide_eq_false c2
    have c2b1 : decide (1048576 < a0.size) = false := decide_eq_false (by omega)
    clear c2
    replace H := Option.bind_eq_some_iff.mp H
    obtain ⟨⟨t146, t147⟩, A30, H⟩ := H
    replace H : ((impl_ReadCode.f a0).bind fun bt148 => (if bt148.1 = t146 then (if (bt148.2 != t147) = true then (some false) else (some true)) else (some false))) = some r := H
    have A3 := Aside0.mk A30
    clear A30
    replace H := Option.bind_eq_some_iff.mp H
    obtain ⟨⟨t148, t149⟩, A40, H⟩ := H
    replace H : (if t148 = t146 then (if (t149 != t147) = true then (some false) else (some true)) else (some false)) = some r := H
    have A4 := Aside0.mk A40
    clear A40
    by_cases c5 : t148 = t146
    · rw [if_pos c5] at H
      have c5b0 : (t148 == t146) = true := beq_iff_eq.mpr c5
      have c5b1 : (t148 != t146) = false := bne_eq_false_iff_eq.mpr c5
      clear c5
      by_cases c6 : (t149 != t147) = true
      · rw [if_pos c6] at H
        have c6b0 : (t149 != t147) = true := c6
        (try (have c6b1 : decide (t149 = t147) = false := by simpa using c6))
        (try (have c6b2 : (t149 == t147) = false := by simpa using c6))
        (try (have c6b3 : ¬ (t149 = t147) := by simpa using c6))
        clear c6
        exact absurd ((Option.some.inj H).trans hr_.out) (by decide)
      · rw [if_neg c6] at H
        have c6b0 : (t149 != t147) = false := by simpa using c6
        (try (have c6b1 : decide (t149 = t147) = true := by simpa using c6))
        (try (have c6b2 : (t149 == t147) = true := by simpa using c6))
        clear c6
        obtain rfl := Option.some.inj H
        go_enter Tryd.func4, Tryd.ntmps4
        go_wp2_with (first | ((with_reducible refine gate_callee (f := 8) rfl ?_); refine goesL_ (some 12) rfl rfl Tryd.func8 (by kernel_rfl) rfl #[.string a0] rfl (by (try simp only [List.map_toArray, List.map_cons, List.map_nil]); first | done | rfl | (simp only [List.length_drop, List.length_take]; rfl)) ?_; (with_reducible refine (spec_ReadCode.calls k a0 t146 t147 _ A3.out).mono ?_); rintro e w7 ⟨rfl, hb⟩; refine ⟨_, rfl, ?_⟩; have n0_ := Aside0.mk (below_step (by repeat (first | (with_reducible first | exact HB.out | apply below_alloc | apply pw_below_drewN | apply below_drew1) | exact HB.out)) hb); clear HB; have HB := n0_; clear n0_; (try clear hb); (try clear hb2); (try clear hk); (try clear hi)) | ((with_reducible refine gate_callee (f := 9) rfl ?_); refine goesL_ (some 17) rfl rfl Tryd.func9 (by kernel_rfl) rfl #[.string a0] rfl (by (try simp only [List.map_toArray, List.map_cons, List.map_nil]); first | done | rfl | (simp only [List.length_drop, List.length_take]; rfl)) ?_; (with_reducible refine (impl_ReadCode.calls a0 t148 t149 _ ?side1 A4.out).mono ?_); (case side1 => first | exact TabL.keep HT_.out (by repeat (first | (with_reducible first | exact HB.out | apply below_alloc | apply pw_below_drewN | apply below_drew1) | exact HB.out)) | exact HT_.out | exact TabL.drewN HT_.out _); rintro e w8 ⟨rfl, hb⟩; refine ⟨_, rfl, ?_⟩; have n0_ := Aside0.mk (below_step (by repeat (first | (with_reducible first | exact HB.out | apply below_alloc | apply pw_below_drewN | apply below_drew1) | exact HB.out)) hb); clear HB; have HB := n0_; clear n0_; (try clear hb); (try clear hb2); (try clear hk); (try clear hi)))
        go_ret
        exact ⟨by first | rfl | (simp [errW_none, errW_some] <;> rfl) | (simp [*, errW_none, errW_some] <;> rfl), by repeat (first | (with_reducible first | exact HB.out | apply below_alloc | apply pw_below_drewN | apply below_drew1) | exact HB.out)⟩
    · rw [if_neg c5] at H
      have c5b0 : (t148 == t146) = false := beq_eq_false_iff_ne.mpr c5
      have c5b1 : (t148 != t146) = true := bne_iff_ne.mpr c5
      exact absurd ((Option.some.inj H).trans hr_.out) (by decide)

end Go.Proofs.YtnnglnphkbpemaaDoor.PFnExactReadCode
