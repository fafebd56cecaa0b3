-- Written by a program of this session.
import Derived.Test.YtnnglnphkbpemaaPFnExactBestCodex0
import Derived.Test.YtnnglnphkbpemaaPFnExactBestCodex1
import Derived.Maps.RangeWalk
import Derived.Maps.OwnOps
import Derived.Maps.Views
import Derived.Carry
namespace Go.Proofs.Ytnnglnphkbpemaa.PFnExactBestCode
open Go.RowKit Go.Proofs.YtnnglnphkbpemaaW.PrintWords Go.Proofs.YtnnglnphkbpemaaW.PrintLast Go.Proofs.YtnnglnphkbpemaaW.PrintMore
attribute [local go_sem] max2_int min2_int max_two min_two max_three min_three max_four min_four   -- for this text's walks alone
set_option linter.unusedVariables false
set_option linter.unusedSimpArgs false

/-! ### impl_inRange: function 27 -/
def impl_inRange.f (a0 : Int) (a1 : Int) (a2 : Int) : Option (Bool) := if a1 ≤ a0 then (some (decide (a0 ≤ a2))) else (some false)
set_option maxHeartbeats 8000000 in
set_option maxRecDepth 100000 in
theorem impl_inRange.calls (a0 : Int) (a1 : Int) (a2 : Int) (r : Bool) (w : World) (h : impl_inRange.f a0 a1 a2 = some r) :
    Calls Try.prog 27 #[.int .i64 a0, .int .i64 a1, .int .i64 a2] w fun e w' => e = .returned (.bool r) ∧ Drawn0 w w' := by
  have H : (if a1 ≤ a0 then (some (decide (a0 ≤ a2))) else (some false)) = some r := h
  clear h
  by_cases c4 : a1 ≤ a0
  · rw [if_pos c4] at H
    have c4b0 : decide (a1 ≤ a0) = true := decide_eq_true c4
    clear c4
    obtain rfl := Option.some.inj H
    go_enter Try.func27, Try.ntmps27
    go_wp2
    go_ret
    exact ⟨by first | rfl | (simp; done) | (simp [*]; done), by repeat (first | exact Drawn0.refl _ | apply Drawn0.step)⟩
  · rw [if_neg c4] at H
    have c4b0 : decide (a1 ≤ a0) = false := decide_eq_false c4
    clear c4
    obtain rfl := Option.some.inj H
    go_enter Try.func27, Try.ntmps27
    go_wp2
    go_ret
    exact ⟨by first | rfl | (simp; done) | (simp [*]; done), by repeat (first | exact Drawn0.refl _ | apply Drawn0.step)⟩

/-! ### impl_IsCode: function 22 -/
def impl_IsCode.f (a0 : Int) : Option (Bool) := (impl_inRange.f a0 0 9999999).bind fun t122 => (if t122 = true then (if (Int.tmod a0 97) = 1 then ((impl_inRange.f (Int.tmod a0 100) 1 97).bind fun t123 => (some t123)) else (some false)) else (some false))
set_option maxHeartbeats 8000000 in
set_option maxRecDepth 100000 in
theorem impl_IsCode.calls (a0 : Int) (r : Bool) (w : World) (h : impl_IsCode.f a0 = some r) :
    Calls Try.prog 22 #[.int .i64 a0] w fun e w' => e = .returned (.bool r) ∧ Drawn0 w w' := by
  have H : ((impl_inRange.f a0 0 9999999).bind fun t122 => (if t122 = true then (if (Int.tmod a0 97) = 1 then ((impl_inRange.f (Int.tmod a0 100) 1 97).bind fun t123 => (some t123)) else (some false)) else (some false))) = some r := h
  clear h
  replace H := Option.bind_eq_some_iff.mp H
  obtain ⟨t122, A20, H⟩ := H
  replace H : (if t122 = true then (if (Int.tmod a0 97) = 1 then ((impl_inRange.f (Int.tmod a0 100) 1 97).bind fun t123 => (some t123)) else (some false)) else (some false)) = some r := H
  have A2 := Aside0.mk A20
  clear A20
  by_cases c3 : t122 = true
  · subst c3
    have H1 : (if (Int.tmod a0 97) = 1 then ((impl_inRange.f (Int.tmod a0 100) 1 97).bind fun t123 => (some t123)) else (some false)) = some r := by rw [if_pos rfl] at H; exact H
    clear H
    have H := H1
    clear H1
    by_cases c4 : (Int.tmod a0 97) = 1
    · rw [if_pos c4] at H
      have c4b0 : ((Int.tmod a0 97) == 1) = true := beq_iff_eq.mpr c4
      have c4b1 : ((Int.tmod a0 97) != 1) = false := bne_eq_false_iff_eq.mpr c4
      clear c4
      replace H := Option.bind_eq_some_iff.mp H
      obtain ⟨t123, A50, H⟩ := H
      replace H : (some t123) = some r := H
      have A5 := Aside0.mk A50
      clear A50
      obtain rfl := Option.some.inj H
      go_enter Try.func22, Try.ntmps22
      go_wp2_with (first | ((with_reducible refine gate_callee (f := 27) rfl ?_); refine goesL_ (some 4) rfl rfl Try.func27 (by kernel_rfl) rfl #[.int .i64 a0, .int .i64 0, .int .i64 9999999] rfl (by (try simp only [List.map_toArray, List.map_cons, List.map_nil]); first | done | rfl | (simp only [List.length_drop, List.length_take]; rfl)) ?_; (with_reducible refine (impl_inRange.calls a0 0 9999999 true _ A2.out).mono ?_); rintro e w' ⟨rfl, ⟨nd, rfl⟩⟩; refine ⟨_, rfl, ?_⟩) | (go_at_call 27; (with_reducible refine (impl_inRange.calls (Int.tmod a0 100) 1 97 t123 _ A5.out).mono ?_); rintro e w' ⟨rfl, ⟨nd, rfl⟩⟩))
      go_ret
      exact ⟨by first | rfl | (simp; done) | (simp [*]; done), by repeat (first | exact Drawn0.refl _ | apply Drawn0.step)⟩
    · rw [if_neg c4] at H
      have c4b0 : ((Int.tmod a0 97) == 1) = false := beq_eq_false_iff_ne.mpr c4
      have c4b1 : ((Int.tmod a0 97) != 1) = true := bne_iff_ne.mpr c4
      obtain rfl := Option.some.inj H
      go_enter Try.func22, Try.ntmps22
      go_wp2_with (first | ((with_reducible refine gate_callee (f := 27) rfl ?_); refine goesL_ (some 4) rfl rfl Try.func27 (by kernel_rfl) rfl #[.int .i64 a0, .int .i64 0, .int .i64 9999999] rfl (by (try simp only [List.map_toArray, List.map_cons, List.map_nil]); first | done | rfl | (simp only [List.length_drop, List.length_take]; rfl)) ?_; (with_reducible refine (impl_inRange.calls a0 0 9999999 true _ A2.out).mono ?_); rintro e w' ⟨rfl, ⟨nd, rfl⟩⟩; refine ⟨_, rfl, ?_⟩))
      go_ret
      exact ⟨by first | rfl | (simp; done) | (simp [*]; done), by repeat (first | exact Drawn0.refl _ | apply Drawn0.step)⟩
  · replace c3 := Bool.eq_false_iff.mpr c3
    subst c3
    have H1 : (some false) = some r := by rw [if_neg (show ¬ (false = true) by decide)] at H; exact H
    clear H
    have H := H1
    clear H1
    obtain rfl := Option.some.inj H
    go_enter Try.func22, Try.ntmps22
    go_wp2_with (first | ((with_reducible refine gate_callee (f := 27) rfl ?_); refine goesL_ (some 4) rfl rfl Try.func27 (by kernel_rfl) rfl #[.int .i64 a0, .int .i64 0, .int .i64 9999999] rfl (by (try simp only [List.map_toArray, List.map_cons, List.map_nil]); first | done | rfl | (simp only [List.length_drop, List.length_take]; rfl)) ?_; (with_reducible refine (impl_inRange.calls a0 0 9999999 false _ A2.out).mono ?_); rintro e w' ⟨rfl, ⟨nd, rfl⟩⟩; refine ⟨_, rfl, ?_⟩))
    go_ret
    exact ⟨by first | rfl | (simp; done) | (simp [*]; done), by repeat (first | exact Drawn0.refl _ | apply Drawn0.step)⟩

-- NOT PRINTED: function 56 (slices_IndexFunc_int64_int64)

-- NOT PRINTED: function 43 (slices_ContainsFunc_int64_int64)

-- NOT PRINTED: function 44 (impl_allIn_1)

/-! ### impl_allIn: function 39, by a template of this session -/
/-- Where a list's first element of which p holds stands, from i on; -1 where there is none. -/
def at_from {α : Type} (p : α → Bool) : List α → Int → Int
  | [], _ => -1
  | x :: xs, i => if p x then i else at_from p xs (i + 1)
theorem at_from_hit {α : Type} (p : α → Bool) : ∀ (l : List α) (k : Nat) (i : Int) (h : k < l.length), p l[k] = true → (∀ j (hj : j < k), p (l[j]'(by omega)) = false) → at_from p l i = i + k := by
  intro l
  induction l with
  | nil => intro k i h; simp at h
  | cons x xs ih =>
    intro k i h hp hq
    cases k with
    | zero => simp at hp; simp [at_from, hp]
    | succ k =>
      have h0 := hq 0 (by omega)
      simp at h0
      simp only [at_from, h0]
      have := ih k (i + 1) (by simpa using h) (by simpa using hp) (fun j hj => by have := hq (j + 1) (by omega); simpa using this)
      simp only [Bool.false_eq_true, if_false, this]
      omega
theorem at_from_miss {α : Type} (p : α → Bool) : ∀ (l : List α) (i : Int), (∀ j (hj : j < l.length), p l[j] = false) → at_from p l i = -1 := by
  intro l
  induction l with
  | nil => intro i _; rfl
  | cons x xs ih =>
    intro i hq
    have h0 := hq 0 (by simp)
    simp at h0
    simp only [at_from, h0, Bool.false_eq_true, if_false]
    exact ih (i + 1) (fun j hj => by have := hq (j + 1) (by simpa using hj); simpa using this)
theorem at_from_any {α : Type} (p : α → Bool) : ∀ (l : List α) (i : Int), 0 ≤ i → decide (0 ≤ at_from p l i) = l.any p := by
  intro l
  induction l with
  | nil => intro i _; simp [at_from]
  | cons x xs ih =>
    intro i hi
    have h1 := ih (i + 1) (by omega)
    cases hp : p x with
    | true => simp [at_from, hp, hi]
    | false => simp [at_from, hp]; simpa using h1
theorem impl_allIn.inI (a b c : Int) : impl_inRange.f a b c = some (decide (b ≤ a ∧ a ≤ c)) := by
  unfold impl_inRange.f
  by_cases h : b ≤ a <;> simp [h]
theorem impl_allIn.rd_get (l : List Int) (x : Int) (h0 : 0 ≤ x) (h : x.toNat < l.length) : rd l x = l[x.toNat] := by
  simp [rd, List.getD_eq_getElem?_getD, List.getElem?_eq_getElem h]
set_option maxHeartbeats 2000000 in
theorem impl_allIn.index (lb : Array Value) (p : Int → Bool) (A0 : Option Addr) (c0 : Nat) (l0 : List Int) (w : World)
    (hp : ∀ (W : World) (x : Int), Below w.heap.size w W → Calls Try.prog 44 (#[.int .i64 x] ++ lb) W fun e w' => e = .returned (.bool (p x)) ∧ Below w.heap.size w w')
    (hr0 : Kd.C (Kd.int .i64) w A0 l0.length l0) :
    Calls Try.prog 56 #[.slice A0 l0.length c0, .func (.func 44) #[] lb] w fun e w' => e = .returned (.int .i64 (at_from p l0 0)) ∧ Below w.heap.size w w' := by
  have HR0 := Aside0.mk hr0
  have HL := Aside0.mk (show (l0.length : Int) ≤ 9223372036854775807 by have := hr0.2.1; omega)
  have HP := Aside0.mk hp
  clear hr0 hp
  go_enter Try.func56, Try.ntmps56
  go_wp2
  go_loopg [5, 8] l0.length (fun gg _ s8 wr => ∃ x : Int, s8 = .int .i64 x ∧ Aside0 (0 ≤ x ∧ x ≤ l0.length ∧ (l0.length : Int) - x ≤ gg) ∧ Aside0 (Below w.heap.size w wr) ∧ Aside0 (∀ (j : Nat) (hj : (j : Int) < x) (hl : j < l0.length), p l0[j] = false))
  case atStart => exact ⟨0, rfl, ⟨by omega⟩, ⟨Below.refl _ w⟩, ⟨fun j hj => by omega⟩⟩
  case round =>
    obtain ⟨x, rfl, XX, BW, AA⟩ := hrel
    by_cases hlt : x < (l0.length : Int)
    · have hx0 : 0 ≤ x := XX.out.1
      have hltz : decide (x < (l0.length : Int)) = true := decide_eq_true hlt
      have hx1 : x ≤ 9223372036854775806 := by have := HL.out; omega
      have hcall := HP.out wr (rd l0 x) BW.out
      obtain ⟨ad, ead, hx⟩ := Kd.at_int (Kd.C_below HR0.out BW.out) x hx0 hlt
      cases ead
      have B : Aside0 (∀ h : x.toNat < l0.length, rd l0 x = l0[x.toNat]) := ⟨fun h => impl_allIn.rd_get l0 x hx0 h⟩
      generalize rd l0 x = y at hcall hx B
      cases hq : p y with
      | true =>
        have Q : Aside0 (p y = true) := ⟨hq⟩
        rw [hq] at hcall
        clear hq
        have LT : Aside0 (x < (l0.length : Int)) := ⟨hlt⟩
        replace hlt := eq_true hlt
        replace hx0 := eq_true hx0
        go_wp2_with (go_at_call 44; refine hcall.mono ?_; rintro e w' ⟨rfl, hb'⟩)
        go_ret
        refine ⟨?_, hb'⟩
        have h1 := XX.out
        have h2 := LT.out
        rw [at_from_hit p l0 x.toNat 0 (by omega) (by rw [← B.out (by omega)]; exact Q.out) (fun j hj => AA.out j (by omega) (by omega))]
        rw [Int.toNat_of_nonneg (by omega), Int.zero_add]
        rfl
      | false =>
        have Q : Aside0 (p y = false) := ⟨hq⟩
        rw [hq] at hcall
        clear hq
        have LT : Aside0 (x < (l0.length : Int)) := ⟨hlt⟩
        have hx2 : 0 ≤ x + 1 := by omega
        go_wp2_with (go_at_call 44; refine hcall.mono ?_; rintro e w' ⟨rfl, hb'⟩)
        go_roundg ((l0.length : Int) - (x + 1)).toNat
        case measure => have h1 := XX.out; have h2 := LT.out; omega
        case rel =>
          have h1 := XX.out
          have h2 := LT.out
          refine ⟨x + 1, rfl, ⟨by omega⟩, ⟨hb'⟩, ⟨fun j hj hl => ?_⟩⟩
          by_cases e : (j : Int) = x
          · have hj : j = x.toNat := by omega
            subst hj
            rw [← B.out hl]; exact Q.out
          · exact AA.out j (by omega) hl
    · have hltz : decide (x < (l0.length : Int)) = false := decide_eq_false hlt
      have LT : Aside0 (¬ x < (l0.length : Int)) := ⟨hlt⟩
      clear hlt
      go_wp2
      go_ret
      refine ⟨?_, BW.out⟩
      have h2 := LT.out
      rw [at_from_miss p l0 0 (fun j hj => AA.out j (by omega) hj)]
      rfl
set_option maxHeartbeats 2000000 in
theorem impl_allIn.contains (lb : Array Value) (p : Int → Bool) (A0 : Option Addr) (c0 : Nat) (l0 : List Int) (w : World)
    (hp : ∀ (W : World) (x : Int), Below w.heap.size w W → Calls Try.prog 44 (#[.int .i64 x] ++ lb) W fun e w' => e = .returned (.bool (p x)) ∧ Below w.heap.size w w')
    (hr0 : Kd.C (Kd.int .i64) w A0 l0.length l0) :
    Calls Try.prog 43 #[.slice A0 l0.length c0, .func (.func 44) #[] lb] w fun e w' => e = .returned (.bool (l0.any p)) ∧ Below w.heap.size w w' := by
  have E := Aside0.mk (at_from_any p l0 0 (Int.le_refl 0))
  have HC := Aside0.mk (impl_allIn.index lb p A0 c0 l0 w hp hr0)
  clear hp hr0
  go_enter Try.func43, Try.ntmps43
  go_wp2_with (go_at_call 56; (with_reducible refine HC.out.mono ?_); rintro e w' ⟨rfl, hb'⟩)
  go_ret
  refine ⟨?_, hb'⟩
  rw [← E.out]
  rfl
set_option maxHeartbeats 2000000 in
theorem impl_allIn.closure (x lo hi : Int) (b c : Addr) (W : World) (h1 : W.cell? b = some (.int .i64 lo)) (h2 : W.cell? c = some (.int .i64 hi)) :
    Calls Try.prog 44 #[.int .i64 x, .pointer (some b), .pointer (some c)] W fun e w' => e = .returned (.bool (!decide (lo ≤ x ∧ x ≤ hi))) ∧ Below W.heap.size W w' := by
  have HI := Aside0.mk (impl_allIn.inI x lo hi)
  generalize decide (lo ≤ x ∧ x ≤ hi) = d at HI
  go_enter Try.func44, Try.ntmps44
  go_wp2_with (go_at_call 27; (with_reducible refine (impl_inRange.calls x lo hi d _ HI.out).mono ?_); rintro e w' ⟨rfl, hd⟩; have hb := hd.below; clear hd)
  go_ret
  exact ⟨rfl, hb⟩
def impl_allIn.f (l0 : List Int) (a1 : Int) (a2 : Int) : Option (Bool) := some (l0.all fun x => decide (a1 ≤ x ∧ x ≤ a2))
theorem impl_allIn.any_not_all (l : List Int) (a b : Int) : (!l.any fun x => !decide (a ≤ x ∧ x ≤ b)) = l.all fun x => decide (a ≤ x ∧ x ≤ b) := by
  induction l with
  | nil => rfl
  | cons x xs ih => simp only [List.any_cons, List.all_cons, ← ih]; cases decide (a ≤ x ∧ x ≤ b) <;> simp
set_option maxHeartbeats 2000000 in
theorem impl_allIn.calls (A0 : Option Addr) (c0 : Nat) (l0 : List Int) (a1 : Int) (a2 : Int) (r : Bool) (w : World) (hr0 : Kd.C (Kd.int .i64) w A0 l0.length l0) (hc0 : l0.length ≤ c0) (h : impl_allIn.f l0 a1 a2 = some r) :
    Calls Try.prog 39 #[.slice A0 l0.length c0, .int .i64 a1, .int .i64 a2] w fun e w' => e = .returned (.bool r) ∧ Below w.heap.size w w' := by
  unfold impl_allIn.f at h
  rw [← impl_allIn.any_not_all] at h
  have H := Aside0.mk (Option.some.inj h)
  have HR := Aside0.mk hr0
  have hbx : Below w.heap.size w ((w.alloc (.cells #[.int .i64 a1] 2)).alloc (.cells #[.int .i64 a2] 2)) := ((Below.refl _ _).alloc (Nat.le_refl _) _).alloc (by simp) _
  have HC := Aside0.mk (impl_allIn.contains #[.pointer (some ⟨w.heap.size, 0, none⟩), .pointer (some ⟨w.heap.size + 1, 0, none⟩)] (fun x => !decide (a1 ≤ x ∧ x ≤ a2)) A0 c0 l0 _
    (fun W x hb => (impl_allIn.closure x a1 a2 ⟨w.heap.size, 0, none⟩ ⟨w.heap.size + 1, 0, none⟩ W ((hb.cell (p := ⟨w.heap.size, 0, none⟩) (by simp; omega)).trans (by simp)) ((hb.cell (p := ⟨w.heap.size + 1, 0, none⟩) (by simp)).trans (by simp))).mono
      (fun e w' ⟨he, hb'⟩ => ⟨he, hb.trans (hb'.mono hb.size)⟩)) (Kd.C_below hr0 hbx))
  have HB := Aside0.mk hbx
  clear h hr0 hbx
  generalize l0.any (fun x => !decide (a1 ≤ x ∧ x ≤ a2)) = v at H HC
  go_enter Try.func39, Try.ntmps39
  go_wp2_with (go_at_call 43; (with_reducible refine HC.out.mono ?_); rintro e w' ⟨rfl, hb'⟩)
  go_ret
  refine ⟨?_, HB.out.trans (hb'.mono HB.out.size)⟩
  rw [← H.out]
  rfl

/-! ### impl_areReads: function 26 -/
def impl_areReads.f (l0 : List Int) : Option (Bool) := if (l0.length : Int) ≤ 200 then ((impl_allIn.f l0 0 9999999).bind fun t124 => (some t124)) else (some false)
set_option maxHeartbeats 8000000 in
set_option maxRecDepth 100000 in
theorem impl_areReads.calls (A0 : Option Addr) (c0 : Nat) (l0 : List Int) (r : Bool) (w : World) (hr0 : Kd.C (Kd.int .i64) w A0 l0.length l0) (hc0 : l0.length ≤ c0) (h : impl_areReads.f l0 = some r) :
    Calls Try.prog 26 #[.slice A0 l0.length c0] w fun e w' => e = .returned (.bool r) ∧ Below w.heap.size w w' := by
  have HR0 := Aside0.mk hr0
  have HC0 := Aside0.mk hc0
  clear hr0 hc0
  have HB := Aside0.mk (Below.refl w.heap.size w)
  have H : (if (l0.length : Int) ≤ 200 then ((impl_allIn.f l0 0 9999999).bind fun t124 => (some t124)) else (some false)) = some r := h
  clear h
  by_cases c2 : (l0.length : Int) ≤ 200
  · rw [if_pos c2] at H
    have c2b0 : decide ((l0.length : Int) ≤ 200) = true := decide_eq_true c2
    have c2b1 : decide (l0.length ≤ 200) = true := decide_eq_true (by omega)
    clear c2
    replace H := Option.bind_eq_some_iff.mp H
    obtain ⟨t124, A30, H⟩ := H
    replace H : (some t124) = some r := H
    have A3 := Aside0.mk A30
    clear A30
    obtain rfl := Option.some.inj H
    go_enter Try.func26, Try.ntmps26
    go_wp2_with (first | (go_at_call 39; (with_reducible refine (impl_allIn.calls _ _ l0 0 9999999 t124 _ ?side1 ?side2 A3.out).mono ?_); (case side1 => repeat (first | exact HR0.out | (with_reducible refine Kd.C_alloc ?_ _) | (with_reducible refine Kd.C_drewN ?_ _) | (with_reducible refine Kd.C_drew ?_))); (case side2 => exact HC0.out); rintro e w4 ⟨rfl, hb⟩; have n0_ := Aside0.mk (below_step (by repeat (first | (with_reducible first | exact HB.out | apply below_alloc | apply pw_below_drewN | apply below_drew1) | exact HB.out)) hb); clear HB; have HB := n0_; clear n0_; (try clear hb); (try clear hb2); (try clear hk); (try clear hi)))
    go_ret
    exact ⟨by first | rfl | (simp [errW_none, errW_some] <;> rfl) | (simp [*, errW_none, errW_some] <;> rfl), by repeat (first | (with_reducible first | exact HB.out | apply below_alloc | apply pw_below_drewN | apply below_drew1) | exact HB.out)⟩
  · rw [if_neg c2] at H
    have c2b0 : decide ((l0.length : Int) ≤ 200) = false := decide_eq_false c2
    have c2b1 : decide (l0.length ≤ 200) = false := decide_eq_false (by omega)
    clear c2
    obtain rfl := Option.some.inj H
    go_enter Try.func26, Try.ntmps26
    go_wp2
    go_ret
    exact ⟨by first | rfl | (simp [errW_none, errW_some] <;> rfl) | (simp [*, errW_none, errW_some] <;> rfl), by repeat (first | (with_reducible first | exact HB.out | apply below_alloc | apply pw_below_drewN | apply below_drew1) | exact HB.out)⟩

/-! ### impl_BestCode: function 12, by a template of this session -/
def impl_BestCode.code (x : Int) : Bool := decide (impl_IsCode.f x = some true)
def impl_BestCode.cc (l : List Int) (x : Int) : Nat := if impl_BestCode.code x = true then l.count x else 0
def impl_BestCode.step (l : List Int) (s : Int × Int) (x : Int) : Int × Int := if impl_BestCode.code x = true ∧ ((impl_BestCode.cc l x : Int) > s.2 ∨ ((impl_BestCode.cc l x : Int) = s.2 ∧ x < s.1)) then (x, (impl_BestCode.cc l x : Int)) else s
def impl_BestCode.best (l : List Int) : Int × Int := l.foldl (impl_BestCode.step l) (0, 0)
def impl_BestCode.f (l0 : List Int) : Option (Int × Int × Int) := (impl_areReads.f l0).bind fun t => (if t = true then (if (impl_BestCode.best l0).2 = 0 then some (0, 0, 4) else some ((impl_BestCode.best l0).1, (impl_BestCode.best l0).2, 0)) else some (0, 0, 2))
/-- The best of what P holds. -/
structure impl_BestCode.Opt (l : List Int) (P : Int → Prop) (b m : Int) : Prop where
  pos : 0 ≤ m
  none_ : m = 0 → b = 0 ∧ ∀ x, ¬ P x
  some_ : 0 < m → P b ∧ (impl_BestCode.cc l b : Int) = m ∧ ∀ x, P x → (impl_BestCode.cc l x : Int) < m ∨ ((impl_BestCode.cc l x : Int) = m ∧ b ≤ x)
theorem impl_BestCode.opt_take {l : List Int} {P P' : Int → Prop} {b m x : Int} (h : impl_BestCode.Opt l P b m) (hP : ∀ y, P' y → P y ∨ y = x) (hx : P' x) (h0 : 0 < impl_BestCode.cc l x) (c : (impl_BestCode.cc l x : Int) > m ∨ ((impl_BestCode.cc l x : Int) = m ∧ x < b)) : impl_BestCode.Opt l P' x (impl_BestCode.cc l x : Int) := by
  refine ⟨by omega, fun e => by omega, fun _ => ⟨hx, rfl, fun y hy => ?_⟩⟩
  rcases hP y hy with h1 | rfl
  · by_cases hm : m = 0
    · exact ((h.none_ hm).2 y h1).elim
    · have := (h.some_ (by have := h.pos; omega)).2.2 y h1
      omega
  · exact .inr ⟨rfl, Int.le_refl _⟩
theorem impl_BestCode.opt_keep {l : List Int} {P P' : Int → Prop} {b m x : Int} (h : impl_BestCode.Opt l P b m) (hP : ∀ y, P' y → P y ∨ y = x) (hQ : ∀ y, P y → P' y) (h0 : 0 < impl_BestCode.cc l x) (c : ¬ ((impl_BestCode.cc l x : Int) > m ∨ ((impl_BestCode.cc l x : Int) = m ∧ x < b))) : impl_BestCode.Opt l P' b m := by
  have hm : 0 < m := by omega
  refine ⟨h.pos, fun e => by omega, fun _ => ?_⟩
  obtain ⟨h1, h2, h3⟩ := h.some_ hm
  refine ⟨hQ b h1, h2, fun y hy => ?_⟩
  rcases hP y hy with h4 | rfl
  · exact h3 y h4
  · omega
theorem impl_BestCode.opt_one {l : List Int} {P : Int → Prop} {b m b' m' : Int} (h : impl_BestCode.Opt l P b m) (h' : impl_BestCode.Opt l P b' m') : b = b' ∧ m = m' := by
  have hp := h.pos
  have hp' := h'.pos
  by_cases c : m = 0
  · have e := h.none_ c
    by_cases c' : m' = 0
    · have e' := h'.none_ c'
      omega
    · exact (e.2 _ (h'.some_ (by omega)).1).elim
  · obtain ⟨a1, a2, a3⟩ := h.some_ (by omega)
    by_cases c' : m' = 0
    · exact ((h'.none_ c').2 _ a1).elim
    · obtain ⟨b1, b2, b3⟩ := h'.some_ (by omega)
      have x1 := a3 _ b1
      have x2 := b3 _ a1
      omega
theorem impl_BestCode.cc_pos {l : List Int} {x : Int} : 0 < impl_BestCode.cc l x ↔ impl_BestCode.code x = true ∧ x ∈ l := by
  unfold impl_BestCode.cc
  by_cases c : impl_BestCode.code x = true
  · rw [if_pos c, List.count_pos_iff]
    exact ⟨fun h => ⟨c, h⟩, fun h => h.2⟩
  · rw [if_neg c]
    exact ⟨fun h => absurd h (by decide), fun h => absurd h.1 c⟩
theorem impl_BestCode.best_opt (l : List Int) : impl_BestCode.Opt l (fun x => 0 < impl_BestCode.cc l x) (impl_BestCode.best l).1 (impl_BestCode.best l).2 := by
  have key : ∀ (q p : List Int) (s : Int × Int), l = p ++ q → impl_BestCode.Opt l (fun x => 0 < impl_BestCode.cc l x ∧ x ∈ p) s.1 s.2 → impl_BestCode.Opt l (fun x => 0 < impl_BestCode.cc l x ∧ x ∈ l) (q.foldl (impl_BestCode.step l) s).1 (q.foldl (impl_BestCode.step l) s).2 := by
    intro q
    induction q with
    | nil => intro p s e h; rw [List.append_nil] at e; subst e; exact h
    | cons x q ih =>
      intro p s e h
      refine ih (p ++ [x]) (impl_BestCode.step l s x) (by rw [e]; simp) ?_
      have hxl : x ∈ l := by rw [e]; simp
      unfold impl_BestCode.step
      by_cases cx : impl_BestCode.code x = true
      · have h0 : 0 < impl_BestCode.cc l x := impl_BestCode.cc_pos.2 ⟨cx, hxl⟩
        have hP : ∀ y, (0 < impl_BestCode.cc l y ∧ y ∈ p ++ [x]) → (0 < impl_BestCode.cc l y ∧ y ∈ p) ∨ y = x := fun y hy => by
          rcases List.mem_append.1 hy.2 with h1 | h1
          · exact .inl ⟨hy.1, h1⟩
          · exact .inr (List.mem_singleton.1 h1)
        by_cases c : (impl_BestCode.cc l x : Int) > s.2 ∨ ((impl_BestCode.cc l x : Int) = s.2 ∧ x < s.1)
        · rw [if_pos ⟨cx, c⟩]
          exact impl_BestCode.opt_take h hP ⟨h0, by simp⟩ h0 c
        · rw [if_neg (fun g => c g.2)]
          exact impl_BestCode.opt_keep h hP (fun y hy => ⟨hy.1, List.mem_append_left _ hy.2⟩) h0 c
      · rw [if_neg (fun g => cx g.1)]
        have hn : impl_BestCode.cc l x = 0 := by unfold impl_BestCode.cc; rw [if_neg cx]
        have e2 : (fun y => 0 < impl_BestCode.cc l y ∧ y ∈ p ++ [x]) = fun y => 0 < impl_BestCode.cc l y ∧ y ∈ p := by
          funext y
          refine propext ⟨fun g => ⟨g.1, ?_⟩, fun g => ⟨g.1, List.mem_append_left _ g.2⟩⟩
          rcases List.mem_append.1 g.2 with h1 | h1
          · exact h1
          · rw [List.mem_singleton.1 h1] at g; omega
        rw [e2]
        exact h
  have h := key l [] (0, 0) rfl ⟨Int.le_refl _, fun _ => ⟨rfl, fun x hx => absurd hx.2 (by simp)⟩, fun h => absurd h (by decide)⟩
  have e : (fun x => 0 < impl_BestCode.cc l x ∧ x ∈ l) = fun x => 0 < impl_BestCode.cc l x := by
    funext x
    exact propext ⟨fun g => g.1, fun g => ⟨g, (impl_BestCode.cc_pos.1 g).2⟩⟩
  rw [e] at h
  exact h
theorem impl_BestCode.code_in {x : Int} (h : impl_BestCode.code x = true) : 0 ≤ x ∧ x ≤ 9999999 := by
  unfold impl_BestCode.code at h
  rw [decide_eq_true_eq] at h
  unfold impl_IsCode.f impl_inRange.f at h
  by_cases c : (0 : Int) ≤ x
  · by_cases c2 : x ≤ 9999999
    · exact ⟨c, c2⟩
    · simp [c, c2] at h
  · simp [c] at h
theorem impl_BestCode.code_f (x : Int) : impl_IsCode.f x = some (impl_BestCode.code x) := by
  have inR : ∀ a b c : Int, impl_inRange.f a b c = some (decide (b ≤ a ∧ a ≤ c)) := fun a b c => by
    unfold impl_inRange.f
    by_cases h1 : b ≤ a <;> by_cases h2 : a ≤ c <;> simp [h1, h2]
  have h : ∃ r, impl_IsCode.f x = some r := by
    unfold impl_IsCode.f
    simp only [inR, Option.bind_some]
    repeat' (first | exact ⟨_, rfl⟩ | split)
  obtain ⟨r, h⟩ := h
  unfold impl_BestCode.code
  rw [h]
  cases r <;> simp
/-- What the map holds behind p. -/
def impl_BestCode.Holds (D : DataW Unit) (p : List Int) : Prop := (∀ x : Int, D.atKey (.int .i64 x) (.lit (.int .i64 0)) = .lit (.int .i64 ((impl_BestCode.cc p x : Nat) : Int))) ∧ ∀ x : Int, Go.Maps.has D (.int .i64 x) = true ↔ 0 < impl_BestCode.cc p x
theorem impl_BestCode.holds_nil : impl_BestCode.Holds (.map []) [] := by
  refine ⟨fun x => ?_, fun x => ?_⟩
  · have : impl_BestCode.cc [] x = 0 := by unfold impl_BestCode.cc; split <;> simp
    rw [this]; rfl
  · have : impl_BestCode.cc [] x = 0 := by unfold impl_BestCode.cc; split <;> simp
    rw [this]; simp [Go.Maps.has]
theorem impl_BestCode.cc_snoc (p : List Int) (x y : Int) : impl_BestCode.cc (p ++ [x]) y = if impl_BestCode.code y = true ∧ x = y then impl_BestCode.cc p y + 1 else impl_BestCode.cc p y := by
  unfold impl_BestCode.cc
  by_cases c : impl_BestCode.code y = true
  · rw [if_pos c, if_pos c, List.count_append]
    by_cases e : x = y
    · subst e; simp [c]
    · simp [e, c, List.count_singleton]
  · rw [if_neg c, if_neg c, if_neg (fun g => c g.1)]
theorem impl_BestCode.holds_miss {D : DataW Unit} {p : List Int} {x : Int} (h : impl_BestCode.Holds D p) (c : impl_BestCode.code x = false) : impl_BestCode.Holds D (p ++ [x]) := by
  have e : ∀ y, impl_BestCode.cc (p ++ [x]) y = impl_BestCode.cc p y := fun y => by
    rw [impl_BestCode.cc_snoc, if_neg]
    rintro ⟨g, rfl⟩
    rw [c] at g; cases g
  exact ⟨fun y => by rw [e]; exact h.1 y, fun y => by rw [e]; exact h.2 y⟩
theorem impl_BestCode.holds_at {D : DataW Unit} {p : List Int} {x c : Int} (h : impl_BestCode.Holds D p) (hat : D.atKey (.int .i64 x) (.lit (.int .i64 0)) = .lit (.int .i64 c)) : c = ((impl_BestCode.cc p x : Nat) : Int) := by
  have := (h.1 x).symm.trans hat
  injection this with h1
  injection h1 with _ h2
  exact h2.symm
theorem impl_BestCode.holds_hit {D : DataW Unit} {p : List Int} {x : Int} (hD : Go.Maps.IsMap D) (h : impl_BestCode.Holds D p) (c : impl_BestCode.code x = true) : impl_BestCode.Holds (D.put (.int .i64 x) (.lit (.int .i64 (((impl_BestCode.cc p x : Nat) : Int) + 1)))) (p ++ [x]) := by
  refine ⟨fun y => ?_, fun y => ?_⟩
  · rw [impl_BestCode.cc_snoc]
    by_cases e : x = y
    · subst e
      rw [if_pos ⟨c, rfl⟩, Go.Maps.atKey_put_same (k := .int .i64 x) hD (show WideAt.IsKeyLit (.int .i64 x) from trivial)]
      rfl
    · rw [if_neg (fun g => e g.2), Go.Maps.atKey_put_other (fun g => e (by injection g with _ g; exact g.symm))]
      exact h.1 y
  · rw [impl_BestCode.cc_snoc]
    by_cases e : x = y
    · subst e
      rw [if_pos ⟨c, rfl⟩, Go.Maps.has_put_same (k := .int .i64 x) hD (show WideAt.IsKeyLit (.int .i64 x) from trivial)]
      simp
    · rw [if_neg (fun g => e g.2), Go.Maps.has_put_other (fun g => e (by injection g with _ g; exact g.symm))]
      exact h.2 y
theorem rdX (l : List Int) (i : Nat) (h : i < l.length) : rd l (i : Int) = l[i] := by simp [rd, List.getD_eq_getElem?_getD, List.getElem?_eq_getElem h]
theorem impl_BestCode.wf {x : Int} (h : 0 ≤ x ∧ x ≤ 9999999) : (Lit.int .i64 x).wf = true := by
  simp [Lit.wf, IntKind.min, IntKind.max, IntKind.signed, IntKind.bits]
  omega
theorem impl_BestCode.cc_wrap {p : List Int} {x : Int} (h : p.length ≤ 200) : (Lit.int .i64 (wrap64 (((impl_BestCode.cc p x : Nat) : Int) + 1))).wf = true ∧ wrap64 (((impl_BestCode.cc p x : Nat) : Int) + 1) = ((impl_BestCode.cc p x : Nat) : Int) + 1 := by
  have h1 : impl_BestCode.cc p x ≤ 200 := by
    unfold impl_BestCode.cc
    split
    · exact Nat.le_trans List.count_le_length h
    · omega
  have h2 : wrap64 (((impl_BestCode.cc p x : Nat) : Int) + 1) = ((impl_BestCode.cc p x : Nat) : Int) + 1 := by unfold wrap64; omega
  rw [h2]
  exact ⟨impl_BestCode.wf ⟨by omega, by omega⟩, rfl⟩
theorem impl_BestCode.lawK : Go.Maps.Keyed Try.prog 2 := Go.Maps.int_keyed Try.underlying2
set_option maxHeartbeats 8000000 in
set_option maxRecDepth 100000 in
theorem impl_BestCode.calls (A0 : Option Addr) (c0 : Nat) (l0 : List Int) (r1 r2 r3 : Int) (w : World) (hr0 : Kd.C (Kd.int .i64) w A0 l0.length l0) (hc0 : l0.length ≤ c0) (h : impl_BestCode.f l0 = some (r1, r2, r3)) :
    Calls Try.prog 12 #[.slice A0 l0.length c0] w fun e w' => e = .returned (.tuple #[.int .i64 r1, .int .i64 r2, .int .i64 r3]) ∧ Below w.heap.size w w' := by
  have HR := Aside0.mk hr0
  have HC := Aside0.mk hc0
  have HB := Aside0.mk (Below.refl w.heap.size w)
  unfold impl_BestCode.f at h
  obtain ⟨t, hA1, H⟩ := Option.bind_eq_some_iff.mp h
  have A1 := Aside0.mk hA1
  clear h hA1 hr0 hc0
  cases t with
  | false =>
    rw [if_neg (by decide)] at H
    simp only [Option.some.injEq, Prod.mk.injEq] at H
    obtain ⟨rfl, rfl, rfl⟩ := H
    go_enter Try.func12, Try.ntmps12
    go_wp2_with (first | ((with_reducible refine gate_callee (f := 26) rfl ?_); refine goesL_ (some 13) rfl rfl Try.func26 (by kernel_rfl) rfl #[.slice A0 l0.length c0] rfl (by (try simp only [List.map_toArray, List.map_cons, List.map_nil]); first | done | rfl) ?_; (with_reducible refine (impl_areReads.calls A0 c0 l0 false _ (by first | exact HR.out | exact Kd.C_drewN HR.out _) HC.out A1.out).mono ?_); rintro e w' ⟨rfl, hb⟩; refine ⟨_, rfl, ?_⟩; have HB1 := Aside0.mk hb; clear hb))
    go_ret3
    exact ⟨rfl, HB1.out⟩
  | true =>
    rw [if_pos rfl] at H
    have hmm : ∀ W, (Instr.makeMap 42 none).run Try.prog W = .ok (.map (some W.heap.size)) (W.alloc (.map #[] 0)) := fun W => run_makeMap 42 W
    have HX := Aside0.mk H
    have HL := Aside0.mk (show l0.length ≤ 200 from by
      have h_ := A1.out
      unfold impl_areReads.f at h_
      by_cases c : (l0.length : Int) ≤ 200
      · omega
      · rw [if_neg c] at h_; cases h_)
    clear H
    go_enter Try.func12, Try.ntmps12
    go_wp2_with (first | ((with_reducible refine gate_callee (f := 26) rfl ?_); refine goesL_ (some 13) rfl rfl Try.func26 (by kernel_rfl) rfl #[.slice A0 l0.length c0] rfl (by (try simp only [List.map_toArray, List.map_cons, List.map_nil]); first | done | rfl) ?_; (with_reducible refine (impl_areReads.calls A0 c0 l0 true _ (by first | exact HR.out | exact Kd.C_drewN HR.out _) HC.out A1.out).mono ?_); rintro e w1 ⟨rfl, hb⟩; refine ⟨_, rfl, ?_⟩; have HB1 := Aside0.mk (below_step (by repeat (first | exact HB.out | refine below_drew1 ?_ | refine pw_below_drewN ?_ _)) hb); clear hb))
    have HM := Aside0.mk (World.ownsMap_made (H := Unit) w1 Try.prog 2 (plainElem Try.prog 2))
    have HB2 := Aside0.mk (below_alloc HB1.out (.map #[] 0))
    have HBB := Aside0.mk (show w.heap.size ≤ w1.heap.size from below_size HB1.out)
    generalize w1.alloc (.map #[] 0) = w2 at HM HB2 ⊢
    generalize w1.heap.size = bm at HM HBB ⊢
    clear hmm HB1 HB
    go_loopg [18] l0.length (fun gg s18 wr => ∃ (i n : Nat) (D : DataW Unit), s18 = .int .i64 (i : Int) ∧ Aside0 (gg + i = l0.length) ∧ Aside0 (wr.ownsMap Try.prog 2 (plainElem Try.prog 2) bm n D) ∧ Aside0 (n ≤ i) ∧ Aside0 (impl_BestCode.Holds D (l0.take i)) ∧ Aside0 (Below w.heap.size w wr))
    case atStart => exact ⟨0, 0, .map [], rfl, ⟨by omega⟩, HM, ⟨Nat.le_refl _⟩, ⟨impl_BestCode.holds_nil⟩, HB2⟩
    case round =>
      clear HM HB2
      obtain ⟨i, n, D, rfl, HG, HM, HN, HD, HB⟩ := hrel
      have HCr := Aside0.mk (Kd.C_below HR.out HB.out)
      by_cases c : (i : Int) < (l0.length : Int)
      · obtain ⟨ad, ea, hx⟩ := Kd.at_int HCr.out (i : Int) (by omega) c
        have hxe := rdX l0 i (by omega)
        have cb : decide ((i : Int) < (l0.length : Int)) = true := decide_eq_true c
        have p0 : (0 : Int) ≤ (i : Int) := by omega
        have hwi : wrap64 ((i : Int) + 1) = ((i + 1 : Nat) : Int) := by have := HL.out; unfold wrap64; omega
        subst ea
        have hT : l0.take (i + 1) = l0.take i ++ [rd l0 (i : Int)] := by rw [hxe, List.take_succ_eq_append_getElem (by omega)]
        have HT := Aside0.mk hT
        have HW := Aside0.mk hwi
        have HLt := Aside0.mk c
        obtain ⟨x, hxx⟩ : ∃ x, x = rd l0 (i : Int) := ⟨_, rfl⟩
        rw [← hxx] at hx HT
        rw [Int.toNat_natCast] at hx
        clear hT hxe hxx hwi
        have hcf := impl_BestCode.code_f x
        cases hco : impl_BestCode.code x with
        | false =>
          rw [hco] at hcf
          have AI := Aside0.mk hcf
          have HCo := Aside0.mk hco
          clear hcf hco
          go_wp2_with (first | ((with_reducible refine gate_callee (f := 22) rfl ?_); refine goesL_ (some 23) rfl rfl Try.func22 (by kernel_rfl) rfl #[.int .i64 x] rfl (by (try simp only [List.map_toArray, List.map_cons, List.map_nil]); first | done | rfl) ?_; (with_reducible refine (impl_IsCode.calls x false _ AI.out).mono ?_); rintro e w' ⟨rfl, ⟨nd, rfl⟩⟩; refine ⟨_, rfl, ?_⟩))
          go_roundg (gk - 1)
          case measure => have := HG.out; have := HLt.out; omega
          case rel => exact ⟨i + 1, n, D, by rw [HW.out], ⟨by have := HG.out; have := HLt.out; omega⟩, ⟨HM.out⟩, ⟨by have := HN.out; omega⟩, ⟨by rw [HT.out]; exact impl_BestCode.holds_miss HD.out HCo.out⟩, ⟨pw_below_drewN HB.out _⟩⟩
        | true =>
          rw [hco] at hcf
          have AI := Aside0.mk hcf
          have HCo := Aside0.mk hco
          have hwf := impl_BestCode.wf (impl_BestCode.code_in hco)
          have HKEY := Aside0.mk (Go.Maps.keyOf_int_mk (P := Try.prog) Try.underlying2 hwf)
          clear hcf hco hwf
          go_wp2_with (first
            | ((with_reducible refine gate_callee (f := 22) rfl ?_); refine goesL_ (some 23) rfl rfl Try.func22 (by kernel_rfl) rfl #[.int .i64 x] rfl (by (try simp only [List.map_toArray, List.map_cons, List.map_nil]); first | done | rfl) ?_; (with_reducible refine (impl_IsCode.calls x true _ AI.out).mono ?_); rintro e w' ⟨rfl, ⟨nd, rfl⟩⟩; refine ⟨_, rfl, ?_⟩)
            | (at_lookup; refine wpList_lookup_own_int _ rfl _ _ 42 rfl 2 2 .i64 impl_BestCode.lawK Try.underlying42 Try.underlying2 (by first | rfl | (simp [zeroValue]; rfl)) bm n D rfl HM.out (.int .i64 x) (.int .i64 x) rfl HKEY.out ?_; intro c5 hat hwc; have hc5 := impl_BestCode.holds_at HD.out hat; subst hc5; have HWC := Aside0.mk (impl_BestCode.cc_wrap (p := l0.take i) (x := x) (by have := HL.out; rw [List.length_take]; omega)); clear hat hwc)
            | (at_mapUpdate; refine wpList_mapUpdate_own _ rfl _ _ _ 42 rfl 2 2 impl_BestCode.lawK Try.underlying42 (plainElem Try.prog 2) bm n D rfl HM.out (by have := HN.out; have := HL.out; have := HLt.out; unfold maxLen; omega) (.int .i64 x) (.int .i64 (wrap64 (((impl_BestCode.cc (l0.take i) x : Nat) : Int) + 1))) (.int .i64 x) rfl rfl HKEY.out (.lit (.int .i64 (wrap64 (((impl_BestCode.cc (l0.take i) x : Nat) : Int) + 1)))) [] (plainElem_int Try.underlying2 HWC.out.1) ?_; intro w5 hm5 hg5; have HM5 := Aside0.mk hm5; have HB5 := Aside0.mk (Below.grown (show Below w.heap.size w _ from pw_below_drewN HB.out _) hg5 (by first | exact below_size (pw_below_drewN HB.out _) | exact below_size HB.out) (fun k_ hk_ => by injection hk_ with hk_; subst hk_; exact HBB.out)); clear hm5 hg5))
          go_roundg (gk - 1)
          case measure => have := HG.out; have := HLt.out; omega
          case rel => exact ⟨i + 1, n + 1, _, by rw [HW.out], ⟨by have := HG.out; have := HLt.out; omega⟩, HM5, ⟨by have := HN.out; omega⟩, ⟨by rw [HT.out, HWC.out.2]; exact impl_BestCode.holds_hit HM.out.isMap HD.out HCo.out⟩, HB5⟩
      · have cb : decide ((i : Int) < (l0.length : Int)) = false := decide_eq_false c
        have HD := Aside0.mk (show impl_BestCode.Holds D l0 from by have h_ := HD.out; rw [List.take_of_length_le (by omega)] at h_; exact h_)
        have cn : ¬ i < l0.length := by omega
        clear HG
        go_wp2_with (first
          | (at_range; refine wpList_range_own _ rfl _ 42 rfl 2 2 impl_BestCode.lawK Try.underlying42 (plainElem Try.prog 2) bm n D rfl HM.out ?_; intro w6 hrg6 hg6 hs6; have HR6 := Aside0.mk hrg6; have HB6 := Aside0.mk (Below.grown HB.out hg6 (below_size HB.out) (fun k_ hk_ => by cases hk_)); clear hrg6 hg6 hs6))
        have hri : w.heap.size ≤ wr.heap.size := below_size HB.out
        have HRI := Aside0.mk hri
        have hopt := impl_BestCode.best_opt l0
        generalize wr.heap.size = ri at HR6 HRI ⊢
        clear hri HB HM
        go_loopg [8, 9] (Go.Maps.size D) (fun gg s8 s9 wr => ∃ (left : Lit → Bool) (b m : Int), s8 = .int .i64 b ∧ s9 = .int .i64 m ∧ Aside0 (wr.ranges Try.prog 2 (plainElem Try.prog 2) bm ri n D left gg) ∧ Aside0 (impl_BestCode.Opt l0 (fun x => 0 < impl_BestCode.cc l0 x ∧ left (.int .i64 x) = false) b m) ∧ Aside0 (∀ x : Int, left (.int .i64 x) = true → 0 < impl_BestCode.cc l0 x) ∧ Aside0 (Below w.heap.size w wr))
        case atStart => exact ⟨Go.Maps.has D, 0, 0, rfl, rfl, HR6, ⟨⟨Int.le_refl _, fun _ => ⟨rfl, fun x hx => by have h1 := (HD.out.2 x).2 hx.1; rw [hx.2] at h1; cases h1⟩, fun h => absurd h (by decide)⟩⟩, ⟨fun x hx => (HD.out.2 x).1 hx⟩, HB6⟩
        case round =>
          clear HR6 HB6
          obtain ⟨left, b, m, rfl, rfl, HR, HO, HLf, HB⟩ := hrel
          go_wp2_with (first
            | (at_next; refine wpList_next_ranges_ii _ rfl _ rfl 2 2 .i64 .i64 impl_BestCode.lawK Try.underlying2 Try.underlying2 bm ri n _ _ _ rfl HR.out ?_ ?_))
          · intro _ hl0
            have hu := impl_BestCode.opt_one HO.out (b' := (impl_BestCode.best l0).1) (m' := (impl_BestCode.best l0).2) (by
              have e : (fun x => 0 < impl_BestCode.cc l0 x ∧ left (.int .i64 x) = false) = fun x => 0 < impl_BestCode.cc l0 x := by
                funext x
                exact propext ⟨fun g => g.1, fun g => ⟨g, hl0 _⟩⟩
              rw [e]; exact hopt)
            have H := HX.out
            rw [← hu.1, ← hu.2] at H
            clear hu hopt HO HLf HR hl0
            by_cases c0 : m = 0
            · rw [if_pos c0] at H
              simp only [Option.some.injEq, Prod.mk.injEq] at H
              obtain ⟨rfl, rfl, rfl⟩ := H
              have cb : (m == 0) = true := beq_iff_eq.mpr c0
              go_wp2
              go_ret3
              exact ⟨rfl, HB.out⟩
            · rw [if_neg c0] at H
              simp only [Option.some.injEq, Prod.mk.injEq] at H
              obtain ⟨rfl, rfl, rfl⟩ := H
              have cb : (b == b) = true := by simp
              have cb2 : (m == 0) = false := beq_eq_false_iff_ne.mpr c0
              go_wp2
              go_ret3
              exact ⟨rfl, HB.out⟩
          · intro x c wx cnt1 hwx hwc hlx hat hrg1 hlt hg1 hs1 hen
            have hc := impl_BestCode.holds_at HD.out (hat _)
            have h0 := HLf.out x hlx
            have HR1 := Aside0.mk hrg1
            have HLt := Aside0.mk hlt
            have HB1 := Aside0.mk (Below.grown HB.out hg1 (below_size HB.out) (fun k_ hk_ => by injection hk_ with hk_; subst hk_; exact HRI.out))
            have hsame : ∀ y : Int, (Lit.int .i64 y).sameKey (.int .i64 x) = decide (y = x) := fun y => by simp [Lit.sameKey]
            have hP : ∀ y, (0 < impl_BestCode.cc l0 y ∧ (left (.int .i64 y) && !(Lit.int .i64 y).sameKey (.int .i64 x)) = false) → (0 < impl_BestCode.cc l0 y ∧ left (.int .i64 y) = false) ∨ y = x := fun y hy => by
              by_cases e : y = x
              · exact .inr e
              · refine .inl ⟨hy.1, ?_⟩
                have h1 := hy.2
                rw [hsame, decide_eq_false e] at h1
                simpa using h1
            have hQ : ∀ y, (0 < impl_BestCode.cc l0 y ∧ left (.int .i64 y) = false) → (0 < impl_BestCode.cc l0 y ∧ (left (.int .i64 y) && !(Lit.int .i64 y).sameKey (.int .i64 x)) = false) := fun y hy => ⟨hy.1, by rw [hy.2]; rfl⟩
            have hXx : 0 < impl_BestCode.cc l0 x ∧ (left (.int .i64 x) && !(Lit.int .i64 x).sameKey (.int .i64 x)) = false := ⟨h0, by rw [hsame, decide_eq_true rfl]; simp⟩
            have HL1 := Aside0.mk (show ∀ y : Int, (left (.int .i64 y) && !(Lit.int .i64 y).sameKey (.int .i64 x)) = true → 0 < impl_BestCode.cc l0 y from fun y hy => HLf.out y (by simp only [Bool.and_eq_true] at hy; exact hy.1))
            by_cases cond : c > m ∨ (c = m ∧ x < b)
            · have HO1 := Aside0.mk (impl_BestCode.opt_take HO.out hP hXx h0 (by rw [← hc]; exact cond))
              rw [← hc] at HO1
              clear hP hQ hXx hsame HO HLf HR hat hrg1 hlt hg1 hs1 hwx hwc hlx h0 hc hopt
              by_cases c1 : m < c
              · have b1 : decide (m < c) = true := decide_eq_true c1
                have b2 : decide (c > m) = true := decide_eq_true c1
                clear cond
                go_wp2
                go_roundg cnt1
                case measure => exact HLt.out
                case rel => exact ⟨_, x, c, rfl, rfl, HR1, HO1, HL1, HB1⟩
              · have b1 : decide (m < c) = false := decide_eq_false c1
                have b2 : decide (c > m) = false := decide_eq_false c1
                have b3 : c = m := by omega
                have b4 : (c == m) = true := beq_iff_eq.mpr b3
                have b5 : x < b := by omega
                have b6 : decide (x < b) = true := decide_eq_true b5
                clear cond b3
                go_wp2
                go_roundg cnt1
                case measure => exact HLt.out
                case rel => exact ⟨_, x, c, rfl, rfl, HR1, HO1, HL1, HB1⟩
            · have HO1 := Aside0.mk (impl_BestCode.opt_keep HO.out hP hQ h0 (by rw [← hc]; exact cond))
              clear hP hQ hXx hsame HO HLf HR hat hrg1 hlt hg1 hs1 hwx hwc hlx h0 hc hopt
              have c1 : ¬ m < c := by omega
              have b1 : decide (m < c) = false := decide_eq_false c1
              have b2 : decide (c > m) = false := decide_eq_false c1
              by_cases c2 : c = m
              · have b4 : (c == m) = true := beq_iff_eq.mpr c2
                have b5 : ¬ x < b := by omega
                have b6 : decide (x < b) = false := decide_eq_false b5
                clear cond c2
                go_wp2
                go_roundg cnt1
                case measure => exact HLt.out
                case rel => exact ⟨_, b, m, rfl, rfl, HR1, HO1, HL1, HB1⟩
              · have b4 : (c == m) = false := beq_eq_false_iff_ne.mpr c2
                clear cond
                go_wp2
                go_roundg cnt1
                case measure => exact HLt.out
                case rel => exact ⟨_, b, m, rfl, rfl, HR1, HO1, HL1, HB1⟩

/-! ### laws_FnExactBestCode: function 4 -/
def laws_FnExactBestCode.j0 : Nat → List Int → List Int → Bool → Option (Bool)
  | 0, _, _, _ => none
  | k + 1, x0, x6, x40 => if x40 = true then (some false) else ((laws_toInt64S.f k x0).bind fun t137 => ((laws_eqInt64S.f k x6 t137).bind fun t140 => (if t140 = true then (some true) else (some false))))
def laws_FnExactBestCode.f (k : Nat) (l0 : List Int) : Option (Bool) := if (l0.length : Int) > 1048576 then (some true) else ((laws_toInt64S.f k l0).bind fun t125 => ((spec_BestCode.f k t125).bind fun bt128 => ((laws_toInt64S.f k l0).bind fun t131 => ((impl_BestCode.f t131).bind fun bt134 => (if bt134.1 = bt128.1 then (if bt134.2.1 = bt128.2.1 then (laws_FnExactBestCode.j0 k l0 t131 (bt134.2.2 != bt128.2.2)) else (laws_FnExactBestCode.j0 k l0 t131 true)) else (laws_FnExactBestCode.j0 k l0 t131 true))))))
theorem laws_FnExactBestCode.mono_l : ∀ k, (∀ y0 y1 y2, LeO (laws_FnExactBestCode.j0 k y0 y1 y2) (laws_FnExactBestCode.j0 (k + 1) y0 y1 y2))
  | 0 => fun _ _ _ r h => by simp [laws_FnExactBestCode.j0] at h
  | k + 1 => by
    have ih0 := laws_FnExactBestCode.mono_l k
    · intro y0 y1 y2
      unfold laws_FnExactBestCode.j0
      repeat' first
      | (with_reducible exact ih0 _ _ _)
      | (with_reducible exact laws_eqInt64S.mono _ _ _)
      | (with_reducible exact laws_toInt64S.mono _ _)
      | (with_reducible exact spec_BestCode.mono _ _)
      | (with_reducible exact LeO.refl _)
      | (with_reducible exact LeO.none _)
      | (with_reducible refine LeO.ite ?_ ?_)
      | (with_reducible refine LeO.bind ?_ (fun _ => ?_))
      | exact ih0 _ _ _
      | exact laws_eqInt64S.mono _ _ _
      | exact laws_toInt64S.mono _ _
      | exact spec_BestCode.mono _ _
      | exact LeO.none _
      | refine LeO.ite ?_ ?_
      | refine LeO.bind ?_ (fun _ => ?_)
theorem laws_FnExactBestCode.mono : ∀ a0 k, LeO (laws_FnExactBestCode.f k a0) (laws_FnExactBestCode.f (k + 1) a0) := by
  intro a0 k
  have ih0 := laws_FnExactBestCode.mono_l k
  unfold laws_FnExactBestCode.f
  repeat' first
      | (with_reducible exact ih0 _ _ _)
      | (with_reducible exact laws_eqInt64S.mono _ _ _)
      | (with_reducible exact laws_toInt64S.mono _ _)
      | (with_reducible exact spec_BestCode.mono _ _)
      | (with_reducible exact LeO.refl _)
      | (with_reducible exact LeO.none _)
      | (with_reducible refine LeO.ite ?_ ?_)
      | (with_reducible refine LeO.bind ?_ (fun _ => ?_))
      | exact ih0 _ _ _
      | exact laws_eqInt64S.mono _ _ _
      | exact laws_toInt64S.mono _ _
      | exact spec_BestCode.mono _ _
      | exact LeO.none _
      | refine LeO.ite ?_ ?_
      | refine LeO.bind ?_ (fun _ => ?_)
set_option maxHeartbeats 8000000 in
set_option maxRecDepth 100000 in
theorem laws_FnExactBestCode.calls (k : Nat) (A0 : Option Addr) (c0 : Nat) (l0 : List Int) (r : Bool) (w : World) (hr0 : Kd.C (Kd.int .i64) w A0 l0.length l0) (hc0 : l0.length ≤ c0) (hr_ : Aside0 (r = true)) (h : laws_FnExactBestCode.f k l0 = some r) :
    Calls Try.prog 4 #[.slice A0 l0.length c0] w fun e w' => e = .returned (.bool r) ∧ Below w.heap.size w w' := by
  have HR0 := Aside0.mk hr0
  have HC0 := Aside0.mk hc0
  clear hr0 hc0
  have HB := Aside0.mk (Below.refl w.heap.size w)
  have H : (if (l0.length : Int) > 1048576 then (some true) else ((laws_toInt64S.f k l0).bind fun t125 => ((spec_BestCode.f k t125).bind fun bt128 => ((laws_toInt64S.f k l0).bind fun t131 => ((impl_BestCode.f t131).bind fun bt134 => (if bt134.1 = bt128.1 then (if bt134.2.1 = bt128.2.1 then (laws_FnExactBestCode.j0 k l0 t131 (bt134.2.2 != bt128.2.2)) else (laws_FnExactBestCode.j0 k l0 t131 true)) else (laws_FnExactBestCode.j0 k l0 t131 true))))))) = some r := h
  clear h
  by_cases c2 : (l0.length : Int) > 1048576
  · rw [if_pos c2] at H
    have c2b0 : decide (1048576 < (l0.length : Int)) = true := decide_eq_true c2
    have c2b1 : decide (1048576 < l0.length) = true := decide_eq_true (by omega)
    clear c2
    obtain rfl := Option.some.inj H
    go_enter Try.func4, Try.ntmps4
    go_wp2
    go_ret
    exact ⟨by first | rfl | (simp [errW_none, errW_some] <;> rfl) | (simp [*, errW_none, errW_some] <;> rfl), by repeat (first | (with_reducible first | exact HB.out | apply below_alloc | apply pw_below_drewN | apply below_drew1) | exact HB.out)⟩
  · rw [if_neg c2] at H
    have c2b0 : decide (1048576 < (l0.length : Int)) = false := decide_eq_false c2
    have c2b1 : decide (1048576 < l0.length) = false := decide_eq_false (by omega)
    clear c2
    replace H := Option.bind_eq_some_iff.mp H
    obtain ⟨t125, A30, H⟩ := H
    replace H : ((spec_BestCode.f k t125).bind fun bt128 => ((laws_toInt64S.f k l0).bind fun t131 => ((impl_BestCode.f t131).bind fun bt134 => (if bt134.1 = bt128.1 then (if bt134.2.1 = bt128.2.1 then (laws_FnExactBestCode.j0 k l0 t131 (bt134.2.2 != bt128.2.2)) else (laws_FnExactBestCode.j0 k l0 t131 true)) else (laws_FnExactBestCode.j0 k l0 t131 true))))) = some r := H
    have A3 := Aside0.mk A30
    clear A30
    replace H := Option.bind_eq_some_iff.mp H
    obtain ⟨⟨t128, t129, t130⟩, A40, H⟩ := H
    replace H : ((laws_toInt64S.f k l0).bind fun t131 => ((impl_BestCode.f t131).bind fun bt134 => (if bt134.1 = t128 then (if bt134.2.1 = t129 then (laws_FnExactBestCode.j0 k l0 t131 (bt134.2.2 != t130)) else (laws_FnExactBestCode.j0 k l0 t131 true)) else (laws_FnExactBestCode.j0 k l0 t131 true)))) = some r := H
    have A4 := Aside0.mk A40
    clear A40
    replace H := Option.bind_eq_some_iff.mp H
    obtain ⟨t131, A50, H⟩ := H
    replace H : ((impl_BestCode.f t131).bind fun bt134 => (if bt134.1 = t128 then (if bt134.2.1 = t129 then (laws_FnExactBestCode.j0 k l0 t131 (bt134.2.2 != t130)) else (laws_FnExactBestCode.j0 k l0 t131 true)) else (laws_FnExactBestCode.j0 k l0 t131 true))) = some r := H
    have A5 := Aside0.mk A50
    clear A50
    replace H := Option.bind_eq_some_iff.mp H
    obtain ⟨⟨t134, t135, t136⟩, A60, H⟩ := H
    replace H : (if t134 = t128 then (if t135 = t129 then (laws_FnExactBestCode.j0 k l0 t131 (t136 != t130)) else (laws_FnExactBestCode.j0 k l0 t131 true)) else (laws_FnExactBestCode.j0 k l0 t131 true)) = some r := H
    have A6 := Aside0.mk A60
    clear A60
    have HC7 := Aside0.mk H
    clear H
    go_enter Try.func4, Try.ntmps4
    go_upto_region 6 with (first | ((with_reducible refine gate_callee (f := 8) rfl ?_); refine goesL_ (some 15) rfl rfl Try.func8 (by kernel_rfl) rfl #[.slice A0 l0.length c0] rfl (by (try simp only [List.map_toArray, List.map_cons, List.map_nil]); first | done | rfl | (simp only [List.length_drop, List.length_take]; rfl)) ?_; (with_reducible refine (laws_toInt64S.calls k _ _ l0 t125 _ ?side1 ?side2 A3.out).mono ?_); (case side1 => repeat (first | exact HR0.out | (with_reducible refine Kd.C_alloc ?_ _) | (with_reducible refine Kd.C_drewN ?_ _) | (with_reducible refine Kd.C_drew ?_))); (case side2 => exact HC0.out); rintro e w8 ⟨v126, rfl, ho0, hb⟩; refine ⟨_, rfl, ?_⟩; have n0_ := Aside0.mk (Kd.R_lower ho0 (below_size (by repeat (first | (with_reducible first | exact HB.out | apply below_alloc | apply pw_below_drewN | apply below_drew1) | exact HB.out)))); have n1_ := Aside0.mk (below_step (by repeat (first | (with_reducible first | exact HB.out | apply below_alloc | apply pw_below_drewN | apply below_drew1) | exact HB.out)) hb); clear HB; have HO127 := n0_; have HB := n1_; clear n0_ n1_; (try clear hb); (try clear hb2); (try clear hk); (try clear hi); (try clear ho0); obtain ⟨Ao9, co9, eo9⟩ := Kd.R_slice HO127.out; subst eo9) | ((with_reducible refine gate_callee (f := 11) rfl ?_); refine goesL_ (some 16) rfl rfl Try.func11 (by kernel_rfl) rfl #[.slice Ao9 t125.length co9] rfl (by (try simp only [List.map_toArray, List.map_cons, List.map_nil]); first | done | rfl | (simp only [List.length_drop, List.length_take]; rfl)) ?_; (with_reducible refine (spec_BestCode.calls k _ _ t125 t128 t129 t130 _ ?side1 ?side2 A4.out).mono ?_); (case side1 => repeat (first | exact (Kd.R_reads' HO127.out).2.2 | (with_reducible refine Kd.C_alloc ?_ _) | (with_reducible refine Kd.C_drewN ?_ _) | (with_reducible refine Kd.C_drew ?_))); (case side2 => exact (Kd.R_reads' HO127.out).2.1); rintro e w' ⟨rfl, ⟨nd, rfl⟩⟩; refine ⟨_, rfl, ?_⟩) | ((with_reducible refine gate_callee (f := 8) rfl ?_); refine goesL_ (some 21) rfl rfl Try.func8 (by kernel_rfl) rfl #[.slice A0 l0.length c0] rfl (by (try simp only [List.map_toArray, List.map_cons, List.map_nil]); first | done | rfl | (simp only [List.length_drop, List.length_take]; rfl)) ?_; (with_reducible refine (laws_toInt64S.calls k _ _ l0 t131 _ ?side1 ?side2 A5.out).mono ?_); (case side1 => repeat (first | exact (Kd.C_below HR0.out (by repeat (first | (with_reducible first | exact HB.out | apply below_alloc | apply pw_below_drewN | apply below_drew1) | exact HB.out))) | (with_reducible refine Kd.C_alloc ?_ _) | (with_reducible refine Kd.C_drewN ?_ _) | (with_reducible refine Kd.C_drew ?_))); (case side2 => exact HC0.out); rintro e w10 ⟨v132, rfl, ho0, hb⟩; refine ⟨_, rfl, ?_⟩; have n0_ := Aside0.mk (Kd.R_elder' (by (with_reducible repeat (first | apply Kd.R_alloc | apply Kd.R_drewN | apply Kd.R_drew)); exact HO127.out) (Kd.R_base ho0) hb); have n1_ := Aside0.mk (Kd.R_lower (Kd.R_new' ho0 (Kd.R_lt (by (with_reducible repeat (first | apply Kd.R_alloc | apply Kd.R_drewN | apply Kd.R_drew)); exact HO127.out))) (below_size (by repeat (first | (with_reducible first | exact HB.out | apply below_alloc | apply pw_below_drewN | apply below_drew1) | exact HB.out)))); have n2_ := Aside0.mk (below_step (by repeat (first | (with_reducible first | exact HB.out | apply below_alloc | apply pw_below_drewN | apply below_drew1) | exact HB.out)) hb); clear HO127; clear HB; have HO127 := n0_; have HO133 := n1_; have HB := n2_; clear n0_ n1_ n2_; (try clear hb); (try clear hb2); (try clear hk); (try clear hi); (try clear ho0); obtain ⟨Ao11, co11, eo11⟩ := Kd.R_slice HO133.out; subst eo11) | ((with_reducible refine gate_callee (f := 12) rfl ?_); refine goesL_ (some 24) rfl rfl Try.func12 (by kernel_rfl) rfl #[.slice Ao11 t131.length co11] rfl (by (try simp only [List.map_toArray, List.map_cons, List.map_nil]); first | done | rfl | (simp only [List.length_drop, List.length_take]; rfl)) ?_; (with_reducible refine (impl_BestCode.calls _ _ t131 t134 t135 t136 _ ?side1 ?side2 A6.out).mono ?_); (case side1 => repeat (first | exact (Kd.R_reads' HO133.out).2.2 | (with_reducible refine Kd.C_alloc ?_ _) | (with_reducible refine Kd.C_drewN ?_ _) | (with_reducible refine Kd.C_drew ?_))); (case side2 => exact (Kd.R_reads' HO133.out).2.1); rintro e w12 ⟨rfl, hb⟩; refine ⟨_, rfl, ?_⟩; have n0_ := Aside0.mk (Kd.R_below (by (with_reducible repeat (first | apply Kd.R_alloc | apply Kd.R_drewN | apply Kd.R_drew)); exact HO127.out) hb); have n1_ := Aside0.mk (Kd.R_below (by (with_reducible repeat (first | apply Kd.R_alloc | apply Kd.R_drewN | apply Kd.R_drew)); exact HO133.out) hb); have n2_ := Aside0.mk (below_step (by repeat (first | (with_reducible first | exact HB.out | apply below_alloc | apply pw_below_drewN | apply below_drew1) | exact HB.out)) hb); clear HO127; clear HO133; clear HB; have HO127 := n0_; have HO133 := n1_; have HB := n2_; clear n0_ n1_ n2_; (try clear hb); (try clear hb2); (try clear hk); (try clear hi)))
    (try simp only [Act.put, List.setIfInBounds_toArray, List.set_cons_zero, List.set_cons_succ])
    go_cut [40] (fun v40 wc => ∃ (kq : Nat) (x40_6 : Bool), v40 = .bool x40_6 ∧ Aside0 (laws_FnExactBestCode.j0 kq l0 t131 x40_6 = some r) ∧ Aside0 (kq ≤ k) ∧ Aside0 (Kd.R (Kd.int .i64) 2 wc w.heap.size (fun _ => True) (.slice Ao11 t131.length co11) t131) ∧ Aside0 (Below w.heap.size w wc))
    case first =>
      have H := HC7.out
      clear HC7
      by_cases c13 : t134 = t128
      · rw [if_pos c13] at H
        have c13b0 : (t134 == t128) = true := beq_iff_eq.mpr c13
        have c13b1 : (t134 != t128) = false := bne_eq_false_iff_eq.mpr c13
        clear c13
        (first | rw [c13b0] | (simp only [i64_w, i32_w]; rw [c13b0]) | skip)
        by_cases c14 : t135 = t129
        · rw [if_pos c14] at H
          have c14b0 : (t135 == t129) = true := beq_iff_eq.mpr c14
          have c14b1 : (t135 != t129) = false := bne_eq_false_iff_eq.mpr c14
          clear c14
          have H' := Aside0.mk H
          clear H
          go_wp2
          go_meet
          case rel => exact ⟨_, ((t136 != t130)), (by first | rfl | (simp; done) | (simp [*]; done)), H', ⟨by first | omega | exact Nat.le_refl _⟩, ⟨by (with_reducible repeat (first | apply Kd.R_alloc | apply Kd.R_drewN | apply Kd.R_drew)); exact Kd.R_mono HO133.out (fun _ hk => trivial)⟩, ⟨by repeat (first | (with_reducible first | exact HB.out | apply below_alloc | apply pw_below_drewN | apply below_drew1) | exact HB.out)⟩⟩
        · rw [if_neg c14] at H
          have c14b0 : (t135 == t129) = false := beq_eq_false_iff_ne.mpr c14
          have c14b1 : (t135 != t129) = true := bne_iff_ne.mpr c14
          have H' := Aside0.mk H
          clear H
          go_wp2
          go_meet
          case rel => exact ⟨_, (true), (by first | rfl | (simp; done) | (simp [*]; done)), H', ⟨by first | omega | exact Nat.le_refl _⟩, ⟨by (with_reducible repeat (first | apply Kd.R_alloc | apply Kd.R_drewN | apply Kd.R_drew)); exact Kd.R_mono HO133.out (fun _ hk => trivial)⟩, ⟨by repeat (first | (with_reducible first | exact HB.out | apply below_alloc | apply pw_below_drewN | apply below_drew1) | exact HB.out)⟩⟩
      · rw [if_neg c13] at H
        have c13b0 : (t134 == t128) = false := beq_eq_false_iff_ne.mpr c13
        have c13b1 : (t134 != t128) = true := bne_iff_ne.mpr c13
        (first | rw [c13b0] | (simp only [i64_w, i32_w]; rw [c13b0]) | skip)
        have H' := Aside0.mk H
        clear H
        go_wp2
        go_meet
        case rel => exact ⟨_, (true), (by first | rfl | (simp; done) | (simp [*]; done)), H', ⟨by first | omega | exact Nat.le_refl _⟩, ⟨by (with_reducible repeat (first | apply Kd.R_alloc | apply Kd.R_drewN | apply Kd.R_drew)); exact Kd.R_mono HO133.out (fun _ hk => trivial)⟩, ⟨by repeat (first | (with_reducible first | exact HB.out | apply below_alloc | apply pw_below_drewN | apply below_drew1) | exact HB.out)⟩⟩
    case rest =>
      clear HC7
      try clear c1
      try clear c2
      try clear c2b0
      try clear c2b1
      try clear p2
      try clear c4
      try clear c8
      try clear c11
      try clear c12
      try clear c13
      try clear c13b0
      try clear c13b1
      try clear c14
      try clear c14b0
      try clear c14b1
      obtain ⟨kq, x40_6, rfl, HA, HJ6, HO_6, HB⟩ := hcut
      cases kq with
      | zero => exact absurd HA.out (by simp [laws_FnExactBestCode.j0])
      | succ kj6 =>
        have H := HA.out
        clear HA
        simp only [laws_FnExactBestCode.j0] at H
        by_cases c15 : x40_6 = true
        · subst c15
          have H1 : (some false) = some r := by rw [if_pos rfl] at H; exact H
          clear H
          have H := H1
          clear H1
          exact absurd ((Option.some.inj H).trans hr_.out) (by decide)
        · replace c15 := Bool.eq_false_iff.mpr c15
          subst c15
          have H1 : ((laws_toInt64S.f kj6 l0).bind fun t137 => ((laws_eqInt64S.f kj6 t131 t137).bind fun t140 => (if t140 = true then (some true) else (some false)))) = some r := by rw [if_neg (show ¬ (false = true) by decide)] at H; exact H
          clear H
          have H := H1
          clear H1
          replace H := Option.bind_eq_some_iff.mp H
          obtain ⟨t137, A160, H⟩ := H
          replace H : ((laws_eqInt64S.f kj6 t131 t137).bind fun t140 => (if t140 = true then (some true) else (some false))) = some r := H
          have A16 := Aside0.mk A160
          clear A160
          replace H := Option.bind_eq_some_iff.mp H
          obtain ⟨t140, A170, H⟩ := H
          replace H : (if t140 = true then (some true) else (some false)) = some r := H
          have A17 := Aside0.mk A170
          clear A170
          by_cases c18 : t140 = true
          · subst c18
            have H1 : (some true) = some r := by rw [if_pos rfl] at H; exact H
            clear H
            have H := H1
            clear H1
            obtain rfl := Option.some.inj H
            go_wp2_with (first | ((with_reducible refine gate_callee (f := 8) rfl ?_); refine goesL_ (some 43) rfl rfl Try.func8 (by kernel_rfl) rfl #[.slice A0 l0.length c0] rfl (by (try simp only [List.map_toArray, List.map_cons, List.map_nil]); first | done | rfl | (simp only [List.length_drop, List.length_take]; rfl)) ?_; (with_reducible refine (laws_toInt64S.calls kj6 _ _ l0 t137 _ ?side1 ?side2 A16.out).mono ?_); (case side1 => repeat (first | exact (Kd.C_below HR0.out HB.out) | (with_reducible refine Kd.C_alloc ?_ _) | (with_reducible refine Kd.C_drewN ?_ _) | (with_reducible refine Kd.C_drew ?_))); (case side2 => exact HC0.out); rintro e w19 ⟨v138, rfl, ho0, hb⟩; refine ⟨_, rfl, ?_⟩; have n0_ := Aside0.mk (Kd.R_elder' (by (with_reducible repeat (first | apply Kd.R_alloc | apply Kd.R_drewN | apply Kd.R_drew)); exact HO_6.out) (Kd.R_base ho0) hb); have n1_ := Aside0.mk (Kd.R_lower (Kd.R_new' ho0 (Kd.R_lt (by (with_reducible repeat (first | apply Kd.R_alloc | apply Kd.R_drewN | apply Kd.R_drew)); exact HO_6.out))) (below_size (by repeat (first | (with_reducible first | exact HB.out | apply below_alloc | apply pw_below_drewN | apply below_drew1) | exact HB.out)))); have n2_ := Aside0.mk (below_step (by repeat (first | (with_reducible first | exact HB.out | apply below_alloc | apply pw_below_drewN | apply below_drew1) | exact HB.out)) hb); clear HO_6; clear HB; have HO_6 := n0_; have HO139 := n1_; have HB := n2_; clear n0_ n1_ n2_; (try clear hb); (try clear hb2); (try clear hk); (try clear hi); (try clear ho0); obtain ⟨Ao20, co20, eo20⟩ := Kd.R_slice HO139.out; subst eo20) | ((with_reducible refine gate_callee (f := 10) rfl ?_); refine goesL_ (some 44) rfl rfl Try.func10 (by kernel_rfl) rfl #[.slice Ao11 t131.length co11, .slice Ao20 t137.length co20] rfl (by (try simp only [List.map_toArray, List.map_cons, List.map_nil]); first | done | rfl | (simp only [List.length_drop, List.length_take]; rfl)) ?_; (with_reducible refine (laws_eqInt64S.calls kj6 _ _ t131 _ _ t137 true _ ?side1 ?side2 ?side3 ?side4 A17.out).mono ?_); (case side1 => repeat (first | exact (Kd.R_reads' HO_6.out).2.2 | (with_reducible refine Kd.C_alloc ?_ _) | (with_reducible refine Kd.C_drewN ?_ _) | (with_reducible refine Kd.C_drew ?_))); (case side2 => exact (Kd.R_reads' HO_6.out).2.1); (case side3 => repeat (first | exact (Kd.R_reads' HO139.out).2.2 | (with_reducible refine Kd.C_alloc ?_ _) | (with_reducible refine Kd.C_drewN ?_ _) | (with_reducible refine Kd.C_drew ?_))); (case side4 => exact (Kd.R_reads' HO139.out).2.1); rintro e w' ⟨rfl, ⟨nd, rfl⟩⟩; refine ⟨_, rfl, ?_⟩))
            go_ret
            exact ⟨by first | rfl | (simp [errW_none, errW_some] <;> rfl) | (simp [*, errW_none, errW_some] <;> rfl), by repeat (first | (with_reducible first | exact HB.out | apply below_alloc | apply pw_below_drewN | apply below_drew1) | exact HB.out)⟩
          · replace c18 := Bool.eq_false_iff.mpr c18
            subst c18
            have H1 : (some false) = some r := by rw [if_neg (show ¬ (false = true) by decide)] at H; exact H
            clear H
            have H := H1
            clear H1
            exact absurd ((Option.some.inj H).trans hr_.out) (by decide)

end Go.Proofs.Ytnnglnphkbpemaa.PFnExactBestCode
