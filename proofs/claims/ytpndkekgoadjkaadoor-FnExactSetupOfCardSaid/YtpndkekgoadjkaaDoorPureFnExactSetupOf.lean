/- The program and the reference give the same set-up of a scheme, for every sheet of cells, every cell and every string; what is handed back is the caller's own. -/
import Derived.Test.YtpndkekgoadjkaaDoorSayFnExactSetupOf
namespace Go.Proofs.YtpndkekgoadjkaaDoor.Pure
open Go.RowKit Go.Proofs.YtpndkekgoadjkaaDoor.PFnExactSetupOf Go.Proofs.YtpndkekgoadjkaaDoorW.PrintWords Go.Proofs.YtpndkekgoadjkaaDoorW.PrintLast
set_option linter.unusedVariables false
set_option linter.unusedSimpArgs false
-- BEGIN
/-- A proposition as a bool. -/
noncomputable def B (p : Prop) : Bool := @decide p (Classical.propDecidable p)
theorem B_iff {p : Prop} : B p = true ↔ p := by unfold B; exact @decide_eq_true_iff p (Classical.propDecidable p)
theorem B_true {p : Prop} (h : p) : B p = true := B_iff.2 h
theorem B_false {p : Prop} (h : ¬ p) : B p = false := by cases e : B p with | false => rfl | true => exact absurd (B_iff.1 e) h
theorem B_congr {p q : Prop} (h : p ↔ q) : B p = B q := by rw [propext h]
theorem B_dec (p : Prop) [Decidable p] : B p = decide p := by by_cases h : p <;> simp [h, B_true, B_false]
theorem B_and (p q : Prop) : (B p && B q) = B (p ∧ q) := by
  by_cases hp : p <;> by_cases hq : q <;> simp [B_true, B_false, hp, hq]
theorem B_not (p : Prop) : (!B p) = B (¬ p) := by by_cases hp : p <;> simp [B_true, B_false, hp]
theorem evSucc {α : Type} {g : Nat → Option α} {r : α} (h : Ev (fun k => g (k + 1)) r) : Ev g r := Ev.step (fun _ => rfl) h
theorem evNow {α : Type} {g : Nat → Option α} {r : α} (h : ∀ k, g k = some r) : Ev g r := ⟨0, fun k _ => h k⟩
theorem evCount {σ α : Type} (F : Nat → σ → Int → Option α) (i0 n : Nat) (S : Nat → σ) (r : α)
    (hstep : ∀ i, i0 ≤ i → i < n → Ev (fun k => F k (S (i + 1)) ((i + 1 : Nat) : Int)) r → Ev (fun k => F k (S i) (i : Int)) r) (hend : Ev (fun k => F k (S n) (n : Int)) r) (hle : i0 ≤ n) : Ev (fun k => F k (S i0) (i0 : Int)) r := by
  have key : ∀ d i, i0 ≤ i → i + d = n → Ev (fun k => F k (S i) (i : Int)) r := by
    intro d
    induction d with
    | zero =>
      intro i _ hi
      have h0 : i = n := by omega
      subst h0
      exact hend
    | succ d ih => intro i h0 hi; exact hstep i h0 (by omega) (ih (i + 1) (by omega) (by omega))
  exact key (n - i0) i0 (Nat.le_refl _) (by omega)
/-- A loop that leaves at the first place where G fails. -/
theorem evAll (F : Nat → Int → Option Bool) (i0 n : Nat) (G : Nat → Prop)
    (hstep : ∀ i, i0 ≤ i → i < n → G i → ∀ r, Ev (fun k => F k ((i + 1 : Nat) : Int)) r → Ev (fun k => F k (i : Int)) r) (hbad : ∀ i, i0 ≤ i → i < n → ¬ G i → Ev (fun k => F k (i : Int)) false) (e : Bool) (hend : Ev (fun k => F k (n : Int)) e) (hle : i0 ≤ n) :
    Ev (fun k => F k (i0 : Int)) (B (∀ j, i0 ≤ j → j < n → G j) && e) := by
  have key : ∀ d i, i0 ≤ i → i + d = n → Ev (fun k => F k (i : Int)) (B (∀ j, i ≤ j → j < n → G j) && e) := by
    intro d
    induction d with
    | zero =>
      intro i _ hi
      have h0 : i = n := by omega
      subst h0
      rw [B_true (fun j h1 h2 => absurd h2 (by omega)), Bool.true_and]
      exact hend
    | succ d ih =>
      intro i h0 hi
      by_cases hg : G i
      · have h1 : B (∀ j, i ≤ j → j < n → G j) = B (∀ j, i + 1 ≤ j → j < n → G j) := B_congr ⟨fun h j a b => h j (by omega) b, fun h j a b => by
          by_cases e : j = i
          · subst e; exact hg
          · exact h j (by omega) b⟩
        rw [h1]
        exact hstep i h0 (by omega) hg _ (ih (i + 1) (by omega) (by omega))
      · rw [B_false (fun h => hg (h i (Nat.le_refl _) (by omega))), Bool.false_and]
        exact hbad i h0 (by omega) hg
  exact key (n - i0) i0 (Nat.le_refl _) (by omega)
theorem wrapNat {i : Nat} (h : i < 4611686018427387904) : wrap64 ((i : Int) + 1) = ((i + 1 : Nat) : Int) := by
  unfold wrap64; omega
theorem wrapPred {i : Nat} (h0 : 1 ≤ i) (h : i < 4611686018427387904) : wrap64 ((i : Int) - 1) = ((i - 1 : Nat) : Int) := by
  unfold wrap64; omega
theorem rdN (xs : List Int) (i : Nat) (h : i < xs.length) : rd xs (i : Int) = xs[i] := by
  simp [rd, List.getD_eq_getElem?_getD, List.getElem?_eq_getElem h]
theorem fillStep {α : Type} (xs : List α) (z : α) (i : Nat) (h : i < xs.length) : (xs.take i ++ List.replicate (xs.length - i) z).set i xs[i] = xs.take (i + 1) ++ List.replicate (xs.length - (i + 1)) z := by
  have h1 : xs.length - i = (xs.length - (i + 1)) + 1 := by omega
  rw [h1, List.replicate_succ, List.set_append_right _ _ (by rw [List.length_take]; omega)]
  rw [List.length_take, Nat.min_eq_left (by omega), Nat.sub_self, List.set_cons_zero, List.take_succ_eq_append_getElem h, List.append_assoc]
  rfl
theorem fillLen {α : Type} (xs : List α) (z : α) (i : Nat) (h : i ≤ xs.length) : (xs.take i ++ List.replicate (xs.length - i) z).length = xs.length := by
  simp; omega

theorem ba_len (s : ByteArray) : s.data.toList.length = s.size := Array.length_toList
theorem ba_loop (s : ByteArray) : ∀ (d i : Nat) (r : List UInt8), i + d = s.size → ByteArray.toList.loop s i r = r.reverse ++ s.data.toList.drop i := by
  have hl := ba_len s
  intro d
  induction d with
  | zero =>
    intro i r h
    unfold ByteArray.toList.loop
    rw [if_neg (by omega), List.drop_eq_nil_of_le (by omega), List.append_nil]
  | succ d ih =>
    intro i r h
    unfold ByteArray.toList.loop
    have e : s.get! i = s.data.toList[i]'(by omega) := by
      obtain ⟨a⟩ := s
      have hi : i < a.size := by have : (ByteArray.mk a).size = a.size := rfl; omega
      show a[i]! = _
      rw [getElem!_pos a i hi]
      rfl
    rw [if_pos (by omega), ih (i + 1) _ (by omega), List.drop_eq_getElem_cons (show i < s.data.toList.length by omega), e, List.reverse_cons, List.append_assoc]
    rfl
theorem ba_toList (s : ByteArray) : s.toList = s.data.toList := by
  unfold ByteArray.toList
  rw [ba_loop s s.size 0 [] (by omega)]
  rfl
theorem bt_rd (s : ByteArray) (i : Nat) (h : i < s.size) : bt s (i : Int) = rd (bytesOf s) (i : Int) := by
  have hl := ba_len s
  unfold bt rd bytesOf
  rw [Int.toNat_natCast, dif_pos h, List.getD_eq_getElem?_getD, List.getElem?_map, List.getElem?_eq_getElem (by omega)]
  rfl
theorem bytes_len (s : ByteArray) : (bytesOf s).length = s.size := by unfold bytesOf; rw [List.length_map, ba_len]
theorem bytes_in (s : ByteArray) : ∀ x ∈ bytesOf s, 0 ≤ x ∧ x ≤ 255 := by
  intro x hx
  unfold bytesOf at hx
  obtain ⟨b, _, rfl⟩ := List.mem_map.1 hx
  have := b.toNat_lt
  omega
theorem count_bytes (l : List UInt8) (b : UInt8) : l.count b = (l.map fun c => (c.toNat : Int)).count ((b.toNat : Nat) : Int) := by
  induction l with
  | nil => rfl
  | cons c l ih =>
    rw [List.map_cons, List.count_cons, List.count_cons, ih]
    by_cases e : c = b
    · subst e; simp
    · have : ¬ c.toNat = b.toNat := fun g => e (UInt8.toNat_inj.1 g)
      rw [beq_eq_false_iff_ne.mpr e, beq_eq_false_iff_ne.mpr (by omega)]

theorem inS (a b c : Int) : spec_l01In.f a b c = some (decide (b ≤ a ∧ a ≤ c)) := by
  unfold spec_l01In.f
  by_cases h : b ≤ a <;> simp [h]

theorem inI (a b c : Int) : impl_inRange.f a b c = some (decide (b ≤ a ∧ a ≤ c)) := by
  unfold impl_inRange.f
  by_cases h : b ≤ a <;> simp [h]

theorem wrapIn {x : Int} (h0 : -9223372036854775808 ≤ x) (h1 : x ≤ 9223372036854775807) : wrap64 x = x := by
  unfold wrap64; omega

theorem dropWhile_nil {p : UInt8 → Bool} : ∀ l : List UInt8, l.dropWhile p = [] ↔ ∀ x ∈ l, p x = true
  | [] => by simp
  | x :: l => by
    rw [List.dropWhile_cons]
    by_cases c : p x = true
    · rw [if_pos c, dropWhile_nil l]
      simp [c]
    · rw [if_neg c]
      simp [c]
theorem dropWhile_head {p : UInt8 → Bool} : ∀ l : List UInt8, ∀ x t, l.dropWhile p = x :: t → p x = false
  | [], _, _, h => by simp at h
  | y :: l, x, t, h => by
    rw [List.dropWhile_cons] at h
    by_cases c : p y = true
    · rw [if_pos c] at h; exact dropWhile_head l x t h
    · rw [if_neg c] at h
      injection h with h1 _
      subst h1
      simpa using c
theorem trim_nil (l cs : List UInt8) : Go.Lib.trimS l cs = [] ↔ ∀ x ∈ l, cs.contains x = true := by
  unfold Go.Lib.trimS Go.Lib.trimLeftS Go.Lib.trimRightS
  rw [dropWhile_nil]
  constructor
  · intro h
    cases e : l.reverse.dropWhile (cs.contains ·) with
    | nil =>
      rw [dropWhile_nil] at e
      exact fun x hx => e x (List.mem_reverse.2 hx)
    | cons x t =>
      have h1 := dropWhile_head _ _ _ e
      rw [e] at h
      have h2 := h x (by simp)
      rw [h1] at h2
      cases h2
  · intro h x hx
    exact h x (List.mem_reverse.1 ((List.dropWhile_sublist _).subset (List.mem_reverse.1 hx)))
def sideB (n : Int) : Bool := decide (n = 1 ∨ n = 2 ∨ n = 4 ∨ n = 8)
def pw (n : Int) : Int := if n = 1 then 0 else if n = 2 then 1 else if n = 4 then 2 else if n = 8 then 3 else 0
def alongs (l : List Int) : Nat := l.count 76 + l.count 82
def Letter (x : Int) : Prop := x = 76 ∨ x = 82 ∨ x = 84 ∨ x = 66
instance (x : Int) : Decidable (Letter x) := by unfold Letter; infer_instance
def schemeB (w h : Int) (l : List Int) : Bool := (sideB w && sideB h) && (decide (∀ x ∈ l, Letter x) && (decide ((alongs l : Int) = pw w) && decide (((l.length - alongs l : Nat) : Int) = pw h)))
theorem powerS (n : Int) : spec_l04Power.f n = some (pw n, sideB n) := by
  unfold spec_l04Power.f pw sideB
  by_cases h1 : n = 1
  · simp [h1]
  · by_cases h2 : n = 2
    · simp [h2]
    · by_cases h3 : n = 4
      · simp [h3]
      · by_cases h4 : n = 8
        · simp [h4]
        · simp [h1, h2, h3, h4]
theorem sideI (n : Int) : impl_isSide.f n = some (sideB n) := by
  unfold impl_isSide.f sideB
  by_cases h1 : n = 1
  · simp [h1]
  · by_cases h2 : n = 2
    · simp [h2]
    · by_cases h3 : n = 4
      · simp [h3]
      · simp only [h1, h2, h3, if_false, false_or]
        by_cases h4 : n = 8 <;> simp [h4]
theorem sheetI (w h : Int) : impl_isSheet.f w h = some (sideB w && sideB h) := by
  unfold impl_isSheet.f
  simp only [sideI, Option.bind_some]
  cases sideB w <;> simp
theorem sheetS (w h : Int) : spec_l04Sheet.f w h = some (sideB w && sideB h) := by
  unfold spec_l04Sheet.f
  simp only [powerS, Option.bind_some]
  cases sideB w <;> simp
theorem halvI (n : Int) (h : sideB n = true) : Ev (fun k => impl_halvings.f k n) (pw n) := by
  unfold sideB at h
  have t2 : wrap64 (Int.tdiv 2 2) = 1 := by rw [show Int.tdiv 2 2 = 1 from rfl]; exact wrapIn (by decide) (by decide)
  have t4 : wrap64 (Int.tdiv 4 2) = 2 := by rw [show Int.tdiv 4 2 = 2 from rfl]; exact wrapIn (by decide) (by decide)
  have t8 : wrap64 (Int.tdiv 8 2) = 4 := by rw [show Int.tdiv 8 2 = 4 from rfl]; exact wrapIn (by decide) (by decide)
  have w0 : wrap64 (0 + 1) = 1 := wrapIn (by decide) (by decide)
  have w1 : wrap64 (1 + 1) = 2 := wrapIn (by decide) (by decide)
  have w2 : wrap64 (2 + 1) = 3 := wrapIn (by decide) (by decide)
  have e1 : ∀ c, Ev (fun k => impl_halvings.l0 k 1 c) c := fun c => by
    refine evSucc ?_
    simp only [impl_halvings.l0, show ¬ ((1 : Int) > 1) by decide, if_false]
    exact Ev.now _
  have e2 : ∀ c, Ev (fun k => impl_halvings.l0 k 2 c) (wrap64 (c + 1)) := fun c => by
    refine evSucc ?_
    simp only [impl_halvings.l0, show ((2 : Int) > 1) by decide, if_true, t2]
    exact e1 _
  have e4 : ∀ c, Ev (fun k => impl_halvings.l0 k 4 c) (wrap64 (wrap64 (c + 1) + 1)) := fun c => by
    refine evSucc ?_
    simp only [impl_halvings.l0, show ((4 : Int) > 1) by decide, if_true, t4]
    exact e2 _
  have e8 : ∀ c, Ev (fun k => impl_halvings.l0 k 8 c) (wrap64 (wrap64 (wrap64 (c + 1) + 1) + 1)) := fun c => by
    refine evSucc ?_
    simp only [impl_halvings.l0, show ((8 : Int) > 1) by decide, if_true, t8]
    exact e4 _
  have f2 := e2 0
  have f4 := e4 0
  have f8 := e8 0
  rw [w0] at f2 f4 f8
  rw [w1] at f4 f8
  rw [w2] at f8
  rcases of_decide_eq_true h with rfl | rfl | rfl | rfl
  · exact e1 0
  · exact f2
  · exact f4
  · exact f8
theorem alongs_le (l : List Int) : alongs l ≤ l.length := by
  unfold alongs
  induction l with
  | nil => simp
  | cons x l ih =>
    rw [List.count_cons, List.count_cons, List.length_cons]
    by_cases h1 : x = 76
    · subst h1; simp; omega
    · by_cases h2 : x = 82
      · subst h2; simp; omega
      · simp [h1, h2]; omega
theorem alongs_cons (x : Int) (l : List Int) : alongs (x :: l) = alongs l + (if x = 76 ∨ x = 82 then 1 else 0) := by
  unfold alongs
  rw [List.count_cons, List.count_cons]
  by_cases h1 : x = 76
  · subst h1; simp; omega
  · by_cases h2 : x = 82
    · subst h2; simp; omega
    · simp [h1, h2]
def restB (o : Bool) (l : List Int) (a b : Int) : Bool := o && (decide (∀ x ∈ l, Letter x) && (decide ((alongs l : Int) = a) && decide (((l.length - alongs l : Nat) : Int) = b)))
theorem letters_cons (x : Int) (l : List Int) : decide (∀ y ∈ x :: l, Letter y) = (decide (Letter x) && decide (∀ y ∈ l, Letter y)) := by
  rw [← Bool.decide_and]
  exact decide_eq_decide.2 (by simp)
theorem rest_along (o : Bool) (x : Int) (l : List Int) (a b : Int) (h : x = 76 ∨ x = 82) : restB o (x :: l) a b = restB o l (a - 1) b := by
  unfold restB
  rw [letters_cons, alongs_cons, if_pos h, decide_eq_true (show Letter x by unfold Letter; omega), Bool.true_and, List.length_cons]
  have h1 : decide (((alongs l + 1 : Nat) : Int) = a) = decide ((alongs l : Int) = a - 1) := decide_eq_decide.2 (by omega)
  rw [h1, Nat.add_sub_add_right]
theorem rest_cross (o : Bool) (x : Int) (l : List Int) (a b : Int) (h : x = 84 ∨ x = 66) : restB o (x :: l) a b = restB o l a (b - 1) := by
  have hle := alongs_le l
  unfold restB
  rw [letters_cons, alongs_cons, if_neg (by omega), decide_eq_true (show Letter x by unfold Letter; omega), Bool.true_and, List.length_cons, Nat.add_zero]
  have h1 : decide (((l.length + 1 - alongs l : Nat) : Int) = b) = decide (((l.length - alongs l : Nat) : Int) = b - 1) := decide_eq_decide.2 (by omega)
  rw [h1]
theorem rest_bad (o : Bool) (x : Int) (l : List Int) (a b : Int) (h : ¬ Letter x) : restB o (x :: l) a b = false := by
  unfold restB
  rw [letters_cons, decide_eq_false h]
  simp
theorem rest_nil (one two : Bool) (a b : Int) : restB (one && two) [] a b = (if one = true then (if two = true then (if a = 0 then (b == 0) else false) else false) else false) := by
  unfold restB
  have h1 : alongs [] = 0 := rfl
  rw [h1]
  cases one <;> cases two <;> simp
  by_cases ha : a = 0
  · subst ha
    simp
    by_cases hb : b = 0
    · subst hb; rfl
    · rw [decide_eq_false (fun h => hb h.symm), beq_eq_false_iff_ne.mpr hb]
  · rw [decide_eq_false (fun h => ha h.symm), decide_eq_false ha]; rfl
/-- The reference's test of a scheme, from a letter on. -/
theorem schS_l0 (s : ByteArray) (hs : s.size ≤ 1048576) (one two : Bool) : ∀ (d i : Nat) (a b : Int), i + d = s.size → -2000000 + (d : Int) ≤ a → a ≤ 10 → -2000000 + (d : Int) ≤ b → b ≤ 10 →
    Ev (fun k => spec_IsScheme.l0 k s a one b two (i : Int)) (restB (one && two) ((bytesOf s).drop i) a b) := by
  have hl := bytes_len s
  intro d
  induction d with
  | zero =>
    intro i a b hi _ _ _ _
    refine evSucc ?_
    rw [List.drop_eq_nil_of_le (show (bytesOf s).length ≤ i by omega), rest_nil]
    simp only [spec_IsScheme.l0, show ¬ ((i : Int) < (s.size : Int)) by omega, if_false]
    cases one <;> cases two <;> simp only [Bool.false_eq_true, if_false, if_true] <;> (try exact Ev.now _)
    by_cases ha : a = 0
    · simp only [ha, if_true]; exact Ev.now _
    · simp only [ha, if_false]; exact Ev.now _
  | succ d ih =>
    intro i a b hi ha1 ha2 hb1 hb2
    have hlt : i < (bytesOf s).length := by omega
    have hx : bt s (i : Int) = (bytesOf s)[i] := by rw [bt_rd s i (by omega), rdN (bytesOf s) i hlt]
    have hT := fun a' b' h1 h2 h3 h4 => ih (i + 1) a' b' (by omega) h1 h2 h3 h4
    rw [List.drop_eq_getElem_cons hlt]
    generalize (bytesOf s).drop (i + 1) = T at hT ⊢
    generalize (bytesOf s)[i] = x at hx ⊢
    have hw := wrapNat (show i < 4611686018427387904 by omega)
    have hwa : wrap64 (a - 1) = a - 1 := wrapIn (by omega) (by omega)
    have hwb : wrap64 (b - 1) = b - 1 := wrapIn (by omega) (by omega)
    have c0 : (i : Int) < (s.size : Int) := by omega
    have c1 : (0 : Int) ≤ (i : Int) := by omega
    refine evSucc ?_
    simp only [spec_IsScheme.l0, c0, c1, if_true, hx]
    by_cases x1 : x = 76
    · simp only [x1, if_true]
      refine evSucc ?_
      rw [rest_along _ _ _ _ _ (.inl rfl)]
      simp only [spec_IsScheme.j1, beq_self_eq_true, if_true, hw, hwa]
      exact hT _ _ (by omega) (by omega) (by omega) (by omega)
    · simp only [x1, if_false]
      refine evSucc ?_
      by_cases x2 : x = 82
      · rw [rest_along _ _ _ _ _ (.inr x2)]
        simp only [spec_IsScheme.j1, x2, beq_self_eq_true, if_true, hw, hwa]
        exact hT _ _ (by omega) (by omega) (by omega) (by omega)
      · have e2 : (x == 82) = false := beq_eq_false_iff_ne.mpr x2
        simp only [spec_IsScheme.j1, e2, Bool.false_eq_true, if_false]
        by_cases x3 : x = 84
        · rw [rest_cross _ _ _ _ _ (.inl x3)]
          simp only [x3, if_true, hw, hwb]
          exact hT _ _ (by omega) (by omega) (by omega) (by omega)
        · simp only [x3, if_false]
          by_cases x4 : x = 66
          · rw [rest_cross _ _ _ _ _ (.inr x4)]
            simp only [x4, if_true, hw, hwb]
            exact hT _ _ (by omega) (by omega) (by omega) (by omega)
          · simp only [x4, if_false]
            rw [rest_bad _ _ _ _ _ (by unfold Letter; omega)]
            exact Ev.now _
theorem pw_in (n : Int) : 0 ≤ pw n ∧ pw n ≤ 3 := by unfold pw; split <;> (try split) <;> (try split) <;> (try split) <;> decide
theorem scheme_rest (w h : Int) (l : List Int) : schemeB w h l = restB (sideB w && sideB h) l (pw w) (pw h) := rfl
theorem schS (w h : Int) (s : ByteArray) (hs : s.size ≤ 1048576) : Ev (fun k => spec_IsScheme.f k w h s) (schemeB w h (bytesOf s)) := by
  unfold spec_IsScheme.f
  simp only [powerS, Option.bind_some]
  have h1 := pw_in w
  have h2 := pw_in h
  have := schS_l0 s hs (sideB w) (sideB h) s.size 0 (pw w) (pw h) (by omega) (by omega) (by omega) (by omega) (by omega)
  rw [scheme_rest]
  simpa using this
theorem countI (s : ByteArray) (b : UInt8) : strings_Count.f s ⟨#[b]⟩ = some (((bytesOf s).count ((b.toNat : Nat) : Int) : Nat) : Int) := by
  show some ((Go.Lib.countByte s.data.toList b : Nat) : Int) = _
  unfold Go.Lib.countByte bytesOf
  rw [count_bytes]
theorem countL (s : ByteArray) : strings_Count.f s ⟨#[76]⟩ = some (((bytesOf s).count 76 : Nat) : Int) := countI s 76
theorem countR (s : ByteArray) : strings_Count.f s ⟨#[82]⟩ = some (((bytesOf s).count 82 : Nat) : Int) := countI s 82
theorem beq_dec (x y z : Int) (h : x = z) : (x == y) = decide (z = y) := by
  subst h
  by_cases c : x = y
  · rw [beq_iff_eq.mpr c, decide_eq_true c]
  · rw [beq_eq_false_iff_ne.mpr c, decide_eq_false c]
theorem sum_alongs (l : List Int) (h : l.length ≤ 1048576) : wrap64 (((l.count 76 : Nat) : Int) + ((l.count 82 : Nat) : Int)) = (alongs l : Int) := by
  have hle := alongs_le l
  have e : ((l.count 76 : Nat) : Int) + ((l.count 82 : Nat) : Int) = (alongs l : Int) := by unfold alongs; omega
  rw [e]
  generalize alongs l = n at hle
  exact wrapIn (by omega) (by omega)
theorem trimI (s : ByteArray) (hs : s.size ≤ 1048576) : ∃ t, strings_Trim.f s ⟨#[76, 82, 84, 66]⟩ = some t ∧ (t.toList != ([] : List UInt8)) = !decide (∀ x ∈ bytesOf s, Letter x) := by
  refine ⟨⟨(Go.Lib.trimS s.data.toList [76, 82, 84, 66]).toArray⟩, ?_, ?_⟩
  · unfold strings_Trim.f
    rw [if_pos rfl, if_pos (by omega)]
  · rw [ba_toList]
    have e : (⟨(Go.Lib.trimS s.data.toList [76, 82, 84, 66]).toArray⟩ : ByteArray).data.toList = Go.Lib.trimS s.data.toList [76, 82, 84, 66] := by simp
    rw [e]
    have h1 := trim_nil s.data.toList [76, 82, 84, 66]
    have h2 : (∀ x ∈ s.data.toList, ([76, 82, 84, 66] : List UInt8).contains x = true) ↔ ∀ x ∈ bytesOf s, Letter x := by
      unfold bytesOf
      constructor
      · intro h x hx
        obtain ⟨b, hb, rfl⟩ := List.mem_map.1 hx
        have := h b hb
        simp at this
        unfold Letter
        rcases this with rfl | rfl | rfl | rfl <;> simp
      · intro h b hb
        have := h _ (List.mem_map.2 ⟨b, hb, rfl⟩)
        unfold Letter at this
        simp
        rcases this with g | g | g | g
        · exact .inl (UInt8.toNat_inj.1 (show b.toNat = 76 by omega))
        · exact .inr (.inl (UInt8.toNat_inj.1 (show b.toNat = 82 by omega)))
        · exact .inr (.inr (.inl (UInt8.toNat_inj.1 (show b.toNat = 84 by omega))))
        · exact .inr (.inr (.inr (UInt8.toNat_inj.1 (show b.toNat = 66 by omega))))
    by_cases c : ∀ x ∈ bytesOf s, Letter x
    · rw [decide_eq_true c, h1.2 (h2.2 c)]; rfl
    · rw [decide_eq_false c]
      have : Go.Lib.trimS s.data.toList [76, 82, 84, 66] ≠ [] := fun g => c (h2.1 (h1.1 g))
      simpa using this
theorem schI (w h : Int) (s : ByteArray) (hs : s.size ≤ 1048576) : Ev (fun k => impl_IsScheme.f k w h s) (schemeB w h (bytesOf s)) := by
  unfold impl_IsScheme.f
  simp only [sheetI, Option.bind_some]
  have hl := bytes_len s
  have hle := alongs_le (bytesOf s)
  by_cases c : (sideB w && sideB h) = true
  · simp only [c, if_true]
    obtain ⟨t, h1, h2⟩ := trimI s hs
    simp only [h1, Option.bind_some, h2]
    refine evSucc ?_
    rw [scheme_rest, c]
    unfold restB
    by_cases d : ∀ x ∈ bytesOf s, Letter x
    · simp only [decide_eq_true d, Bool.not_true, impl_IsScheme.j0, Bool.false_eq_true, if_false, Bool.true_and]
      refine Ev.bind (evNow (fun _ => countL s)) (Ev.bind (evNow (fun _ => countR s)) ?_)
      have cw : sideB w = true := by revert c; cases sideB w <;> simp
      have ch : sideB h = true := by revert c; cases sideB h <;> simp
      have e1 := sum_alongs (bytesOf s) (by rw [hl]; exact hs)
      simp only [e1]
      refine Ev.bind (halvI w cw) ?_
      by_cases q : (alongs (bytesOf s) : Int) = pw w
      · simp only [q, if_true, decide_true, Bool.true_and]
        refine Ev.bind (halvI h ch) ?_
        rw [← q]
        have e3 : wrap64 ((s.size : Int) - (alongs (bytesOf s) : Int)) = (((bytesOf s).length - alongs (bytesOf s) : Nat) : Int) := by
          rw [hl] at hle ⊢
          generalize alongs (bytesOf s) = n at hle
          generalize s.size = z at hs hle
          rw [wrapIn (by omega) (by omega)]
          omega
        have e2 := beq_dec (wrap64 ((s.size : Int) - (alongs (bytesOf s) : Int))) (pw h) _ e3
        rw [e2]
        exact Ev.now _
      · simp only [q, if_false, decide_false, Bool.false_and]
        exact Ev.now _
    · simp only [decide_eq_false d, Bool.not_false, impl_IsScheme.j0, if_true, Bool.false_and, Bool.and_false]
      exact Ev.now _
  · simp only [c, Bool.false_eq_true, if_false]
    refine evSucc ?_
    rw [scheme_rest, Bool.eq_false_iff.2 c]
    simp only [impl_IsScheme.j0, if_true]
    exact Ev.now _
/-! the code of a sheet of cells and a scheme, and the sizes -/
def pieceB (a b : Int) : Bool := decide (1 ≤ a ∧ a ≤ 20000) && decide (1 ≤ b ∧ b ≤ 20000)
theorem pieceS (a b : Int) : spec_IsPiece.f a b = some (pieceB a b) := by
  unfold spec_IsPiece.f pieceB
  simp only [inS, Option.bind_some]
  by_cases c : 1 ≤ a ∧ a ≤ 20000 <;> simp [c]
theorem pieceI (a b : Int) : impl_IsPiece.f a b = some (pieceB a b) := by
  unfold impl_IsPiece.f pieceB
  simp only [inI, Option.bind_some]
  by_cases c : 1 ≤ a ∧ a ≤ 20000 <;> simp [c]
def cellsV (w h a b : Int) (l : List Int) : Int := if (sideB w && sideB h) = true then (if pieceB a b = true then (if schemeB w h l = true then 0 else 2) else 1) else 1
theorem cellsS (w h a b : Int) (s : ByteArray) (hs : s.size ≤ 1048576) : Ev (fun k => spec_l13Code.f k w h a b s) (cellsV w h a b (bytesOf s)) := by
  unfold spec_l13Code.f cellsV
  simp only [sheetS, Option.bind_some, pieceS]
  by_cases c : (sideB w && sideB h) = true
  · simp only [c, if_true]
    refine evSucc ?_
    by_cases d : pieceB a b = true
    · simp only [d, Bool.not_true, spec_l13Code.j0, Bool.false_eq_true, if_false, if_true]
      refine Ev.bind (schS w h s hs) ?_
      split <;> exact Ev.now _
    · simp only [Bool.eq_false_iff.2 d, Bool.not_false, spec_l13Code.j0, Bool.false_eq_true, if_false, if_true]
      exact Ev.now _
  · simp only [c, if_false]
    refine evSucc ?_
    simp only [spec_l13Code.j0, if_true]
    exact Ev.now _
theorem cellsI (w h a b : Int) (s : ByteArray) (hs : s.size ≤ 1048576) : Ev (fun k => impl_checkCells.f k w h a b s) (cellsV w h a b (bytesOf s)) := by
  unfold impl_checkCells.f cellsV
  simp only [sheetI, Option.bind_some, pieceI]
  by_cases c : (sideB w && sideB h) = true
  · simp only [c, if_true]
    by_cases d : pieceB a b = true
    · simp only [d, if_true]
      have e : Ev (fun k => impl_checkScheme.f k w h s) (if schemeB w h (bytesOf s) = true then 0 else 2) := by
        unfold impl_checkScheme.f
        simp only [sheetI, Option.bind_some, c, if_true]
        refine Ev.bind (schI w h s hs) ?_
        split <;> exact Ev.now _
      exact Ev.bind e (Ev.now _)
    · simp only [d, if_false]
      exact Ev.now _
  · simp only [c, if_false]
    exact Ev.now _
theorem cells_ok {w h a b : Int} {l : List Int} (e : cellsV w h a b l = 0) : (1 ≤ w ∧ w ≤ 8) ∧ (1 ≤ h ∧ h ≤ 8) ∧ (1 ≤ a ∧ a ≤ 20000) ∧ (1 ≤ b ∧ b ≤ 20000) ∧ schemeB w h l = true := by
  unfold cellsV at e
  by_cases c : (sideB w && sideB h) = true
  · rw [if_pos c] at e
    by_cases d : pieceB a b = true
    · rw [if_pos d] at e
      by_cases f : schemeB w h l = true
      · simp only [Bool.and_eq_true, sideB, decide_eq_true_eq] at c
        simp only [pieceB, Bool.and_eq_true, decide_eq_true_eq] at d
        exact ⟨by omega, by omega, d.1, d.2, f⟩
      · rw [if_neg f] at e; exact absurd e (by decide)
    · rw [if_neg d] at e; exact absurd e (by decide)
  · rw [if_neg c] at e; exact absurd e (by decide)
def along (x : Int) : Bool := decide (x = 76 ∨ x = 82)
/-- The sides after some folds. -/
def sizeV (W H : Int) (l : List Int) : Nat → Int × Int
  | 0 => (W, H)
  | i + 1 => if along (rd l (i : Int)) = true then (Int.tdiv (sizeV W H l i).1 2, (sizeV W H l i).2) else ((sizeV W H l i).1, Int.tdiv (sizeV W H l i).2 2)
theorem half_in (x : Int) (h : 0 ≤ x ∧ x ≤ 160000) : 0 ≤ Int.tdiv x 2 ∧ Int.tdiv x 2 ≤ 160000 := by
  rw [Int.tdiv_eq_ediv_of_nonneg h.1]
  omega
theorem size_in (W H : Int) (hW : 0 ≤ W ∧ W ≤ 160000) (hH : 0 ≤ H ∧ H ≤ 160000) (l : List Int) : ∀ i : Nat, (0 ≤ (sizeV W H l i).1 ∧ (sizeV W H l i).1 ≤ 160000) ∧ 0 ≤ (sizeV W H l i).2 ∧ (sizeV W H l i).2 ≤ 160000
  | 0 => ⟨hW, hH⟩
  | i + 1 => by
    have ih := size_in W H hW hH l i
    unfold sizeV
    split
    · exact ⟨half_in _ ih.1, ih.2⟩
    · exact ⟨ih.1, half_in _ ih.2⟩
theorem alongS (x : Int) : spec_l13Along.f x = some (along x) := by
  unfold spec_l13Along.f along
  by_cases c : x = 76
  · simp [c]
  · simp only [c, if_false, false_or]
    by_cases d : x = 82 <;> simp [d]
theorem prod_in {w a : Int} (hw : 1 ≤ w ∧ w ≤ 8) (ha : 1 ≤ a ∧ a ≤ 20000) : (0 ≤ w * a ∧ w * a ≤ 160000) ∧ wrap64 (w * a) = w * a := by
  have h1 : w * a ≤ 8 * 20000 := Int.mul_le_mul hw.2 ha.2 (by omega) (by omega)
  have h2 : 0 ≤ w * a := Int.mul_nonneg (by omega) (by omega)
  exact ⟨⟨h2, by omega⟩, wrapIn (by omega) (by omega)⟩
theorem sizeS (w h a b : Int) (s : ByteArray) (hw : 1 ≤ w ∧ w ≤ 8) (hh : 1 ≤ h ∧ h ≤ 8) (ha : 1 ≤ a ∧ a ≤ 20000) (hb : 1 ≤ b ∧ b ≤ 20000) (hs : s.size ≤ 1048576) (m : Nat) (hm : m ≤ s.size) :
    Ev (fun k => spec_l13Size.f k w h a b s (m : Int)) (sizeV (w * a) (h * b) (bytesOf s) m) := by
  unfold spec_l13Size.f
  have hW := prod_in hw ha
  have hH := prod_in hh hb
  rw [hW.2, hH.2]
  refine evCount (fun k (p : Int × Int) i => spec_l13Size.l0 k s (m : Int) i p.1 p.2) 0 m (sizeV (w * a) (h * b) (bytesOf s)) _ ?_ ?_ (Nat.zero_le _)
  · intro i _ hi hr
    have hin := size_in _ _ hW.1 hH.1 (bytesOf s) i
    have h1 := half_in _ hin.1
    have h2 := half_in _ hin.2
    refine evSucc ?_
    simp only [spec_l13Size.l0, show (i : Int) < (m : Int) by omega, show (0 : Int) ≤ (i : Int) by omega, show (i : Int) < (s.size : Int) by omega, if_true, bt_rd s i (by omega), alongS, Option.bind_some, wrapNat (show i < 4611686018427387904 by omega)]
    rw [wrapIn (x := Int.tdiv (sizeV (w * a) (h * b) (bytesOf s) i).1 2) (by omega) (by omega), wrapIn (x := Int.tdiv (sizeV (w * a) (h * b) (bytesOf s) i).2 2) (by omega) (by omega)]
    simp only [sizeV] at hr
    by_cases c : along (rd (bytesOf s) (i : Int)) = true
    · simp only [c, if_true] at hr ⊢; exact hr
    · simp only [c, if_false, Bool.false_eq_true] at hr ⊢; exact hr
  · refine evSucc ?_
    simp only [spec_l13Size.l0, Int.lt_irrefl, if_false]
    exact Ev.now _
def unitV (W H : Int) (l : List Int) (i : Nat) : S56 := ⟨along (rd l (i : Int)), if along (rd l (i : Int)) = true then (sizeV W H l (i + 1)).1 else (sizeV W H l (i + 1)).2, decide (rd l (i : Int) = 76 ∨ rd l (i : Int) = 84)⟩
def unitsV (W H : Int) (l : List Int) (n : Nat) : List S56 := (List.range n).map (unitV W H l)
def sizesV (W H : Int) (l : List Int) (n : Nat) : List S24 := (List.range (n + 1)).map fun i => ⟨(sizeV W H l i).1, (sizeV W H l i).2⟩
theorem units_succ (W H : Int) (l : List Int) (n : Nat) : unitsV W H l (n + 1) = unitsV W H l n ++ [unitV W H l n] := by simp [unitsV, List.range_succ]
theorem sizes_succ (W H : Int) (l : List Int) (n : Nat) : sizesV W H l (n + 1) = sizesV W H l n ++ [⟨(sizeV W H l (n + 1)).1, (sizeV W H l (n + 1)).2⟩] := by simp [sizesV, List.range_succ]
theorem setupI (w h a b : Int) (s : ByteArray) (hw : 1 ≤ w ∧ w ≤ 8) (hh : 1 ≤ h ∧ h ≤ 8) (ha : 1 ≤ a ∧ a ≤ 20000) (hb : 1 ≤ b ∧ b ≤ 20000) (hs : s.size ≤ 1048576) :
    Ev (fun k => impl_setupOf.f k w h a b s) (unitsV (w * a) (h * b) (bytesOf s) s.size, sizesV (w * a) (h * b) (bytesOf s) s.size) := by
  unfold impl_setupOf.f
  have hW := prod_in hw ha
  have hH := prod_in hh hb
  rw [hW.2, hH.2]
  refine evCount (fun k (p : List S56 × List S24 × Int × Int) i => impl_setupOf.l0 k s p.1 p.2.1 (s.size : Int) i p.2.2.1 p.2.2.2) 0 s.size (fun i => (unitsV (w * a) (h * b) (bytesOf s) i, sizesV (w * a) (h * b) (bytesOf s) i, (sizeV (w * a) (h * b) (bytesOf s) i).1, (sizeV (w * a) (h * b) (bytesOf s) i).2)) _ ?_ ?_ (Nat.zero_le _)
  · intro i _ hi hr
    have hin := size_in _ _ hW.1 hH.1 (bytesOf s) i
    have h1 := half_in _ hin.1
    have h2 := half_in _ hin.2
    have l1 : (unitsV (w * a) (h * b) (bytesOf s) i).length = i := by simp [unitsV]
    have l2 : (sizesV (w * a) (h * b) (bytesOf s) i).length = i + 1 := by simp [sizesV]
    refine evSucc ?_
    simp only [impl_setupOf.l0, show (i : Int) < (s.size : Int) by omega, show (0 : Int) ≤ (i : Int) by omega, if_true, bt_rd s i hi, Option.bind_some, wrapNat (show i < 4611686018427387904 by omega), List.length_cons, List.length_nil, l1, l2, show i + (0 + 1) < 5864062014805 by omega, show i + 1 + (0 + 1) < 8796093022208 by omega]
    rw [wrapIn (x := Int.tdiv (sizeV (w * a) (h * b) (bytesOf s) i).1 2) (by omega) (by omega), wrapIn (x := Int.tdiv (sizeV (w * a) (h * b) (bytesOf s) i).2 2) (by omega) (by omega)]
    simp only [units_succ, sizes_succ, unitV, sizeV] at hr
    generalize rd (bytesOf s) (i : Int) = x at hr ⊢
    by_cases c1 : x = 76
    · subst c1
      simp only [if_true]
      exact hr
    · simp only [c1, if_false]
      by_cases c2 : x = 82
      · subst c2
        simp only [if_true]
        exact hr
      · simp only [c2, if_false]
        have e1 : along x = false := by unfold along; exact decide_eq_false (by omega)
        have e3 : (x == 84) = decide (x = 76 ∨ x = 84) := by
          by_cases c3 : x = 84
          · subst c3; rfl
          · rw [beq_eq_false_iff_ne.mpr c3, decide_eq_false (by omega)]
        rw [e1, ← e3] at hr
        exact hr
  · refine evSucc ?_
    simp only [impl_setupOf.l0, Int.lt_irrefl, if_false]
    exact Ev.now _

def setupV (w h a b : Int) (l : List Int) : List S56 × Int := if cellsV w h a b l = 0 then (unitsV (w * a) (h * b) l l.length, 0) else ([], cellsV w h a b l)
theorem setupRI (w h a b : Int) (s : ByteArray) (hs : s.size ≤ 1048576) : Ev (fun k => impl_SetupOf.f k w h a b s) (setupV w h a b (bytesOf s)) := by
  unfold impl_SetupOf.f setupV
  refine Ev.bind (cellsI w h a b s hs) ?_
  by_cases c : cellsV w h a b (bytesOf s) = 0
  · obtain ⟨h1, h2, h3, h4, _⟩ := cells_ok c
    simp only [c, if_true]
    refine Ev.bind (setupI w h a b s h1 h2 h3 h4 hs) ?_
    rw [bytes_len]
    exact Ev.now _
  · simp only [c, if_false]
    exact Ev.now _
theorem setupRS (w h a b : Int) (s : ByteArray) (hs : s.size ≤ 1048576) : Ev (fun k => spec_SetupOf.f k w h a b s) (setupV w h a b (bytesOf s)) := by
  unfold spec_SetupOf.f setupV
  refine Ev.bind (cellsS w h a b s hs) ?_
  by_cases c : cellsV w h a b (bytesOf s) = 0
  · obtain ⟨h1, h2, h3, h4, _⟩ := cells_ok c
    simp only [c, if_true, bytes_len]
    have hW := prod_in h1 h3
    have hH := prod_in h2 h4
    refine evCount (fun k (p : List S56) i => spec_SetupOf.l0 k w h s p i a b) 0 s.size (fun i => unitsV (w * a) (h * b) (bytesOf s) i) _ ?_ ?_ (Nat.zero_le _)
    · intro i _ hi hr
      have hin := size_in _ _ hW.1 hH.1 (bytesOf s) i
      have e1 := half_in _ hin.1
      have e2 := half_in _ hin.2
      have l1 : (unitsV (w * a) (h * b) (bytesOf s) i).length = i := by simp [unitsV]
      refine evSucc ?_
      simp only [spec_SetupOf.l0, show (i : Int) < (s.size : Int) by omega, show (0 : Int) ≤ (i : Int) by omega, if_true, bt_rd s i hi, alongS, Option.bind_some, wrapNat (show i < 4611686018427387904 by omega), l1, show i < 5864062014805 by omega]
      refine Ev.bind (sizeS w h a b s h1 h2 h3 h4 hs i (by omega)) ?_
      rw [wrapIn (x := Int.tdiv (sizeV (w * a) (h * b) (bytesOf s) i).1 2) (by omega) (by omega), wrapIn (x := Int.tdiv (sizeV (w * a) (h * b) (bytesOf s) i).2 2) (by omega) (by omega)]
      simp only [units_succ, unitV, sizeV] at hr
      generalize rd (bytesOf s) (i : Int) = x at hr ⊢
      by_cases c1 : x = 76
      · subst c1
        simp only [if_true, show along 76 = true by decide]
        exact hr
      · simp only [c1, if_false]
        have e3 : (x == 84) = decide (x = 76 ∨ x = 84) := by
          by_cases c3 : x = 84
          · subst c3; rfl
          · rw [beq_eq_false_iff_ne.mpr c3, decide_eq_false (by omega)]
        rw [← e3] at hr
        by_cases c2 : along x = true
        · simp only [c2, if_true] at hr ⊢
          exact hr
        · simp only [c2, if_false, Bool.false_eq_true] at hr ⊢
          rw [Bool.not_eq_true] at c2
          exact hr
    · refine evSucc ?_
      simp only [spec_SetupOf.l0, Int.lt_irrefl, if_false]
      exact Ev.now _
  · simp only [c, if_false]
    exact Ev.now _
theorem setup_len (w h a b : Int) (s : ByteArray) (hs : s.size ≤ 1048576) : (setupV w h a b (bytesOf s)).1.length ≤ 1048576 := by
  unfold setupV
  split
  · simp [unitsV, bytes_len]; omega
  · simp

theorem eqUnitS (l : List S56) (h : l.length ≤ 1048576) : Ev (fun k => laws_eqUnitS.f k l l) true := by
  unfold laws_eqUnitS.f
  simp only [if_true]
  have he : ∀ x : S56, laws_eqUnit.f x.f0 x.f1 x.f2 x.f0 x.f1 x.f2 = some true := by intro x; simp [laws_eqUnit.f]
  have := evAll (fun k i => laws_eqUnitS.l0 k l l i) 0 l.length (fun _ => True) ?_ (fun i _ hi hn => absurd trivial hn) true ?_ (Nat.zero_le _)
  · simpa [B_true] using this
  · intro i _ hi _ r h
    refine evSucc ?_
    have h1 : (i : Int) < (l.length : Int) := by omega
    have h2 : (0 : Int) ≤ (i : Int) := by omega
    simp only [laws_eqUnitS.l0, h1, h2, if_true, he, Option.bind_some, wrapNat (show i < 4611686018427387904 by omega)]
    exact h
  · refine evSucc ?_
    simp only [laws_eqUnitS.l0, Int.lt_irrefl, if_false]
    exact Ev.now _

theorem rd56 (xs : List S56) (i : Nat) (h : i < xs.length) : rd_T56 xs (i : Int) = xs[i] := by
  simp [rd_T56, List.getD_eq_getElem?_getD, List.getElem?_eq_getElem h]
def umark (j : Nat) : S56 := ⟨(Int.tmod (3 * (j : Int) + 1) 3) == 0, 3 * (j : Int) + 2, (Int.tmod (3 * (j : Int) + 3) 3) == 0⟩
def umarks (i : Nat) : List S56 := (List.range i).map umark
theorem umarks_len (i : Nat) : (umarks i).length = i := by simp [umarks]
theorem umarks_get (n i : Nat) (h : i < n) : rd_T56 (umarks n) (i : Int) = umark i := by
  rw [rd56 _ _ (by rw [umarks_len]; exact h)]
  simp [umarks]
theorem set_umarks (l : List S56) (i : Nat) (h : i < l.length) (x : S56) (hx : x = umark i) : (umarks i ++ l.drop i).set i x = umarks (i + 1) ++ l.drop (i + 1) := by
  rw [List.set_append_right _ _ (by rw [umarks_len]; omega), umarks_len, Nat.sub_self, List.drop_eq_getElem_cons h, List.set_cons_zero, hx]
  simp [umarks, List.range_succ]
theorem rd_set56 (l : List S56) (i : Nat) (h : i < l.length) (x : S56) : rd_T56 (l.set i x) (i : Int) = x := by
  rw [rd56 _ _ (by rw [List.length_set]; exact h), List.getElem_set_self]
theorem markUnitS (l : List S56) (h : l.length ≤ 1048576) : Ev (fun k => laws_markUnitS.f k l 1) (3 * (l.length : Int) + 1, umarks l.length) := by
  unfold laws_markUnitS.f
  have := evCount (fun k (s : List S56 × Int) i => laws_markUnitS.l0 k s.1 s.2 i) 0 l.length (fun i => (umarks i ++ l.drop i, 3 * (i : Int) + 1)) (3 * (l.length : Int) + 1, umarks l.length) ?_ ?_ (Nat.zero_le _)
  · simpa [umarks] using this
  · intro i _ hi hr
    refine evSucc ?_
    have hl : (umarks i ++ l.drop i).length = l.length := by simp [umarks_len]; omega
    have hli : i < (umarks i ++ l.drop i).length := by omega
    simp only [laws_markUnitS.l0, hl, show (i : Int) < (l.length : Int) by omega, show (0 : Int) ≤ (i : Int) by omega, if_true, Int.toNat_natCast, Option.bind_some, wrapNat (show i < 4611686018427387904 by omega)]
    rw [rd_set56 _ _ hli, rd_set56 _ _ (by rw [List.length_set]; exact hli), List.set_set, List.set_set]
    rw [wrapIn (x := 3 * (i : Int) + 1 + 1) (by omega) (by omega), wrapIn (x := 3 * (i : Int) + 1 + 1 + 1) (by omega) (by omega), wrapIn (x := 3 * (i : Int) + 1 + 1 + 1 + 1) (by omega) (by omega)]
    rw [set_umarks l i hi _ (by simp only [umark, S56.mk.injEq]; refine ⟨trivial, by omega, ?_⟩; rw [show 3 * (i : Int) + 1 + 1 + 1 = 3 * (i : Int) + 3 by omega])]
    simp only [show 3 * ((i + 1 : Nat) : Int) + 1 = 3 * (i : Int) + 1 + 1 + 1 + 1 by omega] at hr
    exact hr
  · refine evSucc ?_
    have hl : (umarks l.length ++ l.drop l.length).length = l.length := by simp [umarks_len]
    simp only [laws_markUnitS.l0, hl, Int.lt_irrefl, if_false]
    rw [List.drop_length, List.append_nil]
    exact Ev.now _
theorem heldUnitS (n : Nat) (h : n ≤ 1048576) : Ev (fun k => laws_heldUnitS.f k (umarks n) 1) (3 * (n : Int) + 1) := by
  unfold laws_heldUnitS.f
  have := evCount (fun k (s : Int) i => laws_heldUnitS.l0 k (umarks n) s i) 0 n (fun i => 3 * (i : Int) + 1) (3 * (n : Int) + 1) ?_ ?_ (Nat.zero_le _)
  · simpa using this
  · intro i _ hi hr
    refine evSucc ?_
    simp only [laws_heldUnitS.l0, umarks_len, show (i : Int) < (n : Int) by omega, show (0 : Int) ≤ (i : Int) by omega, if_true, umarks_get n i hi, umark, wrapNat (show i < 4611686018427387904 by omega)]
    rw [wrapIn (x := 3 * (i : Int) + 1 + 1) (by omega) (by omega), wrapIn (x := 3 * (i : Int) + 1 + 1 + 1) (by omega) (by omega), wrapIn (x := 3 * (i : Int) + 1 + 1 + 1 + 1) (by omega) (by omega)]
    simp only [show 3 * (i : Int) + 1 + 1 = 3 * (i : Int) + 2 by omega, show 3 * (i : Int) + 2 + 1 = 3 * (i : Int) + 3 by omega, if_true, bne_self_eq_false, Bool.false_eq_true, if_false]
    simp only [show 3 * ((i + 1 : Nat) : Int) + 1 = 3 * (i : Int) + 3 + 1 by omega] at hr
    exact hr
  · refine evSucc ?_
    simp only [laws_heldUnitS.l0, umarks_len, Int.lt_irrefl, if_false]
    exact Ev.now _

theorem FnExactSetupOf : laws_FnExactSetupOf.Pure := by
  intro w h a b s _ _ _ _ _
  refine Ev.rounds ?_
  unfold laws_FnExactSetupOf.f laws_toPiece.f
  by_cases hl : (s.size : Int) > 1048576
  · simp only [hl, if_true]
    exact Ev.now _
  · simp only [hl, if_false, Option.bind_some]
    have h' : s.size ≤ 1048576 := by omega
    have hn := setup_len w h a b s h'
    refine Ev.bind (setupRS w h a b s h') (Ev.bind (setupRI w h a b s h') (Ev.bind (eqUnitS _ hn) ?_))
    simp only [if_true, bne_self_eq_false]
    refine evSucc ?_
    simp only [laws_FnExactSetupOf.j0, Bool.false_eq_true, if_false]
    refine Ev.bind (markUnitS _ hn) (Ev.bind (heldUnitS _ hn) ?_)
    simp only [show ¬ (3 * (((setupV w h a b (bytesOf s)).1.length : Nat) : Int) + 1 < 0) by omega, if_false, if_true, laws_toPiece.f, Option.bind_some]
    refine Ev.bind (setupRI w h a b s h') (Ev.bind (eqUnitS _ hn) ?_)
    simp only [if_true, bne_self_eq_false]
    refine evSucc ?_
    simp only [laws_FnExactSetupOf.j1, Bool.false_eq_true, if_false]
    refine Ev.bind (heldUnitS _ hn) ?_
    simp only [show ¬ (3 * (((setupV w h a b (bytesOf s)).1.length : Nat) : Int) + 1 < 0) by omega, if_false, if_true]
    exact Ev.now _

end Go.Proofs.YtpndkekgoadjkaaDoor.Pure
