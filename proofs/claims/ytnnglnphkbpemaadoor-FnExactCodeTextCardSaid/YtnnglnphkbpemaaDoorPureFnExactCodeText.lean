/- The program and the reference write the same text of a code, for every int64. -/
import Derived.Test.YtnnglnphkbpemaaDoorSayFnExactCodeText
namespace Go.Proofs.YtnnglnphkbpemaaDoor.Pure
open Go.RowKit Go.Proofs.YtnnglnphkbpemaaDoor.PFnExactCodeText Go.Proofs.YtnnglnphkbpemaaDoorW.PrintWords Go.Proofs.YtnnglnphkbpemaaDoorW.PrintLast
set_option linter.unusedVariables false
set_option linter.unusedSimpArgs false
-- BEGIN
/-- A proposition as a bool. -/
noncomputable def B (p : Prop) : Bool := @decide p (Classical.propDecidable p)
theorem B_iff {p : Prop} : B p = true ↔ p := by unfold B; exact @decide_eq_true_iff p (Classical.propDecidable p)
theorem B_true {p : Prop} (h : p) : B p = true := B_iff.2 h
theorem B_false {p : Prop} (h : ¬ p) : B p = false := by cases e : B p with | false => rfl | true => exact absurd (B_iff.1 e) h
theorem B_congr {p q : Prop} (h : p ↔ q) : B p = B q := by rw [propext h]
theorem B_dec (p : Prop) [Decidable p] : B p = decide p := by by_cases h : p <;> simp [h, B_true, B_false]
theorem B_and (p q : Prop) : (B p && B q) = B (p ∧ q) := by
  by_cases hp : p <;> by_cases hq : q <;> simp [B_true, B_false, hp, hq]
theorem B_not (p : Prop) : (!B p) = B (¬ p) := by by_cases hp : p <;> simp [B_true, B_false, hp]
theorem evSucc {α : Type} {g : Nat → Option α} {r : α} (h : Ev (fun k => g (k + 1)) r) : Ev g r := Ev.step (fun _ => rfl) h
theorem evNow {α : Type} {g : Nat → Option α} {r : α} (h : ∀ k, g k = some r) : Ev g r := ⟨0, fun k _ => h k⟩
theorem evCount {σ α : Type} (F : Nat → σ → Int → Option α) (i0 n : Nat) (S : Nat → σ) (r : α)
    (hstep : ∀ i, i0 ≤ i → i < n → Ev (fun k => F k (S (i + 1)) ((i + 1 : Nat) : Int)) r → Ev (fun k => F k (S i) (i : Int)) r) (hend : Ev (fun k => F k (S n) (n : Int)) r) (hle : i0 ≤ n) : Ev (fun k => F k (S i0) (i0 : Int)) r := by
  have key : ∀ d i, i0 ≤ i → i + d = n → Ev (fun k => F k (S i) (i : Int)) r := by
    intro d
    induction d with
    | zero =>
      intro i _ hi
      have h0 : i = n := by omega
      subst h0
      exact hend
    | succ d ih => intro i h0 hi; exact hstep i h0 (by omega) (ih (i + 1) (by omega) (by omega))
  exact key (n - i0) i0 (Nat.le_refl _) (by omega)
/-- A loop that leaves at the first place where G fails. -/
theorem evAll (F : Nat → Int → Option Bool) (i0 n : Nat) (G : Nat → Prop)
    (hstep : ∀ i, i0 ≤ i → i < n → G i → ∀ r, Ev (fun k => F k ((i + 1 : Nat) : Int)) r → Ev (fun k => F k (i : Int)) r) (hbad : ∀ i, i0 ≤ i → i < n → ¬ G i → Ev (fun k => F k (i : Int)) false) (e : Bool) (hend : Ev (fun k => F k (n : Int)) e) (hle : i0 ≤ n) :
    Ev (fun k => F k (i0 : Int)) (B (∀ j, i0 ≤ j → j < n → G j) && e) := by
  have key : ∀ d i, i0 ≤ i → i + d = n → Ev (fun k => F k (i : Int)) (B (∀ j, i ≤ j → j < n → G j) && e) := by
    intro d
    induction d with
    | zero =>
      intro i _ hi
      have h0 : i = n := by omega
      subst h0
      rw [B_true (fun j h1 h2 => absurd h2 (by omega)), Bool.true_and]
      exact hend
    | succ d ih =>
      intro i h0 hi
      by_cases hg : G i
      · have h1 : B (∀ j, i ≤ j → j < n → G j) = B (∀ j, i + 1 ≤ j → j < n → G j) := B_congr ⟨fun h j a b => h j (by omega) b, fun h j a b => by
          by_cases e : j = i
          · subst e; exact hg
          · exact h j (by omega) b⟩
        rw [h1]
        exact hstep i h0 (by omega) hg _ (ih (i + 1) (by omega) (by omega))
      · rw [B_false (fun h => hg (h i (Nat.le_refl _) (by omega))), Bool.false_and]
        exact hbad i h0 (by omega) hg
  exact key (n - i0) i0 (Nat.le_refl _) (by omega)
theorem wrapNat {i : Nat} (h : i < 4611686018427387904) : wrap64 ((i : Int) + 1) = ((i + 1 : Nat) : Int) := by
  unfold wrap64; omega
theorem wrapPred {i : Nat} (h0 : 1 ≤ i) (h : i < 4611686018427387904) : wrap64 ((i : Int) - 1) = ((i - 1 : Nat) : Int) := by
  unfold wrap64; omega
theorem rdN (xs : List Int) (i : Nat) (h : i < xs.length) : rd xs (i : Int) = xs[i] := by
  simp [rd, List.getD_eq_getElem?_getD, List.getElem?_eq_getElem h]
theorem fillStep {α : Type} (xs : List α) (z : α) (i : Nat) (h : i < xs.length) : (xs.take i ++ List.replicate (xs.length - i) z).set i xs[i] = xs.take (i + 1) ++ List.replicate (xs.length - (i + 1)) z := by
  have h1 : xs.length - i = (xs.length - (i + 1)) + 1 := by omega
  rw [h1, List.replicate_succ, List.set_append_right _ _ (by rw [List.length_take]; omega)]
  rw [List.length_take, Nat.min_eq_left (by omega), Nat.sub_self, List.set_cons_zero, List.take_succ_eq_append_getElem h, List.append_assoc]
  rfl
theorem fillLen {α : Type} (xs : List α) (z : α) (i : Nat) (h : i ≤ xs.length) : (xs.take i ++ List.replicate (xs.length - i) z).length = xs.length := by
  simp; omega

theorem wrapIn {x : Int} (h0 : -9223372036854775808 ≤ x) (h1 : x ≤ 9223372036854775807) : wrap64 x = x := by
  unfold wrap64; omega

/-- The seven digits. -/
def dsL (n : Int) : List Int := [n / 1000000 % 10, n / 100000 % 10, n / 10000 % 10, n / 1000 % 10, n / 100 % 10, n / 10 % 10, n % 10]
theorem dsL_in (n : Int) : ∀ x ∈ dsL n, 0 ≤ x ∧ x ≤ 9 := by
  intro x hx
  simp only [dsL, List.mem_cons, List.not_mem_nil, or_false] at hx
  rcases hx with rfl | rfl | rfl | rfl | rfl | rfl | rfl <;> omega

theorem inS (a b c : Int) : spec_l01In.f a b c = some (decide (b ≤ a ∧ a ≤ c)) := by
  unfold spec_l01In.f
  by_cases h : b ≤ a <;> simp [h]

theorem inI (a b c : Int) : impl_inRange.f a b c = some (decide (b ≤ a ∧ a ≤ c)) := by
  unfold impl_inRange.f
  by_cases h : b ≤ a <;> simp [h]

def codeB (a : Int) : Bool := decide ((0 ≤ a ∧ a ≤ 9999999) ∧ (1 ≤ Int.tmod a 100 ∧ Int.tmod a 100 ≤ 97) ∧ Int.tmod a 97 = 1)
theorem codeS (a : Int) : spec_IsCode.f a = some (codeB a) := by
  unfold spec_IsCode.f spec_l15Remainder.f codeB
  simp only [inS, Option.bind_some]
  by_cases h1 : (0 ≤ a ∧ a ≤ 9999999) <;> by_cases h2 : (1 ≤ Int.tmod a 100 ∧ Int.tmod a 100 ≤ 97) <;> by_cases h3 : Int.tmod a 97 = 1 <;> simp [h1, h2, h3]
theorem codeI (a : Int) : impl_IsCode.f a = some (codeB a) := by
  unfold impl_IsCode.f codeB
  simp only [inI, Option.bind_some]
  by_cases h1 : (0 ≤ a ∧ a ≤ 9999999) <;> by_cases h2 : (1 ≤ Int.tmod a 100 ∧ Int.tmod a 100 ≤ 97) <;> by_cases h3 : Int.tmod a 97 = 1 <;> simp [h1, h2, h3]

/-- Digits as bytes. -/
def txtD (l : List Int) : List UInt8 := l.map fun d => UInt8.ofNat (48 + d.toNat)
theorem txtD_len (l : List Int) : (txtD l).length = l.length := by simp [txtD]
theorem sizeOf_mk (l : List UInt8) : (⟨l.toArray⟩ : ByteArray).size = l.length := rfl
theorem app_nil (l : List UInt8) : (⟨l.toArray⟩ : ByteArray) ++ (⟨#[]⟩ : ByteArray) = ⟨l.toArray⟩ := by
  apply ByteArray.ext
  rw [ByteArray.data_append]
  simp
theorem app_one (l : List UInt8) (b : UInt8) : (⟨l.toArray⟩ : ByteArray) ++ (⟨#[b]⟩ : ByteArray) = ⟨(l ++ [b]).toArray⟩ := by
  apply ByteArray.ext
  rw [ByteArray.data_append]
  simp
theorem app_two (l m : List UInt8) : (⟨l.toArray⟩ : ByteArray) ++ (⟨m.toArray⟩ : ByteArray) = ⟨(l ++ m).toArray⟩ := by
  apply ByteArray.ext
  rw [ByteArray.data_append]
  simp
/-- A code's text. -/
def codeTxt (n : Int) : ByteArray := if codeB n = true then ⟨(txtD (dsL n)).toArray⟩ else ⟨#[]⟩
theorem code_in {n : Int} (h : codeB n = true) : 0 ≤ n ∧ n ≤ 9999999 := (of_decide_eq_true h).1
/-- The last j digits. -/
def padD : Nat → Nat → List UInt8
  | 0, _ => []
  | j + 1, u => padD j (u / 10) ++ [UInt8.ofNat (48 + u % 10)]
theorem rep_snoc (b : UInt8) : ∀ c : Nat, Go.Lib.repeatL [b] (c + 1) = Go.Lib.repeatL [b] c ++ [b]
  | 0 => rfl
  | c + 1 => by
    show [b] ++ Go.Lib.repeatL [b] (c + 1) = ([b] ++ Go.Lib.repeatL [b] c) ++ [b]
    rw [rep_snoc b c, List.append_assoc]
theorem padD_zero : ∀ j : Nat, padD j 0 = Go.Lib.repeatL [48] j
  | 0 => rfl
  | j + 1 => by rw [rep_snoc, padD, show 0 / 10 = 0 from rfl, padD_zero j]; rfl
theorem pad_eq : ∀ (j u : Nat), 1 ≤ j → u < 10 ^ j → Go.Lib.repeatL [48] (j - (Go.Lib.decDigits u).length) ++ Go.Lib.decDigits u = padD j u
  | 0, _, h, _ => absurd h (by decide)
  | j + 1, u, _, h => by
    by_cases hu : u < 10
    · rw [Go.Lib.decDigits, dif_pos hu, padD, show u / 10 = 0 by omega, padD_zero, show u % 10 = u by omega]
      rfl
    · have hj : 1 ≤ j := by
        rcases Nat.eq_zero_or_pos j with rfl | h1
        · simp at h; omega
        · exact h1
      have ih := pad_eq j (u / 10) hj (by rw [Nat.pow_succ] at h; omega)
      rw [Go.Lib.decDigits, dif_neg hu, padD, ← ih, List.length_append, List.length_singleton, show j + 1 - ((Go.Lib.decDigits (u / 10)).length + 1) = j - (Go.Lib.decDigits (u / 10)).length by omega, List.append_assoc]
theorem padD7 (u : Nat) : padD 7 u = txtD (dsL (u : Int)) := by
  have e0 : ((u : Int) % 10).toNat = u % 10 := by omega
  have e1 : ((u : Int) / 10 % 10).toNat = u / 10 % 10 := by omega
  have e2 : ((u : Int) / 100 % 10).toNat = u / 10 / 10 % 10 := by omega
  have e3 : ((u : Int) / 1000 % 10).toNat = u / 10 / 10 / 10 % 10 := by omega
  have e4 : ((u : Int) / 10000 % 10).toNat = u / 10 / 10 / 10 / 10 % 10 := by omega
  have e5 : ((u : Int) / 100000 % 10).toNat = u / 10 / 10 / 10 / 10 / 10 % 10 := by omega
  have e6 : ((u : Int) / 1000000 % 10).toNat = u / 10 / 10 / 10 / 10 / 10 / 10 % 10 := by omega
  simp only [padD, txtD, dsL, List.map_cons, List.map_nil, e0, e1, e2, e3, e4, e5, e6, List.nil_append, List.cons_append]
theorem textI (n : Int) : impl_CodeText.f n = some (codeTxt n) := by
  unfold impl_CodeText.f codeTxt
  simp only [codeI, Option.bind_some]
  by_cases c : codeB n = true
  · simp only [c, if_true]
    have h := code_in c
    obtain ⟨u, rfl⟩ := Int.eq_ofNat_of_zero_le h.1
    rw [impl_CodeText.txt, app_two, Go.Lib.itoa_nonneg, pad_eq 7 u (by decide) (by omega), padD7]
  · rw [if_neg c, if_neg c]

theorem digStep (x : Int) (l : List Int) (i : Nat) (r : List Int) (h0 : 0 ≤ x) (h1 : x ≤ 9999999) (hl : l.length = 7) (hi : i < 7) (h : Ev (fun k => spec_l15Digits.l0 k (x / 10) (l.set i (x % 10)) ((i : Int) - 1)) r) : Ev (fun k => spec_l15Digits.l0 k x l (i : Int)) r := by
  refine evSucc ?_
  have e1 : Int.tdiv x 10 = x / 10 := Int.tdiv_eq_ediv_of_nonneg h0
  have e2 : Int.tmod x 10 = x % 10 := Int.tmod_eq_emod_of_nonneg h0
  have e3 : wrap64 (x / 10) = x / 10 := wrapIn (by omega) (by omega)
  have e4 : wrap64 ((i : Int) - 1) = (i : Int) - 1 := wrapIn (by omega) (by omega)
  simp only [spec_l15Digits.l0, show (i : Int) ≥ 0 by omega, show (0 : Int) ≤ (i : Int) by omega, hl, show (i : Int) < ((7 : Nat) : Int) by omega, if_true, e1, e2, e3, e4, Int.toNat_natCast]
  exact h
theorem digitsS (n : Int) (h0 : 0 ≤ n) (h1 : n ≤ 9999999) : Ev (fun k => spec_l15Digits.f k n) (dsL n) := by
  unfold spec_l15Digits.f
  simp only [show (7 : Nat) ≤ 35184372088832 by decide, if_true]
  refine digStep n _ 6 _ h0 h1 (by simp) (by decide) ?_
  refine digStep (n / 10) _ 5 _ (by omega) (by omega) (by simp) (by decide) ?_
  refine digStep (n / 10 / 10) _ 4 _ (by omega) (by omega) (by simp) (by decide) ?_
  refine digStep (n / 10 / 10 / 10) _ 3 _ (by omega) (by omega) (by simp) (by decide) ?_
  refine digStep (n / 10 / 10 / 10 / 10) _ 2 _ (by omega) (by omega) (by simp) (by decide) ?_
  refine digStep (n / 10 / 10 / 10 / 10 / 10) _ 1 _ (by omega) (by omega) (by simp) (by decide) ?_
  refine digStep (n / 10 / 10 / 10 / 10 / 10 / 10) _ 0 _ (by omega) (by omega) (by simp) (by decide) ?_
  refine evSucc ?_
  simp only [spec_l15Digits.l0, show ¬ (((0 : Nat) : Int) - 1 ≥ 0) by decide, if_false]
  have e : (((((((List.replicate 7 (0 : Int)).set 6 (n % 10)).set 5 (n / 10 % 10)).set 4 (n / 10 / 10 % 10)).set 3 (n / 10 / 10 / 10 % 10)).set 2 (n / 10 / 10 / 10 / 10 % 10)).set 1 (n / 10 / 10 / 10 / 10 / 10 % 10)).set 0 (n / 10 / 10 / 10 / 10 / 10 / 10 % 10) = dsL n := by
    show [n / 10 / 10 / 10 / 10 / 10 / 10 % 10, n / 10 / 10 / 10 / 10 / 10 % 10, n / 10 / 10 / 10 / 10 % 10, n / 10 / 10 / 10 % 10, n / 10 / 10 % 10, n / 10 % 10, n % 10] = _
    simp only [dsL, List.cons.injEq, and_true]
    omega
  rw [e]
  exact Ev.now _

theorem numStr (d : Int) (h0 : 0 ≤ d) (h1 : d ≤ 9) : strOfNums [(wrap64 (48 + d)) % 256] = ⟨#[UInt8.ofNat (48 + d.toNat)]⟩ := by
  rw [wrapIn (by omega) (by omega), Int.emod_eq_of_lt (by omega) (by omega)]
  obtain ⟨n, rfl⟩ := Int.eq_ofNat_of_zero_le h0
  have hn : n ≤ 9 := by omega
  have : n = 0 ∨ n = 1 ∨ n = 2 ∨ n = 3 ∨ n = 4 ∨ n = 5 ∨ n = 6 ∨ n = 7 ∨ n = 8 ∨ n = 9 := by omega
  rcases this with rfl | rfl | rfl | rfl | rfl | rfl | rfl | rfl | rfl | rfl <;> rfl
theorem numberS (d : Int) (h0 : 0 ≤ d) (h1 : d ≤ 9) : Ev (fun k => spec_l01Number.f k d) ⟨#[UInt8.ofNat (48 + d.toNat)]⟩ := by
  refine evSucc (evNow fun k => ?_)
  simp only [spec_l01Number.f, show ¬ d < 0 by omega, if_false, spec_l01Dec.f, show d < 10 by omega, if_true, Option.bind_some, numStr d h0 h1]
theorem joinS (l : List Int) (h : ∀ x ∈ l, 0 ≤ x ∧ x ≤ 9) (hl : l.length ≤ 7) : Ev (fun k => spec_l01Join.f k l ⟨#[]⟩) ⟨(txtD l).toArray⟩ := by
  unfold spec_l01Join.f
  refine evCount (fun k (x : ByteArray) i => spec_l01Join.l0 k l ⟨#[]⟩ x i) 0 l.length (fun i => ⟨(txtD (l.take i)).toArray⟩) ⟨(txtD l).toArray⟩ ?_ ?_ (Nat.zero_le _)
  · intro i _ hi hr
    have hm := h l[i] (List.getElem_mem _)
    have hx : txtD (l.take (i + 1)) = txtD (l.take i) ++ [UInt8.ofNat (48 + l[i].toNat)] := by
      rw [List.take_succ_eq_append_getElem hi]; unfold txtD; rw [List.map_append]; rfl
    have hz : (⟨(txtD (l.take i)).toArray⟩ : ByteArray).size = i := by
      rw [sizeOf_mk, txtD_len, List.length_take]; omega
    have hone : (⟨#[UInt8.ofNat (48 + l[i].toNat)]⟩ : ByteArray).size = 1 := rfl
    refine evSucc ?_
    simp only [spec_l01Join.l0, show (i : Int) < (l.length : Int) by omega, show (0 : Int) ≤ (i : Int) by omega, if_true, rdN l i hi, wrapNat (show i < 4611686018427387904 by omega), app_nil, hz, show (⟨#[]⟩ : ByteArray).size = 0 from rfl, show i + 0 ≤ 9223372036854775807 by omega]
    by_cases c : (i : Int) > 0
    · simp only [c, if_true]
      refine Ev.bind (numberS l[i] hm.1 hm.2) ?_
      simp only [hone, show i + 1 ≤ 9223372036854775807 by omega, if_true, app_one, ← hx]
      exact hr
    · simp only [c, if_false]
      refine Ev.bind (numberS l[i] hm.1 hm.2) ?_
      simp only [hone, show i + 1 ≤ 9223372036854775807 by omega, if_true, app_one, ← hx]
      exact hr
  · refine evSucc (evNow fun k => ?_)
    simp only [spec_l01Join.l0, Int.lt_irrefl, if_false, List.take_length]
theorem textS (n : Int) : Ev (fun k => spec_CodeText.f k n) (codeTxt n) := by
  unfold spec_CodeText.f codeTxt
  simp only [codeS, Option.bind_some]
  by_cases c : codeB n = true
  · simp only [c, if_true]
    have h := code_in c
    refine Ev.bind (digitsS n h.1 h.2) ?_
    refine Ev.bind (joinS _ (dsL_in n) (by simp [dsL])) ?_
    exact evNow fun _ => rfl
  · simp only [c, if_false]
    exact evNow fun _ => rfl

theorem FnExactCodeText : laws_FnExactCodeText.Pure := by
  intro n _
  refine Ev.rounds ?_
  unfold laws_FnExactCodeText.f
  refine Ev.bind (textS n) ?_
  simp only [textI, Option.bind_some, if_true]
  exact evNow fun _ => rfl

end Go.Proofs.YtnnglnphkbpemaaDoor.Pure
