/- For every string of at most 4096 bytes: of what is drawn the program and the reference make and read the same codes; a code with one wrong digit, or with two different neighbours exchanged, is no code. -/
import Derived.Test.YtnnglnphkbpemaaDoorSayFnCodes
namespace Go.Proofs.YtnnglnphkbpemaaDoor.Pure
open Go.RowKit Go.Proofs.YtnnglnphkbpemaaDoor.PFnCodes Go.Proofs.YtnnglnphkbpemaaDoorW.PrintWords Go.Proofs.YtnnglnphkbpemaaDoorW.PrintLast
set_option linter.unusedVariables false
set_option linter.unusedSimpArgs false
-- BEGIN
/-- A proposition as a bool. -/
noncomputable def B (p : Prop) : Bool := @decide p (Classical.propDecidable p)
theorem B_iff {p : Prop} : B p = true ↔ p := by unfold B; exact @decide_eq_true_iff p (Classical.propDecidable p)
theorem B_true {p : Prop} (h : p) : B p = true := B_iff.2 h
theorem B_false {p : Prop} (h : ¬ p) : B p = false := by cases e : B p with | false => rfl | true => exact absurd (B_iff.1 e) h
theorem B_congr {p q : Prop} (h : p ↔ q) : B p = B q := by rw [propext h]
theorem B_dec (p : Prop) [Decidable p] : B p = decide p := by by_cases h : p <;> simp [h, B_true, B_false]
theorem B_and (p q : Prop) : (B p && B q) = B (p ∧ q) := by
  by_cases hp : p <;> by_cases hq : q <;> simp [B_true, B_false, hp, hq]
theorem B_not (p : Prop) : (!B p) = B (¬ p) := by by_cases hp : p <;> simp [B_true, B_false, hp]
theorem evSucc {α : Type} {g : Nat → Option α} {r : α} (h : Ev (fun k => g (k + 1)) r) : Ev g r := Ev.step (fun _ => rfl) h
theorem evNow {α : Type} {g : Nat → Option α} {r : α} (h : ∀ k, g k = some r) : Ev g r := ⟨0, fun k _ => h k⟩
theorem evCount {σ α : Type} (F : Nat → σ → Int → Option α) (i0 n : Nat) (S : Nat → σ) (r : α)
    (hstep : ∀ i, i0 ≤ i → i < n → Ev (fun k => F k (S (i + 1)) ((i + 1 : Nat) : Int)) r → Ev (fun k => F k (S i) (i : Int)) r) (hend : Ev (fun k => F k (S n) (n : Int)) r) (hle : i0 ≤ n) : Ev (fun k => F k (S i0) (i0 : Int)) r := by
  have key : ∀ d i, i0 ≤ i → i + d = n → Ev (fun k => F k (S i) (i : Int)) r := by
    intro d
    induction d with
    | zero =>
      intro i _ hi
      have h0 : i = n := by omega
      subst h0
      exact hend
    | succ d ih => intro i h0 hi; exact hstep i h0 (by omega) (ih (i + 1) (by omega) (by omega))
  exact key (n - i0) i0 (Nat.le_refl _) (by omega)
/-- A loop that leaves at the first place where G fails. -/
theorem evAll (F : Nat → Int → Option Bool) (i0 n : Nat) (G : Nat → Prop)
    (hstep : ∀ i, i0 ≤ i → i < n → G i → ∀ r, Ev (fun k => F k ((i + 1 : Nat) : Int)) r → Ev (fun k => F k (i : Int)) r) (hbad : ∀ i, i0 ≤ i → i < n → ¬ G i → Ev (fun k => F k (i : Int)) false) (e : Bool) (hend : Ev (fun k => F k (n : Int)) e) (hle : i0 ≤ n) :
    Ev (fun k => F k (i0 : Int)) (B (∀ j, i0 ≤ j → j < n → G j) && e) := by
  have key : ∀ d i, i0 ≤ i → i + d = n → Ev (fun k => F k (i : Int)) (B (∀ j, i ≤ j → j < n → G j) && e) := by
    intro d
    induction d with
    | zero =>
      intro i _ hi
      have h0 : i = n := by omega
      subst h0
      rw [B_true (fun j h1 h2 => absurd h2 (by omega)), Bool.true_and]
      exact hend
    | succ d ih =>
      intro i h0 hi
      by_cases hg : G i
      · have h1 : B (∀ j, i ≤ j → j < n → G j) = B (∀ j, i + 1 ≤ j → j < n → G j) := B_congr ⟨fun h j a b => h j (by omega) b, fun h j a b => by
          by_cases e : j = i
          · subst e; exact hg
          · exact h j (by omega) b⟩
        rw [h1]
        exact hstep i h0 (by omega) hg _ (ih (i + 1) (by omega) (by omega))
      · rw [B_false (fun h => hg (h i (Nat.le_refl _) (by omega))), Bool.false_and]
        exact hbad i h0 (by omega) hg
  exact key (n - i0) i0 (Nat.le_refl _) (by omega)
theorem wrapNat {i : Nat} (h : i < 4611686018427387904) : wrap64 ((i : Int) + 1) = ((i + 1 : Nat) : Int) := by
  unfold wrap64; omega
theorem wrapPred {i : Nat} (h0 : 1 ≤ i) (h : i < 4611686018427387904) : wrap64 ((i : Int) - 1) = ((i - 1 : Nat) : Int) := by
  unfold wrap64; omega
theorem rdN (xs : List Int) (i : Nat) (h : i < xs.length) : rd xs (i : Int) = xs[i] := by
  simp [rd, List.getD_eq_getElem?_getD, List.getElem?_eq_getElem h]
theorem fillStep {α : Type} (xs : List α) (z : α) (i : Nat) (h : i < xs.length) : (xs.take i ++ List.replicate (xs.length - i) z).set i xs[i] = xs.take (i + 1) ++ List.replicate (xs.length - (i + 1)) z := by
  have h1 : xs.length - i = (xs.length - (i + 1)) + 1 := by omega
  rw [h1, List.replicate_succ, List.set_append_right _ _ (by rw [List.length_take]; omega)]
  rw [List.length_take, Nat.min_eq_left (by omega), Nat.sub_self, List.set_cons_zero, List.take_succ_eq_append_getElem h, List.append_assoc]
  rfl
theorem fillLen {α : Type} (xs : List α) (z : α) (i : Nat) (h : i ≤ xs.length) : (xs.take i ++ List.replicate (xs.length - i) z).length = xs.length := by
  simp; omega

theorem wrapIn {x : Int} (h0 : -9223372036854775808 ≤ x) (h1 : x ≤ 9223372036854775807) : wrap64 x = x := by
  unfold wrap64; omega

/-- The seven digits. -/
def dsL (n : Int) : List Int := [n / 1000000 % 10, n / 100000 % 10, n / 10000 % 10, n / 1000 % 10, n / 100 % 10, n / 10 % 10, n % 10]
theorem dsL_in (n : Int) : ∀ x ∈ dsL n, 0 ≤ x ∧ x ≤ 9 := by
  intro x hx
  simp only [dsL, List.mem_cons, List.not_mem_nil, or_false] at hx
  rcases hx with rfl | rfl | rfl | rfl | rfl | rfl | rfl <;> omega

theorem inS (a b c : Int) : spec_l01In.f a b c = some (decide (b ≤ a ∧ a ≤ c)) := by
  unfold spec_l01In.f
  by_cases h : b ≤ a <;> simp [h]

theorem inI (a b c : Int) : impl_inRange.f a b c = some (decide (b ≤ a ∧ a ≤ c)) := by
  unfold impl_inRange.f
  by_cases h : b ≤ a <;> simp [h]

def codeB (a : Int) : Bool := decide ((0 ≤ a ∧ a ≤ 9999999) ∧ (1 ≤ Int.tmod a 100 ∧ Int.tmod a 100 ≤ 97) ∧ Int.tmod a 97 = 1)
theorem codeS (a : Int) : spec_IsCode.f a = some (codeB a) := by
  unfold spec_IsCode.f spec_l15Remainder.f codeB
  simp only [inS, Option.bind_some]
  by_cases h1 : (0 ≤ a ∧ a ≤ 9999999) <;> by_cases h2 : (1 ≤ Int.tmod a 100 ∧ Int.tmod a 100 ≤ 97) <;> by_cases h3 : Int.tmod a 97 = 1 <;> simp [h1, h2, h3]
theorem codeI (a : Int) : impl_IsCode.f a = some (codeB a) := by
  unfold impl_IsCode.f codeB
  simp only [inI, Option.bind_some]
  by_cases h1 : (0 ≤ a ∧ a ≤ 9999999) <;> by_cases h2 : (1 ≤ Int.tmod a 100 ∧ Int.tmod a 100 ≤ 97) <;> by_cases h3 : Int.tmod a 97 = 1 <;> simp [h1, h2, h3]

/-- Digits as bytes. -/
def txtD (l : List Int) : List UInt8 := l.map fun d => UInt8.ofNat (48 + d.toNat)
theorem txtD_len (l : List Int) : (txtD l).length = l.length := by simp [txtD]
theorem sizeOf_mk (l : List UInt8) : (⟨l.toArray⟩ : ByteArray).size = l.length := rfl
theorem app_nil (l : List UInt8) : (⟨l.toArray⟩ : ByteArray) ++ (⟨#[]⟩ : ByteArray) = ⟨l.toArray⟩ := by
  apply ByteArray.ext
  rw [ByteArray.data_append]
  simp
theorem app_one (l : List UInt8) (b : UInt8) : (⟨l.toArray⟩ : ByteArray) ++ (⟨#[b]⟩ : ByteArray) = ⟨(l ++ [b]).toArray⟩ := by
  apply ByteArray.ext
  rw [ByteArray.data_append]
  simp
theorem app_two (l m : List UInt8) : (⟨l.toArray⟩ : ByteArray) ++ (⟨m.toArray⟩ : ByteArray) = ⟨(l ++ m).toArray⟩ := by
  apply ByteArray.ext
  rw [ByteArray.data_append]
  simp
/-- A code's text. -/
def codeTxt (n : Int) : ByteArray := if codeB n = true then ⟨(txtD (dsL n)).toArray⟩ else ⟨#[]⟩
theorem code_in {n : Int} (h : codeB n = true) : 0 ≤ n ∧ n ≤ 9999999 := (of_decide_eq_true h).1
/-- The last j digits. -/
def padD : Nat → Nat → List UInt8
  | 0, _ => []
  | j + 1, u => padD j (u / 10) ++ [UInt8.ofNat (48 + u % 10)]
theorem rep_snoc (b : UInt8) : ∀ c : Nat, Go.Lib.repeatL [b] (c + 1) = Go.Lib.repeatL [b] c ++ [b]
  | 0 => rfl
  | c + 1 => by
    show [b] ++ Go.Lib.repeatL [b] (c + 1) = ([b] ++ Go.Lib.repeatL [b] c) ++ [b]
    rw [rep_snoc b c, List.append_assoc]
theorem padD_zero : ∀ j : Nat, padD j 0 = Go.Lib.repeatL [48] j
  | 0 => rfl
  | j + 1 => by rw [rep_snoc, padD, show 0 / 10 = 0 from rfl, padD_zero j]; rfl
theorem pad_eq : ∀ (j u : Nat), 1 ≤ j → u < 10 ^ j → Go.Lib.repeatL [48] (j - (Go.Lib.decDigits u).length) ++ Go.Lib.decDigits u = padD j u
  | 0, _, h, _ => absurd h (by decide)
  | j + 1, u, _, h => by
    by_cases hu : u < 10
    · rw [Go.Lib.decDigits, dif_pos hu, padD, show u / 10 = 0 by omega, padD_zero, show u % 10 = u by omega]
      rfl
    · have hj : 1 ≤ j := by
        rcases Nat.eq_zero_or_pos j with rfl | h1
        · simp at h; omega
        · exact h1
      have ih := pad_eq j (u / 10) hj (by rw [Nat.pow_succ] at h; omega)
      rw [Go.Lib.decDigits, dif_neg hu, padD, ← ih, List.length_append, List.length_singleton, show j + 1 - ((Go.Lib.decDigits (u / 10)).length + 1) = j - (Go.Lib.decDigits (u / 10)).length by omega, List.append_assoc]
theorem padD7 (u : Nat) : padD 7 u = txtD (dsL (u : Int)) := by
  have e0 : ((u : Int) % 10).toNat = u % 10 := by omega
  have e1 : ((u : Int) / 10 % 10).toNat = u / 10 % 10 := by omega
  have e2 : ((u : Int) / 100 % 10).toNat = u / 10 / 10 % 10 := by omega
  have e3 : ((u : Int) / 1000 % 10).toNat = u / 10 / 10 / 10 % 10 := by omega
  have e4 : ((u : Int) / 10000 % 10).toNat = u / 10 / 10 / 10 / 10 % 10 := by omega
  have e5 : ((u : Int) / 100000 % 10).toNat = u / 10 / 10 / 10 / 10 / 10 % 10 := by omega
  have e6 : ((u : Int) / 1000000 % 10).toNat = u / 10 / 10 / 10 / 10 / 10 / 10 % 10 := by omega
  simp only [padD, txtD, dsL, List.map_cons, List.map_nil, e0, e1, e2, e3, e4, e5, e6, List.nil_append, List.cons_append]
theorem textI (n : Int) : impl_CodeText.f n = some (codeTxt n) := by
  unfold impl_CodeText.f codeTxt
  simp only [codeI, Option.bind_some]
  by_cases c : codeB n = true
  · simp only [c, if_true]
    have h := code_in c
    obtain ⟨u, rfl⟩ := Int.eq_ofNat_of_zero_le h.1
    rw [impl_CodeText.txt, app_two, Go.Lib.itoa_nonneg, pad_eq 7 u (by decide) (by omega), padD7]
  · rw [if_neg c, if_neg c]

def num : List Int → Int
  | l => l.foldl (fun x d => 10 * x + d) 0
theorem num_snoc (l : List Int) (d : Int) : num (l ++ [d]) = 10 * num l + d := by simp [num]
def pw : Nat → Int
  | 0 => 1
  | j + 1 => 10 * pw j
theorem num_in (l : List Int) (h : ∀ x ∈ l, 0 ≤ x ∧ x ≤ 9) : ∀ i : Nat, i ≤ l.length → 0 ≤ num (l.take i) ∧ num (l.take i) < pw i
  | 0, _ => by simp [num, pw]
  | i + 1, hi => by
    have := num_in l h i (by omega)
    rw [List.take_succ_eq_append_getElem (by omega), num_snoc]
    have := h l[i] (List.getElem_mem _)
    simp only [pw]
    omega
theorem pw_mono (i : Nat) : pw i ≤ pw (i + 1) ∧ 1 ≤ pw i := by
  induction i with
  | zero => simp [pw]
  | succ i ih => simp only [pw] at ih ⊢; omega
theorem pw_le : ∀ d i : Nat, pw i ≤ pw (i + d)
  | 0, _ => Int.le_refl _
  | d + 1, i => Int.le_trans (pw_le d i) (pw_mono (i + d)).1
theorem numS (l : List Int) (h : ∀ x ∈ l, 0 ≤ x ∧ x ≤ 9) (hl : l.length ≤ 7) : Ev (fun k => spec_l15Number.f k l) (num l) := by
  unfold spec_l15Number.f
  have := evCount (fun k (x : Int) i => spec_l15Number.l0 k l x i) 0 l.length (fun i => num (l.take i)) (num l) ?_ ?_ (Nat.zero_le _)
  · simpa [num] using this
  · intro i _ hi hr
    refine evSucc ?_
    have h1 := num_in l h i (by omega)
    have h2 := pw_le (7 - i) i
    rw [show i + (7 - i) = 7 by omega, show pw 7 = 10000000 from rfl] at h2
    have h3 := h l[i] (List.getElem_mem _)
    rw [List.take_succ_eq_append_getElem hi, num_snoc] at hr
    simp only [spec_l15Number.l0, show (i : Int) < (l.length : Int) by omega, show (0 : Int) ≤ (i : Int) by omega, if_true, rdN l i hi, wrapNat (show i < 4611686018427387904 by omega), wrapIn (show -9223372036854775808 ≤ 10 * num (l.take i) by omega) (show 10 * num (l.take i) ≤ 9223372036854775807 by omega), wrapIn (show -9223372036854775808 ≤ 10 * num (l.take i) + l[i] by omega) (show 10 * num (l.take i) + l[i] ≤ 9223372036854775807 by omega)]
    exact hr
  · refine evSucc ?_
    simp only [spec_l15Number.l0, Int.lt_irrefl, if_false, List.take_length]
    exact Ev.now _
theorem pw_cases (j : Nat) (hj : j ≤ 6) : pw j = 1 ∨ pw j = 10 ∨ pw j = 100 ∨ pw j = 1000 ∨ pw j = 10000 ∨ pw j = 100000 ∨ pw j = 1000000 := by
  match j, hj with
  | 0, _ => exact .inl rfl
  | 1, _ => exact .inr (.inl rfl)
  | 2, _ => exact .inr (.inr (.inl rfl))
  | 3, _ => exact .inr (.inr (.inr (.inl rfl)))
  | 4, _ => exact .inr (.inr (.inr (.inr (.inl rfl))))
  | 5, _ => exact .inr (.inr (.inr (.inr (.inr (.inl rfl)))))
  | 6, _ => exact .inr (.inr (.inr (.inr (.inr (.inr rfl)))))

theorem ba_len (s : ByteArray) : s.data.toList.length = s.size := Array.length_toList
theorem ba_loop (s : ByteArray) : ∀ (d i : Nat) (r : List UInt8), i + d = s.size → ByteArray.toList.loop s i r = r.reverse ++ s.data.toList.drop i := by
  have hl := ba_len s
  intro d
  induction d with
  | zero =>
    intro i r h
    unfold ByteArray.toList.loop
    rw [if_neg (by omega), List.drop_eq_nil_of_le (by omega), List.append_nil]
  | succ d ih =>
    intro i r h
    unfold ByteArray.toList.loop
    have e : s.get! i = s.data.toList[i]'(by omega) := by
      obtain ⟨a⟩ := s
      have hi : i < a.size := by have : (ByteArray.mk a).size = a.size := rfl; omega
      show a[i]! = _
      rw [getElem!_pos a i hi]
      rfl
    rw [if_pos (by omega), ih (i + 1) _ (by omega), List.drop_eq_getElem_cons (show i < s.data.toList.length by omega), e, List.reverse_cons, List.append_assoc]
    rfl
theorem ba_toList (s : ByteArray) : s.toList = s.data.toList := by
  unfold ByteArray.toList
  rw [ba_loop s s.size 0 [] (by omega)]
  rfl
theorem bt_rd (s : ByteArray) (i : Nat) (h : i < s.size) : bt s (i : Int) = rd (bytesOf s) (i : Int) := by
  have hl := ba_len s
  unfold bt rd bytesOf
  rw [Int.toNat_natCast, dif_pos h, List.getD_eq_getElem?_getD, List.getElem?_map, List.getElem?_eq_getElem (by omega)]
  rfl
theorem bytes_len (s : ByteArray) : (bytesOf s).length = s.size := by unfold bytesOf; rw [List.length_map, ba_len]
theorem bytes_in (s : ByteArray) : ∀ x ∈ bytesOf s, 0 ≤ x ∧ x ≤ 255 := by
  intro x hx
  unfold bytesOf at hx
  obtain ⟨b, _, rfl⟩ := List.mem_map.1 hx
  have := b.toNat_lt
  omega
theorem count_bytes (l : List UInt8) (b : UInt8) : l.count b = (l.map fun c => (c.toNat : Int)).count ((b.toNat : Nat) : Int) := by
  induction l with
  | nil => rfl
  | cons c l ih =>
    rw [List.map_cons, List.count_cons, List.count_cons, ih]
    by_cases e : c = b
    · subst e; simp
    · have : ¬ c.toNat = b.toNat := fun g => e (UInt8.toNat_inj.1 g)
      rw [beq_eq_false_iff_ne.mpr e, beq_eq_false_iff_ne.mpr (by omega)]

theorem dsL_num (a b c d e f g : Int) (ha : 0 ≤ a ∧ a ≤ 9) (hb : 0 ≤ b ∧ b ≤ 9) (hc : 0 ≤ c ∧ c ≤ 9) (hd : 0 ≤ d ∧ d ≤ 9) (he : 0 ≤ e ∧ e ≤ 9) (hf : 0 ≤ f ∧ f ≤ 9) (hg : 0 ≤ g ∧ g ≤ 9) : dsL (num [a, b, c, d, e, f, g]) = [a, b, c, d, e, f, g] := by
  have h : num [a, b, c, d, e, f, g] = 1000000 * a + 100000 * b + 10000 * c + 1000 * d + 100 * e + 10 * f + g := by
    simp only [num, List.foldl_cons, List.foldl_nil]; omega
  rw [h]
  unfold dsL
  generalize hn : 1000000 * a + 100000 * b + 10000 * c + 1000 * d + 100 * e + 10 * f + g = n
  have x1 : n / 1000000 % 10 = a := by omega
  have x2 : n / 100000 % 10 = b := by omega
  have x3 : n / 10000 % 10 = c := by omega
  have x4 : n / 1000 % 10 = d := by omega
  have x5 : n / 100 % 10 = e := by omega
  have x6 : n / 10 % 10 = f := by omega
  have x7 : n % 10 = g := by omega
  rw [x1, x2, x3, x4, x5, x6, x7]
theorem num_dsL (n : Int) (h0 : 0 ≤ n) (h1 : n ≤ 9999999) : num (dsL n) = n := by
  simp only [num, dsL, List.foldl_cons, List.foldl_nil]; omega
theorem seven_of (l : List Int) (h : l.length = 7) : ∃ a b c d e f g, l = [a, b, c, d, e, f, g] := by
  match l, h with
  | [a, b, c, d, e, f, g], _ => exact ⟨a, b, c, d, e, f, g, rfl⟩
theorem dsL_num' (l : List Int) (h : l.length = 7) (hl : ∀ x ∈ l, 0 ≤ x ∧ x ≤ 9) : dsL (num l) = l := by
  obtain ⟨a, b, c, d, e, f, g, rfl⟩ := seven_of l h
  exact dsL_num a b c d e f g (hl a (by simp)) (hl b (by simp)) (hl c (by simp)) (hl d (by simp)) (hl e (by simp)) (hl f (by simp)) (hl g (by simp))
/-- The digits that bytes stand for. -/
def dgsL (l : List UInt8) : List Int := l.map fun b => (b.toNat : Int) - 48
theorem dgs_txt (l : List UInt8) (h : ∀ b ∈ l, 48 ≤ b.toNat ∧ b.toNat ≤ 57) : txtD (dgsL l) = l := by
  unfold txtD dgsL
  rw [List.map_map]
  have : ∀ b ∈ l, ((fun d : Int => UInt8.ofNat (48 + d.toNat)) ∘ fun b : UInt8 => (b.toNat : Int) - 48) b = b := by
    intro b hb
    have := h b hb
    show UInt8.ofNat (48 + ((b.toNat : Int) - 48).toNat) = b
    rw [show 48 + ((b.toNat : Int) - 48).toNat = b.toNat by omega]
    simp
  rw [List.map_congr_left this, List.map_id']
theorem dgs_in (l : List UInt8) (h : ∀ b ∈ l, 48 ≤ b.toNat ∧ b.toNat ≤ 57) : ∀ x ∈ dgsL l, 0 ≤ x ∧ x ≤ 9 := by
  intro x hx
  obtain ⟨b, hb, rfl⟩ := List.mem_map.1 hx
  have := h b hb
  omega
theorem byteOf (x : Int) (h0 : 0 ≤ x) (h1 : x ≤ 9) : (UInt8.ofNat (48 + x.toNat)).toNat = 48 + x.toNat := by
  rw [UInt8.toNat_ofNat']
  exact Nat.mod_eq_of_lt (by omega)
theorem txt_in (l : List Int) (h : ∀ x ∈ l, 0 ≤ x ∧ x ≤ 9) : ∀ b ∈ txtD l, 48 ≤ b.toNat ∧ b.toNat ≤ 57 := by
  intro b hb
  unfold txtD at hb
  obtain ⟨x, hx, rfl⟩ := List.mem_map.1 hb
  have h9 := h x hx
  rw [byteOf x h9.1 h9.2]
  omega
theorem txt_dgs (l : List Int) (h : ∀ x ∈ l, 0 ≤ x ∧ x ≤ 9) : dgsL (txtD l) = l := by
  unfold txtD dgsL
  rw [List.map_map]
  have : ∀ x ∈ l, ((fun b : UInt8 => (b.toNat : Int) - 48) ∘ fun d : Int => UInt8.ofNat (48 + d.toNat)) x = x := by
    intro x hx
    have := h x hx
    show ((UInt8.ofNat (48 + x.toNat)).toNat : Int) - 48 = x
    rw [byteOf x this.1 this.2]
    omega
  rw [List.map_congr_left this, List.map_id']
def numN (l : List UInt8) (acc : Nat) : Nat := l.foldl (fun x b => x * 10 + (b.toNat - 48)) acc
theorem numN_nil (acc : Nat) : numN [] acc = acc := List.foldl_nil
theorem numN_cons (b : UInt8) (r : List UInt8) (acc : Nat) : numN (b :: r) acc = numN r (acc * 10 + (b.toNat - 48)) := List.foldl_cons ..
theorem numN_eq : ∀ (l : List UInt8) (acc : Nat), (∀ b ∈ l, 48 ≤ b.toNat ∧ b.toNat ≤ 57) → ((numN l acc : Nat) : Int) = (dgsL l).foldl (fun x d => 10 * x + d) (acc : Int)
  | [], acc, _ => by rw [numN_nil]; simp [dgsL]
  | b :: r, acc, h => by
    have hb := h b (by simp)
    rw [numN_cons, numN_eq r _ fun x hx => h x (by simp [hx])]
    show _ = (dgsL r).foldl _ (10 * (acc : Int) + ((b.toNat : Int) - 48))
    congr 1
    omega
theorem parseM : ∀ (l : List UInt8) (acc j : Nat), (∀ b ∈ l, 48 ≤ b.toNat ∧ b.toNat ≤ 57) → acc < 10 ^ j → j + l.length ≤ 7 → Go.Lib.parseUintM (2 ^ 64 - 1) acc l = .ok (numN l acc)
  | [], acc, j, _, _, _ => by rw [Go.Lib.parseUintM, numN_nil]
  | b :: r, acc, j, h, ha, hj => by
    have hb := h b (by simp)
    have hl : j + 1 + r.length ≤ 7 := by simp at hj; omega
    have hp : 10 ^ j ≤ 10 ^ 6 := Nat.pow_le_pow_right (by decide) (by omega)
    have h6 : (10 : Nat) ^ 6 = 1000000 := by decide
    rw [Go.Lib.parseUintM, if_pos hb, if_neg (by omega), if_neg (by omega), numN_cons]
    exact parseM r _ (j + 1) (fun x hx => h x (by simp [hx])) (by rw [Nat.pow_succ]; omega) hl
theorem parse_ok (l : List UInt8) (hl : l.length = 7) (h : ∀ b ∈ l, 48 ≤ b.toNat ∧ b.toNat ≤ 57) : Go.Lib.parseIntB 64 l = .ok (num (dgsL l)) := by
  have hm := parseM l 0 0 h (by decide) (by omega)
  have hn : ((numN l 0 : Nat) : Int) = num (dgsL l) := numN_eq l 0 h
  have hin : num (dgsL l) < 10000000 := by
    obtain ⟨a, b, c, d, e, f, g, hx⟩ := seven_of (dgsL l) (by simp [dgsL, hl])
    have hi := dgs_in l h
    rw [hx] at hi ⊢
    have := hi a (by simp); have := hi b (by simp); have := hi c (by simp); have := hi d (by simp); have := hi e (by simp); have := hi f (by simp); have := hi g (by simp)
    simp only [num, List.foldl_cons, List.foldl_nil]
    omega
  match l, hl with
  | c :: r, _ =>
    have hc := h c (by simp)
    have hne : ¬ (c.toNat = 43 ∨ c.toNat = 45) := by omega
    have h45 : ¬ c.toNat = 45 := by omega
    have hbig : ¬ (¬ c.toNat = 45 ∧ 2 ^ (64 - 1) ≤ numN (c :: r) 0) := by
      rw [show (2 : Nat) ^ (64 - 1) = 9223372036854775808 by decide]; omega
    have hbig2 : ¬ (c.toNat = 45 ∧ 2 ^ (64 - 1) < numN (c :: r) 0) := fun h => h45 h.1
    unfold Go.Lib.parseIntB
    dsimp only
    rw [if_neg hne, Go.Lib.parseUintB, if_neg (List.cons_ne_nil _ _), hm]
    dsimp only
    rw [if_neg hbig, if_neg hbig2, if_neg h45, hn]
def isC (l : List UInt8) : Prop := l.length = 7 ∧ (∀ b ∈ l, 48 ≤ b.toNat ∧ b.toNat ≤ 57) ∧ codeB (num (dgsL l)) = true
noncomputable def readV (l : List UInt8) : Int × Bool := @ite _ (isC l) (Classical.propDecidable _) (num (dgsL l), true) (0, false)
theorem readV_yes {l : List UInt8} (h : isC l) : readV l = (num (dgsL l), true) := by unfold readV; exact if_pos h
theorem readV_no {l : List UInt8} (h : ¬ isC l) : readV l = (0, false) := by unfold readV; exact if_neg h
theorem readI (s : ByteArray) (hs : s.size ≤ 281474976710656) : impl_ReadCode.f s = some (readV s.data.toList) := by
  unfold impl_ReadCode.f
  rw [if_pos hs]
  by_cases c : isC s.data.toList
  · obtain ⟨h1, h2, h3⟩ := c
    rw [readV_yes ⟨h1, h2, h3⟩, parse_ok _ h1 h2]
    simp only [textI, Option.bind_some]
    have : codeTxt (num (dgsL s.data.toList)) = s := by
      unfold codeTxt
      rw [if_pos h3, dsL_num' _ (by simp [dgsL, h1]) (dgs_in _ h2), dgs_txt _ h2]
    rw [if_pos this]
  · rw [readV_no c]
    split
    · rename_i v hv
      simp only [textI, Option.bind_some]
      by_cases ht : codeTxt v = s
      · exfalso
        apply c
        unfold codeTxt at ht
        by_cases hc : codeB v = true
        · rw [if_pos hc] at ht
          have hl : s.data.toList = txtD (dsL v) := by rw [← ht]
          have hin := code_in hc
          rw [hl]
          exact ⟨by simp [txtD, dsL], txt_in _ (dsL_in v), by rw [txt_dgs _ (dsL_in v), num_dsL v hin.1 hin.2]; exact hc⟩
        · rw [if_neg hc] at ht
          subst ht
          simp [Go.Lib.parseIntB] at hv
      · rw [if_neg ht]
    · rfl
theorem readS (s : ByteArray) : Ev (fun k => spec_ReadCode.f k s) (readV s.data.toList) := by
  have hlen := ba_len s
  unfold spec_ReadCode.f
  by_cases h7 : (s.size : Int) = 7
  · simp only [h7, if_true]
    have h7' : s.data.toList.length = 7 := by omega
    by_cases hall : ∀ b ∈ s.data.toList, 48 ≤ b.toNat ∧ b.toNat ≤ 57
    · refine evCount (fun k (x : List Int) i => spec_ReadCode.l0 k s x i) 0 7 (fun i => (dgsL s.data.toList).take i) _ ?_ ?_ (by decide)
      · intro i _ hi hr
        have hb : bt s (i : Int) = ((s.data.toList[i]'(by omega)).toNat : Int) := by
          rw [bt_rd s i (by omega), rdN _ i (by rw [bytes_len]; omega)]
          simp [bytesOf]
        have hm := hall (s.data.toList[i]'(by omega)) (List.getElem_mem _)
        have hx : (dgsL s.data.toList).take (i + 1) = (dgsL s.data.toList).take i ++ [((s.data.toList[i]'(by omega)).toNat : Int) - 48] := by
          rw [List.take_succ_eq_append_getElem (by simp [dgsL]; omega)]; simp [dgsL]
        refine evSucc ?_
        simp only [spec_ReadCode.l0, show (i : Int) < (s.size : Int) by omega, show (0 : Int) ≤ (i : Int) by omega, if_true, hb, show ¬ ((s.data.toList[i]'(by omega)).toNat : Int) < 48 by omega, show ¬ ((s.data.toList[i]'(by omega)).toNat : Int) > 57 by omega, if_false, show (((s.data.toList[i]'(by omega)).toNat : Int) - 48) % 256 = ((s.data.toList[i]'(by omega)).toNat : Int) - 48 by omega, wrapNat (show i < 4611686018427387904 by omega), ← hx, show ((dgsL s.data.toList).take i).length < 17592186044416 by rw [List.length_take]; omega]
        exact hr
      · refine evSucc ?_
        simp only [spec_ReadCode.l0, show ¬ (((7 : Nat) : Int) < (s.size : Int)) by omega, if_false]
        rw [List.take_of_length_le (by simp [dgsL]; omega)]
        refine Ev.bind (numS _ (dgs_in _ hall) (by simp [dgsL]; omega)) ?_
        simp only [codeS, Option.bind_some]
        by_cases c : codeB (num (dgsL s.data.toList)) = true
        · rw [readV_yes ⟨h7', hall, c⟩]
          simp only [c, if_true]
          exact evNow fun _ => rfl
        · rw [readV_no fun h => c h.2.2]
          refine evNow fun _ => ?_
          rw [if_neg c]
    · rw [readV_no fun h => hall h.2.1]
      have key : ∀ d i : Nat, i + d = 7 → (∀ j (hj : j < i) (hj' : j < s.data.toList.length), 48 ≤ (s.data.toList[j]).toNat ∧ (s.data.toList[j]).toNat ≤ 57) → ∀ x : List Int, x.length = i → Ev (fun k => spec_ReadCode.l0 k s x (i : Int)) (0, false) := by
        intro d
        induction d with
        | zero =>
          intro i hi hok x _
          exact absurd (fun b hb => by obtain ⟨j, hj, rfl⟩ := List.mem_iff_getElem.1 hb; exact hok j (by omega) hj) hall
        | succ d ih =>
          intro i hi hok x hx
          have hb : bt s (i : Int) = ((s.data.toList[i]'(by omega)).toNat : Int) := by
            rw [bt_rd s i (by omega), rdN _ i (by rw [bytes_len]; omega)]
            simp [bytesOf]
          refine evSucc ?_
          simp only [spec_ReadCode.l0, show (i : Int) < (s.size : Int) by omega, show (0 : Int) ≤ (i : Int) by omega, if_true, hb]
          by_cases h1 : ((s.data.toList[i]'(by omega)).toNat : Int) < 48
          · simp only [h1, if_true]; exact evNow fun _ => rfl
          · by_cases h2 : ((s.data.toList[i]'(by omega)).toNat : Int) > 57
            · simp only [h1, if_false, h2, if_true]; exact evNow fun _ => rfl
            · simp only [h1, if_false, h2, wrapNat (show i < 4611686018427387904 by omega), show x.length < 17592186044416 by omega, if_true]
              refine ih (i + 1) (by omega) ?_ _ (by simp [hx])
              intro j hj hj'
              by_cases e : j = i
              · subst e; omega
              · exact hok j (by omega) hj'
      exact key 7 0 rfl (fun j hj => absurd hj (by omega)) [] rfl
  · simp only [h7, if_false]
    rw [readV_no fun h => h7 (by have := h.1; omega)]
    exact evNow fun _ => rfl

theorem digStep (x : Int) (l : List Int) (i : Nat) (r : List Int) (h0 : 0 ≤ x) (h1 : x ≤ 9999999) (hl : l.length = 7) (hi : i < 7) (h : Ev (fun k => spec_l15Digits.l0 k (x / 10) (l.set i (x % 10)) ((i : Int) - 1)) r) : Ev (fun k => spec_l15Digits.l0 k x l (i : Int)) r := by
  refine evSucc ?_
  have e1 : Int.tdiv x 10 = x / 10 := Int.tdiv_eq_ediv_of_nonneg h0
  have e2 : Int.tmod x 10 = x % 10 := Int.tmod_eq_emod_of_nonneg h0
  have e3 : wrap64 (x / 10) = x / 10 := wrapIn (by omega) (by omega)
  have e4 : wrap64 ((i : Int) - 1) = (i : Int) - 1 := wrapIn (by omega) (by omega)
  simp only [spec_l15Digits.l0, show (i : Int) ≥ 0 by omega, show (0 : Int) ≤ (i : Int) by omega, hl, show (i : Int) < ((7 : Nat) : Int) by omega, if_true, e1, e2, e3, e4, Int.toNat_natCast]
  exact h
theorem digitsS (n : Int) (h0 : 0 ≤ n) (h1 : n ≤ 9999999) : Ev (fun k => spec_l15Digits.f k n) (dsL n) := by
  unfold spec_l15Digits.f
  simp only [show (7 : Nat) ≤ 35184372088832 by decide, if_true]
  refine digStep n _ 6 _ h0 h1 (by simp) (by decide) ?_
  refine digStep (n / 10) _ 5 _ (by omega) (by omega) (by simp) (by decide) ?_
  refine digStep (n / 10 / 10) _ 4 _ (by omega) (by omega) (by simp) (by decide) ?_
  refine digStep (n / 10 / 10 / 10) _ 3 _ (by omega) (by omega) (by simp) (by decide) ?_
  refine digStep (n / 10 / 10 / 10 / 10) _ 2 _ (by omega) (by omega) (by simp) (by decide) ?_
  refine digStep (n / 10 / 10 / 10 / 10 / 10) _ 1 _ (by omega) (by omega) (by simp) (by decide) ?_
  refine digStep (n / 10 / 10 / 10 / 10 / 10 / 10) _ 0 _ (by omega) (by omega) (by simp) (by decide) ?_
  refine evSucc ?_
  simp only [spec_l15Digits.l0, show ¬ (((0 : Nat) : Int) - 1 ≥ 0) by decide, if_false]
  have e : (((((((List.replicate 7 (0 : Int)).set 6 (n % 10)).set 5 (n / 10 % 10)).set 4 (n / 10 / 10 % 10)).set 3 (n / 10 / 10 / 10 % 10)).set 2 (n / 10 / 10 / 10 / 10 % 10)).set 1 (n / 10 / 10 / 10 / 10 / 10 % 10)).set 0 (n / 10 / 10 / 10 / 10 / 10 / 10 % 10) = dsL n := by
    show [n / 10 / 10 / 10 / 10 / 10 / 10 % 10, n / 10 / 10 / 10 / 10 / 10 % 10, n / 10 / 10 / 10 / 10 % 10, n / 10 / 10 / 10 % 10, n / 10 / 10 % 10, n / 10 % 10, n % 10] = _
    simp only [dsL, List.cons.injEq, and_true]
    omega
  rw [e]
  exact Ev.now _

theorem numStr (d : Int) (h0 : 0 ≤ d) (h1 : d ≤ 9) : strOfNums [(wrap64 (48 + d)) % 256] = ⟨#[UInt8.ofNat (48 + d.toNat)]⟩ := by
  rw [wrapIn (by omega) (by omega), Int.emod_eq_of_lt (by omega) (by omega)]
  obtain ⟨n, rfl⟩ := Int.eq_ofNat_of_zero_le h0
  have hn : n ≤ 9 := by omega
  have : n = 0 ∨ n = 1 ∨ n = 2 ∨ n = 3 ∨ n = 4 ∨ n = 5 ∨ n = 6 ∨ n = 7 ∨ n = 8 ∨ n = 9 := by omega
  rcases this with rfl | rfl | rfl | rfl | rfl | rfl | rfl | rfl | rfl | rfl <;> rfl
theorem numberS (d : Int) (h0 : 0 ≤ d) (h1 : d ≤ 9) : Ev (fun k => spec_l01Number.f k d) ⟨#[UInt8.ofNat (48 + d.toNat)]⟩ := by
  refine evSucc (evNow fun k => ?_)
  simp only [spec_l01Number.f, show ¬ d < 0 by omega, if_false, spec_l01Dec.f, show d < 10 by omega, if_true, Option.bind_some, numStr d h0 h1]
theorem joinS (l : List Int) (h : ∀ x ∈ l, 0 ≤ x ∧ x ≤ 9) (hl : l.length ≤ 7) : Ev (fun k => spec_l01Join.f k l ⟨#[]⟩) ⟨(txtD l).toArray⟩ := by
  unfold spec_l01Join.f
  refine evCount (fun k (x : ByteArray) i => spec_l01Join.l0 k l ⟨#[]⟩ x i) 0 l.length (fun i => ⟨(txtD (l.take i)).toArray⟩) ⟨(txtD l).toArray⟩ ?_ ?_ (Nat.zero_le _)
  · intro i _ hi hr
    have hm := h l[i] (List.getElem_mem _)
    have hx : txtD (l.take (i + 1)) = txtD (l.take i) ++ [UInt8.ofNat (48 + l[i].toNat)] := by
      rw [List.take_succ_eq_append_getElem hi]; unfold txtD; rw [List.map_append]; rfl
    have hz : (⟨(txtD (l.take i)).toArray⟩ : ByteArray).size = i := by
      rw [sizeOf_mk, txtD_len, List.length_take]; omega
    have hone : (⟨#[UInt8.ofNat (48 + l[i].toNat)]⟩ : ByteArray).size = 1 := rfl
    refine evSucc ?_
    simp only [spec_l01Join.l0, show (i : Int) < (l.length : Int) by omega, show (0 : Int) ≤ (i : Int) by omega, if_true, rdN l i hi, wrapNat (show i < 4611686018427387904 by omega), app_nil, hz, show (⟨#[]⟩ : ByteArray).size = 0 from rfl, show i + 0 ≤ 9223372036854775807 by omega]
    by_cases c : (i : Int) > 0
    · simp only [c, if_true]
      refine Ev.bind (numberS l[i] hm.1 hm.2) ?_
      simp only [hone, show i + 1 ≤ 9223372036854775807 by omega, if_true, app_one, ← hx]
      exact hr
    · simp only [c, if_false]
      refine Ev.bind (numberS l[i] hm.1 hm.2) ?_
      simp only [hone, show i + 1 ≤ 9223372036854775807 by omega, if_true, app_one, ← hx]
      exact hr
  · refine evSucc (evNow fun k => ?_)
    simp only [spec_l01Join.l0, Int.lt_irrefl, if_false, List.take_length]
theorem textS (n : Int) : Ev (fun k => spec_CodeText.f k n) (codeTxt n) := by
  unfold spec_CodeText.f codeTxt
  simp only [codeS, Option.bind_some]
  by_cases c : codeB n = true
  · simp only [c, if_true]
    have h := code_in c
    refine Ev.bind (digitsS n h.1 h.2) ?_
    refine Ev.bind (joinS _ (dsL_in n) (by simp [dsL])) ?_
    exact evNow fun _ => rfl
  · simp only [c, if_false]
    exact evNow fun _ => rfl

structure OkS (l : List Int) (a s : Int) : Prop where
  bytes : ∀ x ∈ l, 0 ≤ x ∧ x ≤ 255
  len : l.length ≤ 4096
  a0 : 0 ≤ a
  a1 : a ≤ l.length
  s0 : 0 ≤ s
  s1 : s < 2147483647
theorem rd_byte {l : List Int} (h : ∀ x ∈ l, 0 ≤ x ∧ x ≤ 255) (i : Int) : 0 ≤ rd l i ∧ rd l i ≤ 255 := spec_l01Next.byte h i
theorem next_ok {l : List Int} {a s : Int} (h : OkS l a s) (n : Int) :
    ∃ r a' s', spec_l01Next.f l a s n = some (r, a', s') ∧ OkS l a' s' ∧ (1 ≤ n → 0 ≤ r ∧ r < n) ∧ (n ≤ 1 → r = 0) := by
  have hs := h.s0
  have hs1 := h.s1
  have ha0 := h.a0
  have ha1 := h.a1
  have hl := h.len
  have hb := rd_byte h.bytes a
  refine ⟨(spec_l01Next.V l a s n).1, (spec_l01Next.V l a s n).2.1, (spec_l01Next.V l a s n).2.2, ?_, ?_⟩
  · unfold spec_l01Next.f
    rw [if_pos ⟨h.bytes, by omega, ⟨ha0, ha1⟩, hs, hs1⟩]
  · unfold spec_l01Next.V
    have hS0 : 0 ≤ (s * 48271 + 61) % 2147483647 := by omega
    have hS1 : (s * 48271 + 61) % 2147483647 < 2147483647 := by omega
    have modr : ∀ x : Int, 1 < n → 0 ≤ x % n ∧ x % n < n := fun x hn => ⟨Int.emod_nonneg _ (by omega), Int.emod_lt_of_pos _ (by omega)⟩
    by_cases hn : n ≤ 1
    · rw [if_pos hn]
      exact ⟨h, fun _ => ⟨by simp, by simp; omega⟩, fun _ => rfl⟩
    · rw [if_neg hn]
      by_cases c1 : a < (l.length : Int)
      · rw [if_pos c1]
        have ok1 : OkS l (a + 1) ((s * 48271 + 61) % 2147483647) := ⟨h.bytes, h.len, by omega, by omega, hS0, hS1⟩
        by_cases c2 : n ≤ 256 ∧ (a + 1) % 2 = 0
        · rw [if_pos c2]
          exact ⟨ok1, fun _ => modr _ (by omega), fun h1 => absurd h1 hn⟩
        · rw [if_neg c2]
          exact ⟨ok1, fun _ => modr _ (by omega), fun h1 => absurd h1 hn⟩
      · rw [if_neg c1]
        exact ⟨⟨h.bytes, h.len, ha0, ha1, hS0, hS1⟩, fun _ => modr _ (by omega), fun h1 => absurd h1 hn⟩
theorem from_loop (l : List Int) (hb : ∀ x ∈ l, 0 ≤ x ∧ x ≤ 255) (_hl : l.length ≤ 4096) (d : Nat) : ∀ (i : Nat) (s : Int), i + d = l.length → 0 ≤ s → s < 2147483647 → ∃ r, Ev (fun k => spec_l01From.l0 k l (i : Int) l 0 s) (l, 0, r) ∧ 0 ≤ r ∧ r < 2147483647 := by
  induction d with
  | zero =>
    intro i s hi h0 h1
    refine ⟨s, evSucc ?_, h0, h1⟩
    simp only [spec_l01From.l0, show ¬ ((i : Int) < (l.length : Int)) by omega, if_false]
    exact Ev.now _
  | succ d ih =>
    intro i s hi h0 h1
    by_cases h64 : (i : Int) < 64
    · have hr := rd_byte hb (i : Int)
      have he : Int.tmod (wrap64 ((wrap64 (s * 71)) + (wrap64 (rd l (i : Int))))) 2147483647 = (s * 71 + rd l (i : Int)) % 2147483647 := by
        rw [wrapIn (x := s * 71) (by omega) (by omega), wrapIn (x := rd l (i : Int)) (by omega) (by omega), wrapIn (by omega) (by omega), Int.tmod_eq_emod_of_nonneg (by omega)]
      obtain ⟨r, hr1, hr2, hr3⟩ := ih (i + 1) ((s * 71 + rd l (i : Int)) % 2147483647) (by omega) (by omega) (by omega)
      refine ⟨r, evSucc ?_, hr2, hr3⟩
      simp only [spec_l01From.l0, show (i : Int) < (l.length : Int) by omega, h64, show (0 : Int) ≤ (i : Int) by omega, if_true, he, wrapNat (show i < 4611686018427387904 by omega)]
      exact hr1
    · refine ⟨s, evSucc ?_, h0, h1⟩
      simp only [spec_l01From.l0, show (i : Int) < (l.length : Int) by omega, h64, if_true, if_false]
      exact Ev.now _
theorem from_ok (l : List Int) (hw : ∀ x ∈ l, (Lit.int .u8 x).wf = true) (hl : l.length ≤ 4096) : ∃ s, Ev (fun k => spec_l01From.f k l) (l, 0, s) ∧ OkS l 0 s := by
  have hb : ∀ x ∈ l, 0 ≤ x ∧ x ≤ 255 := fun x hx => by
    have := hw x hx
    simp [Lit.wf, IntKind.min, IntKind.max, IntKind.signed, IntKind.bits] at this
    omega
  obtain ⟨r, h1, h2, h3⟩ := from_loop l hb hl l.length 0 88007 (by omega) (by omega) (by omega)
  refine ⟨r, ?_, ⟨hb, hl, by omega, by omega, h2, h3⟩⟩
  unfold spec_l01From.f
  exact h1

theorem pick_ok {l : List Int} {a s : Int} (h : OkS l a s) (xs : List Int) (h0 : 0 < xs.length) :
    ∃ r a' s', spec_l01Pick.f l a s xs = some (r, a', s') ∧ OkS l a' s' ∧ r ∈ xs := by
  obtain ⟨r, a', s', h1, h2, h3, _⟩ := next_ok h (xs.length : Int)
  obtain ⟨h4, h5⟩ := h3 (by omega)
  refine ⟨rd xs r, a', s', ?_, h2, ?_⟩
  · unfold spec_l01Pick.f
    rw [h1]
    simp only [Option.bind_some]
    rw [if_pos h4, if_pos h5]
  · unfold rd
    rw [List.getD_eq_getElem?_getD, List.getElem?_eq_getElem (show r.toNat < xs.length by omega)]
    exact List.getElem_mem _

theorem make_ok (a b : Int) (a0 : 0 ≤ a) (a1 : a < 1000) (b0 : 0 ≤ b) (b1 : b < 100) : ∃ r, Ev (fun k => spec_l15Make.f k a b) r ∧ 0 ≤ r ∧ r ≤ 9999999 := by
  unfold spec_l15Make.f
  rw [wrapIn (x := a * 100) (by omega) (by omega), wrapIn (x := a * 100 + b) (by omega) (by omega), wrapIn (x := (a * 100 + b) * 100) (by omega) (by omega)]
  have key : ∀ d i : Nat, i + d = 97 → 1 ≤ i → ∃ r, Ev (fun k => spec_l15Make.l0 k ((a * 100 + b) * 100) (i : Int)) r ∧ 0 ≤ r ∧ r ≤ 9999999 := by
    intro d
    induction d with
    | zero =>
      intro i hi h1
      refine ⟨(a * 100 + b) * 100 + 97, evSucc ?_, by omega, by omega⟩
      simp only [spec_l15Make.l0, show ¬ ((i : Int) < 97) by omega, if_false, wrapIn (show -9223372036854775808 ≤ (a * 100 + b) * 100 + 97 by omega) (show (a * 100 + b) * 100 + 97 ≤ 9223372036854775807 by omega)]
      exact Ev.now _
    | succ d ih =>
      intro i hi h1
      have w : wrap64 ((a * 100 + b) * 100 + (i : Int)) = (a * 100 + b) * 100 + (i : Int) := wrapIn (by omega) (by omega)
      by_cases c : Int.tmod ((a * 100 + b) * 100 + (i : Int)) 97 = 1
      · refine ⟨(a * 100 + b) * 100 + (i : Int), evSucc ?_, by omega, by omega⟩
        simp only [spec_l15Make.l0, show (i : Int) < 97 by omega, if_true, w, spec_l15Remainder.f, Option.bind_some, c]
        exact Ev.now _
      · obtain ⟨r, h2, h3⟩ := ih (i + 1) (by omega) (by omega)
        refine ⟨r, evSucc ?_, h3⟩
        simp only [spec_l15Make.l0, show (i : Int) < 97 by omega, if_true, w, spec_l15Remainder.f, Option.bind_some, c, if_false, wrapNat (show i < 4611686018427387904 by omega)]
        exact h2
  exact key 96 1 (by omega) (by omega)
theorem drawCode {l : List Int} {a s : Int} (h : OkS l a s) : ∃ v a' s', Ev (fun k => spec_l15DrawCode.f k l a s) (v, a', s') ∧ OkS l a' s' := by
  obtain ⟨r1, a1, s1, h1, k1, b1, _⟩ := next_ok h 1000
  obtain ⟨r2, a2, s2, h2, k2, b2, _⟩ := next_ok k1 100
  have b1 := b1 (by decide)
  have b2 := b2 (by decide)
  obtain ⟨n, hn, n0, n1⟩ := make_ok r1 r2 b1.1 b1.2 b2.1 b2.2
  obtain ⟨r4, a4, s4, h4, k4, _⟩ := next_ok k2 5
  unfold spec_l15DrawCode.f
  simp only [h1, h2, Option.bind_some]
  by_cases c0 : r4 = 0
  · obtain ⟨r5, a5, s5, h5, k5, b5, _⟩ := next_ok k4 7
    obtain ⟨r6, a6, s6, h6, k6, b6, _⟩ := next_ok k5 10
    have b5 := b5 (by decide)
    have b6 := b6 (by decide)
    have hnum := numS ((dsL n).set r5.toNat r6) (fun x hx => by
      rcases List.mem_or_eq_of_mem_set hx with hx | rfl
      · exact dsL_in n x hx
      · omega) (by rw [List.length_set]; exact Nat.le_refl 7)
    refine ⟨num ((dsL n).set r5.toNat r6), a6, s6, Ev.bind hn ?_, k6⟩
    simp only [h4, Option.bind_some, c0, if_true]
    refine Ev.bind (digitsS n n0 n1) ?_
    have hl : (dsL n).length = 7 := rfl
    simp only [h5, h6, Option.bind_some, b5.1, hl, show r5 < ((7 : Nat) : Int) by omega, if_true]
    exact Ev.bind hnum (Ev.now _)
  · by_cases c1 : r4 = 1
    · obtain ⟨r5, a5, s5, h5, k5, _⟩ := next_ok k4 6
      by_cases c2 : r5 = 0
      · obtain ⟨r6, a6, s6, h6, k6, _⟩ := pick_ok k5 [-1, 0, 1, 9999999, 10000000, 98] (by decide)
        refine ⟨r6, a6, s6, Ev.bind hn ?_, k6⟩
        simp only [h4, Option.bind_some, c1, show ¬ ((1 : Int) = 0) by decide, if_false, if_true, h5, c2, h6]
        exact Ev.now _
      · refine ⟨n, a5, s5, Ev.bind hn ?_, k5⟩
        simp only [h4, Option.bind_some, c1, show ¬ ((1 : Int) = 0) by decide, if_false, if_true, h5, c2]
        exact Ev.now _
    · refine ⟨n, a4, s4, Ev.bind hn ?_, k4⟩
      simp only [h4, Option.bind_some, c0, c1, if_false]
      exact Ev.now _

theorem size_extract' (s : ByteArray) (i j : Nat) : (s.extract i j).size = min j s.size - i := ByteArray.size_extract
theorem damage {l : List Int} {a s : Int} (h : OkS l a s) (t : ByteArray) (ht : t.size ≤ 100000) : ∃ v a' s', spec_l01Damage.f l a s t = some (v, a', s') ∧ OkS l a' s' ∧ v.size ≤ t.size + 1 := by
  obtain ⟨r1, a1, s1, h1, k1, b1, _⟩ := next_ok h ((t.size : Int) + 1)
  obtain ⟨r2, a2, s2, h2, k2, b2, _⟩ := next_ok k1 8
  have b1 := b1 (by omega)
  have b2 := b2 (by decide)
  have hw : wrap64 ((t.size : Int) + 1) = (t.size : Int) + 1 := wrapIn (by omega) (by omega)
  obtain ⟨n, rfl⟩ := Int.eq_ofNat_of_zero_le b1.1
  have hn : n ≤ t.size := by omega
  have e0 : (t.extract 0 n).size = n := by rw [size_extract']; omega
  have e1 : (t.extract n t.size).size = t.size - n := by rw [size_extract']; omega
  unfold spec_l01Damage.f
  simp only [hw, h1, h2, Option.bind_some, Int.toNat_natCast, show (0 : Int) ≤ (n : Int) by omega, show (n : Int) ≤ (t.size : Int) by omega, if_true]
  by_cases c0 : r2 = 0
  · exact ⟨t.extract 0 n, a2, s2, by simp only [c0, if_true], k2, by omega⟩
  · by_cases c1 : r2 = 1
    · obtain ⟨r3, a3, s3, h3, k3, b3, _⟩ := next_ok k2 8
      have b3 := b3 (by decide)
      obtain ⟨m, rfl⟩ := Int.eq_ofNat_of_zero_le b3.1
      have hm : m < 8 := by omega
      have e2 : (rdOf ByteArray.empty [(⟨#[48]⟩ : ByteArray), (⟨#[49]⟩ : ByteArray), (⟨#[32]⟩ : ByteArray), (⟨#[45]⟩ : ByteArray), (⟨#[46]⟩ : ByteArray), (⟨#[44]⟩ : ByteArray), (⟨#[10]⟩ : ByteArray), (⟨#[120]⟩ : ByteArray)] (m : Int)).size = 1 := by
        have : m = 0 ∨ m = 1 ∨ m = 2 ∨ m = 3 ∨ m = 4 ∨ m = 5 ∨ m = 6 ∨ m = 7 := by omega
        rcases this with rfl | rfl | rfl | rfl | rfl | rfl | rfl | rfl <;> rfl
      refine ⟨((t.extract 0 n) ++ (rdOf ByteArray.empty [(⟨#[48]⟩ : ByteArray), (⟨#[49]⟩ : ByteArray), (⟨#[32]⟩ : ByteArray), (⟨#[45]⟩ : ByteArray), (⟨#[46]⟩ : ByteArray), (⟨#[44]⟩ : ByteArray), (⟨#[10]⟩ : ByteArray), (⟨#[120]⟩ : ByteArray)] (m : Int))) ++ (t.extract n t.size), a3, s3, ?_, k3, ?_⟩
      · generalize hR : [(⟨#[48]⟩ : ByteArray), (⟨#[49]⟩ : ByteArray), (⟨#[32]⟩ : ByteArray), (⟨#[45]⟩ : ByteArray), (⟨#[46]⟩ : ByteArray), (⟨#[44]⟩ : ByteArray), (⟨#[10]⟩ : ByteArray), (⟨#[120]⟩ : ByteArray)] = R at e2 ⊢
        have hlen : R.length = 8 := by rw [← hR]; rfl
        simp only [c1, show ¬ ((1 : Int) = 0) by decide, if_false, if_true, h3, Option.bind_some, show (0 : Int) ≤ (m : Int) by omega, hlen, show (m : Int) < ((8 : Nat) : Int) by omega, ByteArray.size_append, e0, e1, e2, show n + 1 ≤ 9223372036854775807 by omega, show n + 1 + (t.size - n) ≤ 9223372036854775807 by omega]
      · rw [ByteArray.size_append, ByteArray.size_append, e0, e1, e2]
        omega
    · by_cases c2 : r2 = 2
      · by_cases c3 : (n : Int) < (t.size : Int)
        · have hw2 : wrap64 ((n : Int) + 1) = ((n + 1 : Nat) : Int) := wrapNat (by omega)
          have e3 : (t.extract (n + 1) t.size).size = t.size - (n + 1) := by rw [size_extract']; omega
          refine ⟨(t.extract 0 n) ++ (t.extract (n + 1) t.size), a2, s2, ?_, k2, ?_⟩
          · simp only [c2, show ¬ ((2 : Int) = 0) by decide, show ¬ ((2 : Int) = 1) by decide, if_false, if_true, c3, hw2, show (0 : Int) ≤ ((n + 1 : Nat) : Int) by omega, show ((n + 1 : Nat) : Int) ≤ (t.size : Int) by omega, Int.toNat_natCast, e0, e3, show n + (t.size - (n + 1)) ≤ 9223372036854775807 by omega]
          · rw [ByteArray.size_append, e0, e3]
            omega
        · exact ⟨t, a2, s2, by simp only [c2, show ¬ ((2 : Int) = 0) by decide, show ¬ ((2 : Int) = 1) by decide, if_false, if_true, c3], k2, by omega⟩
      · exact ⟨t, a2, s2, by simp only [c0, c1, c2, if_false], k2, by omega⟩

def chk (B : Int) : Int := if (98 - B % 97) % 97 = 0 then 97 else (98 - B % 97) % 97
theorem chk_range (B : Int) : 1 ≤ chk B ∧ chk B ≤ 97 := by
  unfold chk; split <;> omega
theorem chk_hit (B : Int) (h : chk B < 97) : (B + chk B) % 97 = 1 := by
  unfold chk at *; split at h <;> rename_i h0
  · omega
  · rw [if_neg h0]; omega
theorem chk_miss (B x : Int) (h0 : 1 ≤ x) (h : x < chk B) : (B + x) % 97 ≠ 1 := by
  unfold chk at h; split at h <;> omega
theorem make_loop (B : Int) (hB0 : 0 ≤ B) (hB1 : B ≤ 10000000) (d : Nat) : ∀ (k : Nat) (x : Int), 1 ≤ x → x ≤ chk B → chk B - x = d → d < k → spec_l15Make.l0 k B x = some (B + chk B) := by
  have hr := chk_range B
  induction d with
  | zero =>
    intro k x h1 h2 hd hk
    obtain ⟨k, rfl⟩ : ∃ m, k = m + 1 := ⟨k - 1, by omega⟩
    have hx : x = chk B := by omega
    subst hx
    simp only [spec_l15Make.l0, spec_l15Remainder.f]
    by_cases h97 : chk B < 97
    · have hh := chk_hit B h97
      rw [if_pos h97]
      simp only [Option.bind_some]
      rw [wrapIn (by omega) (by omega), Int.tmod_eq_emod_of_nonneg (by omega), if_pos hh]
    · rw [if_neg h97, wrapIn (by omega) (by omega)]
      congr 1; omega
  | succ d ih =>
    intro k x h1 h2 hd hk
    obtain ⟨k, rfl⟩ : ∃ m, k = m + 1 := ⟨k - 1, by omega⟩
    have hm := chk_miss B x h1 (by omega)
    simp only [spec_l15Make.l0, spec_l15Remainder.f]
    rw [if_pos (by omega)]
    simp only [Option.bind_some]
    rw [wrapIn (by omega) (by omega), Int.tmod_eq_emod_of_nonneg (by omega), if_neg hm, wrapIn (by omega) (by omega)]
    exact ih k (x + 1) (by omega) (by omega) (by omega) (by omega)
def codeV (a b : Int) : Int × Int := if (0 ≤ a ∧ a ≤ 999) ∧ (0 ≤ b ∧ b ≤ 99) then (a * 10000 + b * 100 + chk (a * 10000 + b * 100), 0) else (0, 2)
theorem codeOfSk (k : Nat) (hk : 100 ≤ k) (a b : Int) : spec_CodeOf.f k a b = some (codeV a b) := by
  unfold spec_CodeOf.f codeV
  simp only [inS, Option.bind_some, decide_eq_true_eq]
  by_cases ha : 0 ≤ a ∧ a ≤ 999
  · by_cases hb : 0 ≤ b ∧ b ≤ 99
    · have hr := chk_range (a * 10000 + b * 100)
      rw [if_pos ha, if_pos hb, if_pos ⟨ha, hb⟩]
      unfold spec_l15Make.f
      rw [wrapIn (x := a * 100) (by omega) (by omega), wrapIn (x := a * 100 + b) (by omega) (by omega), wrapIn (by omega) (by omega), show (a * 100 + b) * 100 = a * 10000 + b * 100 by omega]
      rw [make_loop (a * 10000 + b * 100) (by omega) (by omega) (chk (a * 10000 + b * 100) - 1).toNat k 1 (by omega) (by omega) (by omega) (by omega)]
      rfl
    · rw [if_pos ha, if_neg hb, if_neg (fun h => hb h.2)]
  · rw [if_neg ha, if_neg (fun h => ha h.1)]
theorem codeOfIk (k : Nat) (hk : 100 ≤ k) (a b : Int) : impl_CodeOf.f k a b = some (codeV a b) := by
  obtain ⟨k, rfl⟩ : ∃ m, k = m + 1 := ⟨k - 1, by omega⟩
  unfold impl_CodeOf.f codeV
  simp only [inI, Option.bind_some, decide_eq_true_eq]
  by_cases ha : 0 ≤ a ∧ a ≤ 999
  · by_cases hb : 0 ≤ b ∧ b ≤ 99
    · rw [if_pos ha, if_pos ⟨ha, hb⟩]
      simp only [impl_CodeOf.j0]
      rw [if_neg (by simp [hb])]
      rw [wrapIn (x := a * 10000) (by omega) (by omega), wrapIn (x := b * 100) (by omega) (by omega), wrapIn (x := a * 10000 + b * 100) (by omega) (by omega)]
      rw [Int.tmod_eq_emod_of_nonneg (a := a * 10000 + b * 100) (by omega), wrapIn (x := 98 - (a * 10000 + b * 100) % 97) (by omega) (by omega), Int.tmod_eq_emod_of_nonneg (a := 98 - (a * 10000 + b * 100) % 97) (by omega)]
      unfold chk
      by_cases h0 : (98 - (a * 10000 + b * 100) % 97) % 97 = 0
      · rw [if_pos h0, if_pos h0, wrapIn (by omega) (by omega)]
      · rw [if_neg h0, if_neg h0, wrapIn (by omega) (by omega)]
    · rw [if_pos ha, if_neg (fun h => hb h.2)]
      simp only [impl_CodeOf.j0]
      rw [if_pos (by simp [hb])]
  · rw [if_neg ha, if_neg (fun h => ha h.1)]
    simp [impl_CodeOf.j0]
theorem codeOfS (a b : Int) : spec_CodeOf.f 100 a b = some (codeV a b) := codeOfSk 100 (Nat.le_refl _) a b
theorem codeOfI (a b : Int) : impl_CodeOf.f 100 a b = some (codeV a b) := codeOfIk 100 (Nat.le_refl _) a b

theorem drawParts (l : List Int) (hw : ∀ x ∈ l, (Lit.int .u8 x).wf = true) (hl : l.length ≤ 4096) : ∃ v, Ev (fun k => spec_DrawPartsOfCode.f k l) v := by
  obtain ⟨s, h0, k0⟩ := from_ok l hw hl
  obtain ⟨v, a', s', h1, _⟩ := drawCode k0
  exact ⟨v, Ev.bind h0 (Ev.bind h1 (Ev.now _))⟩
theorem drawCodeOf (l : List Int) (hw : ∀ x ∈ l, (Lit.int .u8 x).wf = true) (hl : l.length ≤ 4096) : ∃ a b, Ev (fun k => spec_DrawCodeOf.f k l) (a, b) := by
  obtain ⟨s, h0, k0⟩ := from_ok l hw hl
  obtain ⟨r1, a1, s1, h1, k1, _⟩ := next_ok k0 12
  by_cases c : r1 = 0
  · obtain ⟨r2, a2, s2, h2, k2, _⟩ := pick_ok k1 [-1, 0, 999, 1000] (by decide)
    obtain ⟨r3, a3, s3, h3, k3, _⟩ := pick_ok k2 [-1, 0, 99, 100] (by decide)
    refine ⟨r2, r3, Ev.bind h0 ?_⟩
    simp only [h1, Option.bind_some, c, if_true, h2, h3]
    exact Ev.now _
  · obtain ⟨r2, a2, s2, h2, k2, _⟩ := next_ok k1 1000
    obtain ⟨r3, a3, s3, h3, k3, _⟩ := next_ok k2 100
    refine ⟨r2, r3, Ev.bind h0 ?_⟩
    simp only [h1, Option.bind_some, c, if_false, h2, h3]
    exact Ev.now _
theorem drawRead (l : List Int) (hw : ∀ x ∈ l, (Lit.int .u8 x).wf = true) (hl : l.length ≤ 4096) : ∃ t, Ev (fun k => spec_DrawReadCode.f k l) t ∧ t.size ≤ 100 := by
  obtain ⟨s, h0, k0⟩ := from_ok l hw hl
  obtain ⟨r1, a1, s1, h1, k1, b1, _⟩ := next_ok k0 1000
  obtain ⟨r2, a2, s2, h2, k2, b2, _⟩ := next_ok k1 100
  have b1 := b1 (by decide)
  have b2 := b2 (by decide)
  obtain ⟨n, hn, n0, n1⟩ := make_ok r1 r2 b1.1 b1.2 b2.1 b2.2
  obtain ⟨r3, a3, s3, h3, k3, _⟩ := next_ok k2 3
  have hT : (⟨(txtD (dsL n)).toArray⟩ : ByteArray).size = 7 := rfl
  obtain ⟨v, a4, s4, h4, _, b4⟩ := damage k3 ⟨(txtD (dsL n)).toArray⟩ (by omega)
  have hj := joinS _ (dsL_in n) (by simp [dsL])
  by_cases c : r3 = 0
  · refine ⟨v, Ev.bind h0 ?_, by omega⟩
    simp only [h1, h2, Option.bind_some]
    refine Ev.bind hn (Ev.bind (digitsS n n0 n1) (Ev.bind hj ?_))
    rw [h3]
    simp only [Option.bind_some, c, if_true]
    rw [h4]
    exact Ev.now _
  · refine ⟨_, Ev.bind h0 ?_, by rw [hT]; decide⟩
    simp only [h1, h2, Option.bind_some]
    refine Ev.bind hn (Ev.bind (digitsS n n0 n1) (Ev.bind hj ?_))
    rw [h3]
    simp only [Option.bind_some, c, if_false]
    exact Ev.now _
def partsV (n : Int) : Int × Int × Int := if codeB n = true then (n / 10000, n / 100 % 100, 0) else (0, 0, 1)
theorem partsI (n : Int) : impl_PartsOfCode.f n = some (partsV n) := by
  unfold impl_PartsOfCode.f partsV
  simp only [codeI, Option.bind_some]
  by_cases c : codeB n = true
  · have h := code_in c
    rw [if_pos c, if_pos c, Int.tdiv_eq_ediv_of_nonneg h.1, Int.tdiv_eq_ediv_of_nonneg h.1, wrapIn (by omega) (by omega), wrapIn (by omega) (by omega), Int.tmod_eq_emod_of_nonneg (by omega)]
  · rw [if_neg c, if_neg c]
theorem partsS (n : Int) : spec_PartsOfCode.f n = some (partsV n) := by
  unfold spec_PartsOfCode.f partsV
  simp only [codeS, Option.bind_some]
  by_cases c : codeB n = true
  · have h := code_in c
    rw [if_pos c, if_pos c, Int.tdiv_eq_ediv_of_nonneg h.1, Int.tdiv_eq_ediv_of_nonneg h.1, wrapIn (by omega) (by omega), wrapIn (by omega) (by omega), Int.tmod_eq_emod_of_nonneg (by omega)]
  · rw [if_neg c, if_neg c]
theorem parts_code (n : Int) : (partsV n).2.2 = 0 ↔ codeB n = true := by
  unfold partsV
  by_cases c : codeB n = true
  · rw [if_pos c]; simp [c]
  · rw [if_neg c]; simp [c]
theorem codeB_iff (n : Int) : codeB n = true ↔ (0 ≤ n ∧ n ≤ 9999999) ∧ (1 ≤ n % 100 ∧ n % 100 ≤ 97) ∧ n % 97 = 1 := by
  unfold codeB
  rw [decide_eq_true_iff]
  by_cases h : 0 ≤ n
  · rw [Int.tmod_eq_emod_of_nonneg h, Int.tmod_eq_emod_of_nonneg h]
  · exact ⟨fun g => absurd g.1.1 h, fun g => absurd g.1.1 h⟩
theorem made (a b n : Int) (h : codeV a b = (n, 0)) : codeB n = true ∧ partsV n = (a, b, 0) := by
  unfold codeV at h
  by_cases c : (0 ≤ a ∧ a ≤ 999) ∧ (0 ≤ b ∧ b ≤ 99)
  · rw [if_pos c, Prod.mk.injEq] at h
    obtain ⟨hn, _⟩ := h
    have hr := chk_range (a * 10000 + b * 100)
    have e1 : n % 100 = chk (a * 10000 + b * 100) := by omega
    have e2 : n / 10000 = a := by omega
    have e3 : n / 100 % 100 = b := by omega
    have e4 : 0 ≤ n ∧ n ≤ 9999999 := by omega
    have h97 : n % 97 = 1 := by
      by_cases c2 : chk (a * 10000 + b * 100) < 97
      · rw [← hn]; exact chk_hit _ c2
      · have : chk (a * 10000 + b * 100) = 97 := by omega
        rw [← hn, this]
        unfold chk at this
        split at this <;> omega
    have hB : codeB n = true := (codeB_iff n).2 ⟨e4, by rw [e1]; exact hr, h97⟩
    refine ⟨hB, ?_⟩
    unfold partsV
    rw [if_pos hB, e2, e3]
  · rw [if_neg c, Prod.mk.injEq] at h
    exact absurd h.2 (by decide)
theorem isC_txt (n : Int) (h : codeB n = true) : isC (codeTxt n).data.toList ∧ readV (codeTxt n).data.toList = (n, true) := by
  have hin := code_in h
  have e : (codeTxt n).data.toList = txtD (dsL n) := by unfold codeTxt; rw [if_pos h]
  have hc : isC (txtD (dsL n)) := ⟨by simp [txtD, dsL], txt_in _ (dsL_in n), by rw [txt_dgs _ (dsL_in n), num_dsL n hin.1 hin.2]; exact h⟩
  rw [e]
  exact ⟨hc, by rw [readV_yes hc, txt_dgs _ (dsL_in n), num_dsL n hin.1 hin.2]⟩
theorem txt_read (s : ByteArray) (v : Int) (h : readV s.data.toList = (v, true)) : codeTxt v = s := by
  by_cases c : isC s.data.toList
  · rw [readV_yes c, Prod.mk.injEq] at h
    obtain ⟨h1, h2, h3⟩ := c
    rw [h.1] at h3
    unfold codeTxt
    rw [if_pos h3, ← h.1, dsL_num' _ (by simp [dgsL, h1]) (dgs_in _ h2), dgs_txt _ h2]
  · rw [readV_no c, Prod.mk.injEq] at h
    exact absurd h.2 (by decide)
theorem bad_digit (n : Int) (h : codeB n = true) (j : Nat) (hj : j ≤ 6) (d : Int) (d0 : -9 ≤ d) (d1 : d ≤ 9) (hd : ¬ d = 0) : codeB (n + d * pw j) = false := by
  have hn := (codeB_iff n).1 h
  refine Bool.eq_false_iff.2 fun g => ?_
  have hm := (codeB_iff _).1 g
  rcases pw_cases j hj with e | e | e | e | e | e | e <;> rw [e] at hm <;> omega
theorem bad_pair (n : Int) (h : codeB n = true) (j : Nat) (hj : j ≤ 6) (d : Int) (d0 : -9 ≤ d) (d1 : d ≤ 9) (hd : ¬ d = 0) : codeB (n + d * pw j + -d * pw j * 10) = false := by
  have hn := (codeB_iff n).1 h
  refine Bool.eq_false_iff.2 fun g => ?_
  have hm := (codeB_iff _).1 g
  rcases pw_cases j hj with e | e | e | e | e | e | e <;> rw [e] at hm <;> omega
theorem loopL1 (n : Int) (h : codeB n = true) (t : Nat) (ht : t < 7) (hr : Ev (fun k => laws_FnCodes.l0 k n (pw (t + 1)) ((t + 1 : Nat) : Int)) true) : Ev (fun k => laws_FnCodes.l1 k n (pw t) (t : Int) (n / pw t % 10) 0) true := by
  have hin := code_in h
  have hp : (1 ≤ pw t ∧ pw t ≤ 1000000) := by rcases pw_cases t (by omega) with e | e | e | e | e | e | e <;> rw [e] <;> decide
  have hq : 0 ≤ n / pw t ∧ n / pw t ≤ 9999999 := by rcases pw_cases t (by omega) with e | e | e | e | e | e | e <;> rw [e] <;> omega
  have hmul : ∀ d : Int, -9 ≤ d → d ≤ 9 → -9000000 ≤ d * pw t ∧ d * pw t ≤ 9000000 := fun d a b => by
    rcases pw_cases t (by omega) with e | e | e | e | e | e | e <;> rw [e] <;> omega
  refine evCount (fun k (_ : Unit) e => laws_FnCodes.l1 k n (pw t) (t : Int) (n / pw t % 10) e) 0 10 (fun _ => ()) true ?_ ?_ (by decide)
  · intro e _ he hk
    refine evSucc ?_
    by_cases c : (e : Int) = n / pw t % 10
    · simp only [laws_FnCodes.l1, show (e : Int) < 10 by omega, if_true, if_pos c, wrapNat (show e < 4611686018427387904 by omega)]
      exact hk
    · have h1 := hmul ((e : Int) - n / pw t % 10) (by omega) (by omega)
      simp only [laws_FnCodes.l1, show (e : Int) < 10 by omega, if_true, c, if_false]
      rw [wrapIn (x := (e : Int) - n / pw t % 10) (by omega) (by omega), wrapIn (x := ((e : Int) - n / pw t % 10) * pw t) (by omega) (by omega), wrapIn (x := n + ((e : Int) - n / pw t % 10) * pw t) (by omega) (by omega), codeI, bad_digit n h t (by omega) _ (by omega) (by omega) (by omega)]
      simp only [Option.bind_some, Bool.false_eq_true, if_false, wrapNat (show e < 4611686018427387904 by omega)]
      exact hk
  · have hnext : wrap64 (10 * pw t) = pw (t + 1) := wrapIn (by omega) (by omega)
    have hwt : wrap64 ((t : Int) + 1) = ((t + 1 : Nat) : Int) := wrapNat (by omega)
    have q1 : wrap64 (Int.tdiv n (pw t)) = n / pw t := by rw [Int.tdiv_eq_ediv_of_nonneg hin.1, wrapIn (by omega) (by omega)]
    have q2 : wrap64 (Int.tdiv (n / pw t) 10) = n / pw t / 10 := by rw [Int.tdiv_eq_ediv_of_nonneg hq.1, wrapIn (by omega) (by omega)]
    have q3 : Int.tmod (n / pw t / 10) 10 = n / pw t / 10 % 10 := Int.tmod_eq_emod_of_nonneg (by omega)
    refine evSucc ?_
    simp only [laws_FnCodes.l1, show ¬ (((10 : Nat) : Int) < 10) by omega, if_false, show ¬ (pw t = 0) by omega, hnext, hwt, q1, q2, q3]
    by_cases c6 : (t : Int) < 6
    · simp only [c6, if_true]
      by_cases c : n / pw t / 10 % 10 = n / pw t % 10
      · simp only [c, if_true]
        exact hr
      · simp only [c, if_false]
        generalize hd : n / pw t / 10 % 10 = y at c ⊢
        generalize hd' : n / pw t % 10 = x at c ⊢
        have h1 := hmul (y - x) (by omega) (by omega)
        have h2 := hmul (x - y) (by omega) (by omega)
        have hneg : x - y = -(y - x) := by omega
        rw [wrapIn (x := y - x) (by omega) (by omega), wrapIn (x := x - y) (by omega) (by omega), wrapIn (x := (y - x) * pw t) (by omega) (by omega), wrapIn (x := (x - y) * pw t) (by omega) (by omega), wrapIn (x := n + (y - x) * pw t) (by omega) (by omega), wrapIn (x := (x - y) * pw t * 10) (by omega) (by omega), wrapIn (x := n + (y - x) * pw t + (x - y) * pw t * 10) (by omega) (by omega), codeI, hneg, bad_pair n h t (by omega) (y - x) (by omega) (by omega) (by omega)]
        simp only [Option.bind_some, Bool.false_eq_true, if_false]
        exact hr
    · simp only [c6, if_false]
      exact hr
theorem loopL0 (n : Int) (h : codeB n = true) : Ev (fun k => laws_FnCodes.l0 k n 1 0) true := by
  have hin := code_in h
  refine evCount (fun k (p : Int) t => laws_FnCodes.l0 k n p t) 0 7 (fun t => pw t) true ?_ ?_ (by decide)
  · intro t _ ht hr
    have hp : ¬ pw t = 0 := by rcases pw_cases t (by omega) with e | e | e | e | e | e | e <;> rw [e] <;> decide
    have hq : 0 ≤ n / pw t ∧ n / pw t ≤ 9999999 := by rcases pw_cases t (by omega) with e | e | e | e | e | e | e <;> rw [e] <;> omega
    refine evSucc ?_
    have q1 : wrap64 (Int.tdiv n (pw t)) = n / pw t := by rw [Int.tdiv_eq_ediv_of_nonneg hin.1, wrapIn (by omega) (by omega)]
    simp only [laws_FnCodes.l0, show (t : Int) < 7 by omega, if_true, hp, if_false, q1, Int.tmod_eq_emod_of_nonneg hq.1]
    exact loopL1 n h t ht hr
  · refine evSucc ?_
    simp only [laws_FnCodes.l0, show ¬ (((7 : Nat) : Int) < 7) by omega, if_false]
    exact Ev.now _
theorem FnCodes : laws_FnCodes.Pure := by
  intro l _ _ hw
  refine Ev.rounds ?_
  unfold laws_FnCodes.f laws_big.f
  simp only [Option.bind_some]
  by_cases hb : (l.length : Int) > 4096
  · simp only [hb, decide_true, if_true]
    exact Ev.now _
  · simp only [hb, decide_false, Bool.false_eq_true, if_false]
    have hl : l.length ≤ 4096 := by omega
    obtain ⟨a, b, h0⟩ := drawCodeOf l hw hl
    obtain ⟨c, h1⟩ := drawParts l hw hl
    obtain ⟨s, h2, hs⟩ := drawRead l hw hl
    refine Ev.bind h0 (Ev.bind ⟨100, fun k hk => codeOfIk k hk a b⟩ (Ev.bind ⟨100, fun k hk => codeOfSk k hk a b⟩ (Ev.bind h1 ?_)))
    simp only [partsI, partsS, textI, Option.bind_some]
    refine Ev.bind h2 ?_
    simp only [readI s (by omega), Option.bind_some]
    refine Ev.bind (readS s) ?_
    simp only [if_true]
    refine Ev.bind (textS c) ?_
    simp only [if_true, bne_self_eq_false, Bool.false_eq_true, if_false, codeI, Option.bind_some]
    have hk : (codeB c != ((partsV c).2.2 == 0)) = false := by
      by_cases g : codeB c = true
      · rw [g, (parts_code c).2 g]; rfl
      · rw [Bool.not_eq_true] at g
        have : ¬ (partsV c).2.2 = 0 := fun e => by rw [(parts_code c).1 e] at g; cases g
        rw [g, beq_eq_false_iff_ne.2 this]; rfl
    have hj0 : Ev (fun k => laws_FnCodes.j0 k a b (codeV a b).1 (codeV a b).2 false) true := by
      refine evSucc ?_
      simp only [laws_FnCodes.j0, Bool.false_eq_true, if_false]
      by_cases g : (codeV a b).2 = 0
      · obtain ⟨m1, m2⟩ := made a b (codeV a b).1 (Prod.ext rfl g)
        obtain ⟨_, m3⟩ := isC_txt (codeV a b).1 m1
        have hsz : (codeTxt (codeV a b).1).size ≤ 281474976710656 := by
          unfold codeTxt; rw [if_pos m1]; show 7 ≤ 281474976710656; decide
        simp only [if_pos g, partsI, m2, Option.bind_some, textI, readI _ hsz, m3, if_true, bne_self_eq_false]
        refine evSucc ?_
        simp only [laws_FnCodes.j1, Bool.false_eq_true, if_false]
        exact loopL0 _ m1
      · simp only [if_neg g]
        exact Ev.now _
    rw [hk]
    simp only [Bool.false_eq_true, if_false]
    by_cases g : (readV s.data.toList).2 = true
    · have : codeTxt (readV s.data.toList).1 = s := txt_read s _ (Prod.ext rfl g)
      simp only [g, if_true, this, bne_self_eq_false]
      exact hj0
    · simp only [g, if_false]
      exact hj0

end Go.Proofs.YtnnglnphkbpemaaDoor.Pure
