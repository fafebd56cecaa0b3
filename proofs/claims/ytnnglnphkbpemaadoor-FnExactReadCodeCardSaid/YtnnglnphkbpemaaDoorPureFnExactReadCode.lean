/- The program and the reference read the same code, for every string. -/
import Derived.Test.YtnnglnphkbpemaaDoorSayFnExactReadCode
namespace Go.Proofs.YtnnglnphkbpemaaDoor.Pure
open Go.RowKit Go.Proofs.YtnnglnphkbpemaaDoor.PFnExactReadCode Go.Proofs.YtnnglnphkbpemaaDoorW.PrintWords Go.Proofs.YtnnglnphkbpemaaDoorW.PrintLast
set_option linter.unusedVariables false
set_option linter.unusedSimpArgs false
-- BEGIN
/-- A proposition as a bool. -/
noncomputable def B (p : Prop) : Bool := @decide p (Classical.propDecidable p)
theorem B_iff {p : Prop} : B p = true ↔ p := by unfold B; exact @decide_eq_true_iff p (Classical.propDecidable p)
theorem B_true {p : Prop} (h : p) : B p = true := B_iff.2 h
theorem B_false {p : Prop} (h : ¬ p) : B p = false := by cases e : B p with | false => rfl | true => exact absurd (B_iff.1 e) h
theorem B_congr {p q : Prop} (h : p ↔ q) : B p = B q := by rw [propext h]
theorem B_dec (p : Prop) [Decidable p] : B p = decide p := by by_cases h : p <;> simp [h, B_true, B_false]
theorem B_and (p q : Prop) : (B p && B q) = B (p ∧ q) := by
  by_cases hp : p <;> by_cases hq : q <;> simp [B_true, B_false, hp, hq]
theorem B_not (p : Prop) : (!B p) = B (¬ p) := by by_cases hp : p <;> simp [B_true, B_false, hp]
theorem evSucc {α : Type} {g : Nat → Option α} {r : α} (h : Ev (fun k => g (k + 1)) r) : Ev g r := Ev.step (fun _ => rfl) h
theorem evNow {α : Type} {g : Nat → Option α} {r : α} (h : ∀ k, g k = some r) : Ev g r := ⟨0, fun k _ => h k⟩
theorem evCount {σ α : Type} (F : Nat → σ → Int → Option α) (i0 n : Nat) (S : Nat → σ) (r : α)
    (hstep : ∀ i, i0 ≤ i → i < n → Ev (fun k => F k (S (i + 1)) ((i + 1 : Nat) : Int)) r → Ev (fun k => F k (S i) (i : Int)) r) (hend : Ev (fun k => F k (S n) (n : Int)) r) (hle : i0 ≤ n) : Ev (fun k => F k (S i0) (i0 : Int)) r := by
  have key : ∀ d i, i0 ≤ i → i + d = n → Ev (fun k => F k (S i) (i : Int)) r := by
    intro d
    induction d with
    | zero =>
      intro i _ hi
      have h0 : i = n := by omega
      subst h0
      exact hend
    | succ d ih => intro i h0 hi; exact hstep i h0 (by omega) (ih (i + 1) (by omega) (by omega))
  exact key (n - i0) i0 (Nat.le_refl _) (by omega)
/-- A loop that leaves at the first place where G fails. -/
theorem evAll (F : Nat → Int → Option Bool) (i0 n : Nat) (G : Nat → Prop)
    (hstep : ∀ i, i0 ≤ i → i < n → G i → ∀ r, Ev (fun k => F k ((i + 1 : Nat) : Int)) r → Ev (fun k => F k (i : Int)) r) (hbad : ∀ i, i0 ≤ i → i < n → ¬ G i → Ev (fun k => F k (i : Int)) false) (e : Bool) (hend : Ev (fun k => F k (n : Int)) e) (hle : i0 ≤ n) :
    Ev (fun k => F k (i0 : Int)) (B (∀ j, i0 ≤ j → j < n → G j) && e) := by
  have key : ∀ d i, i0 ≤ i → i + d = n → Ev (fun k => F k (i : Int)) (B (∀ j, i ≤ j → j < n → G j) && e) := by
    intro d
    induction d with
    | zero =>
      intro i _ hi
      have h0 : i = n := by omega
      subst h0
      rw [B_true (fun j h1 h2 => absurd h2 (by omega)), Bool.true_and]
      exact hend
    | succ d ih =>
      intro i h0 hi
      by_cases hg : G i
      · have h1 : B (∀ j, i ≤ j → j < n → G j) = B (∀ j, i + 1 ≤ j → j < n → G j) := B_congr ⟨fun h j a b => h j (by omega) b, fun h j a b => by
          by_cases e : j = i
          · subst e; exact hg
          · exact h j (by omega) b⟩
        rw [h1]
        exact hstep i h0 (by omega) hg _ (ih (i + 1) (by omega) (by omega))
      · rw [B_false (fun h => hg (h i (Nat.le_refl _) (by omega))), Bool.false_and]
        exact hbad i h0 (by omega) hg
  exact key (n - i0) i0 (Nat.le_refl _) (by omega)
theorem wrapNat {i : Nat} (h : i < 4611686018427387904) : wrap64 ((i : Int) + 1) = ((i + 1 : Nat) : Int) := by
  unfold wrap64; omega
theorem wrapPred {i : Nat} (h0 : 1 ≤ i) (h : i < 4611686018427387904) : wrap64 ((i : Int) - 1) = ((i - 1 : Nat) : Int) := by
  unfold wrap64; omega
theorem rdN (xs : List Int) (i : Nat) (h : i < xs.length) : rd xs (i : Int) = xs[i] := by
  simp [rd, List.getD_eq_getElem?_getD, List.getElem?_eq_getElem h]
theorem fillStep {α : Type} (xs : List α) (z : α) (i : Nat) (h : i < xs.length) : (xs.take i ++ List.replicate (xs.length - i) z).set i xs[i] = xs.take (i + 1) ++ List.replicate (xs.length - (i + 1)) z := by
  have h1 : xs.length - i = (xs.length - (i + 1)) + 1 := by omega
  rw [h1, List.replicate_succ, List.set_append_right _ _ (by rw [List.length_take]; omega)]
  rw [List.length_take, Nat.min_eq_left (by omega), Nat.sub_self, List.set_cons_zero, List.take_succ_eq_append_getElem h, List.append_assoc]
  rfl
theorem fillLen {α : Type} (xs : List α) (z : α) (i : Nat) (h : i ≤ xs.length) : (xs.take i ++ List.replicate (xs.length - i) z).length = xs.length := by
  simp; omega

theorem wrapIn {x : Int} (h0 : -9223372036854775808 ≤ x) (h1 : x ≤ 9223372036854775807) : wrap64 x = x := by
  unfold wrap64; omega

/-- The seven digits. -/
def dsL (n : Int) : List Int := [n / 1000000 % 10, n / 100000 % 10, n / 10000 % 10, n / 1000 % 10, n / 100 % 10, n / 10 % 10, n % 10]
theorem dsL_in (n : Int) : ∀ x ∈ dsL n, 0 ≤ x ∧ x ≤ 9 := by
  intro x hx
  simp only [dsL, List.mem_cons, List.not_mem_nil, or_false] at hx
  rcases hx with rfl | rfl | rfl | rfl | rfl | rfl | rfl <;> omega

theorem inS (a b c : Int) : spec_l01In.f a b c = some (decide (b ≤ a ∧ a ≤ c)) := by
  unfold spec_l01In.f
  by_cases h : b ≤ a <;> simp [h]

theorem inI (a b c : Int) : impl_inRange.f a b c = some (decide (b ≤ a ∧ a ≤ c)) := by
  unfold impl_inRange.f
  by_cases h : b ≤ a <;> simp [h]

def codeB (a : Int) : Bool := decide ((0 ≤ a ∧ a ≤ 9999999) ∧ (1 ≤ Int.tmod a 100 ∧ Int.tmod a 100 ≤ 97) ∧ Int.tmod a 97 = 1)
theorem codeS (a : Int) : spec_IsCode.f a = some (codeB a) := by
  unfold spec_IsCode.f spec_l15Remainder.f codeB
  simp only [inS, Option.bind_some]
  by_cases h1 : (0 ≤ a ∧ a ≤ 9999999) <;> by_cases h2 : (1 ≤ Int.tmod a 100 ∧ Int.tmod a 100 ≤ 97) <;> by_cases h3 : Int.tmod a 97 = 1 <;> simp [h1, h2, h3]
theorem codeI (a : Int) : impl_IsCode.f a = some (codeB a) := by
  unfold impl_IsCode.f codeB
  simp only [inI, Option.bind_some]
  by_cases h1 : (0 ≤ a ∧ a ≤ 9999999) <;> by_cases h2 : (1 ≤ Int.tmod a 100 ∧ Int.tmod a 100 ≤ 97) <;> by_cases h3 : Int.tmod a 97 = 1 <;> simp [h1, h2, h3]

/-- Digits as bytes. -/
def txtD (l : List Int) : List UInt8 := l.map fun d => UInt8.ofNat (48 + d.toNat)
theorem txtD_len (l : List Int) : (txtD l).length = l.length := by simp [txtD]
theorem sizeOf_mk (l : List UInt8) : (⟨l.toArray⟩ : ByteArray).size = l.length := rfl
theorem app_nil (l : List UInt8) : (⟨l.toArray⟩ : ByteArray) ++ (⟨#[]⟩ : ByteArray) = ⟨l.toArray⟩ := by
  apply ByteArray.ext
  rw [ByteArray.data_append]
  simp
theorem app_one (l : List UInt8) (b : UInt8) : (⟨l.toArray⟩ : ByteArray) ++ (⟨#[b]⟩ : ByteArray) = ⟨(l ++ [b]).toArray⟩ := by
  apply ByteArray.ext
  rw [ByteArray.data_append]
  simp
theorem app_two (l m : List UInt8) : (⟨l.toArray⟩ : ByteArray) ++ (⟨m.toArray⟩ : ByteArray) = ⟨(l ++ m).toArray⟩ := by
  apply ByteArray.ext
  rw [ByteArray.data_append]
  simp
/-- A code's text. -/
def codeTxt (n : Int) : ByteArray := if codeB n = true then ⟨(txtD (dsL n)).toArray⟩ else ⟨#[]⟩
theorem code_in {n : Int} (h : codeB n = true) : 0 ≤ n ∧ n ≤ 9999999 := (of_decide_eq_true h).1
/-- The last j digits. -/
def padD : Nat → Nat → List UInt8
  | 0, _ => []
  | j + 1, u => padD j (u / 10) ++ [UInt8.ofNat (48 + u % 10)]
theorem rep_snoc (b : UInt8) : ∀ c : Nat, Go.Lib.repeatL [b] (c + 1) = Go.Lib.repeatL [b] c ++ [b]
  | 0 => rfl
  | c + 1 => by
    show [b] ++ Go.Lib.repeatL [b] (c + 1) = ([b] ++ Go.Lib.repeatL [b] c) ++ [b]
    rw [rep_snoc b c, List.append_assoc]
theorem padD_zero : ∀ j : Nat, padD j 0 = Go.Lib.repeatL [48] j
  | 0 => rfl
  | j + 1 => by rw [rep_snoc, padD, show 0 / 10 = 0 from rfl, padD_zero j]; rfl
theorem pad_eq : ∀ (j u : Nat), 1 ≤ j → u < 10 ^ j → Go.Lib.repeatL [48] (j - (Go.Lib.decDigits u).length) ++ Go.Lib.decDigits u = padD j u
  | 0, _, h, _ => absurd h (by decide)
  | j + 1, u, _, h => by
    by_cases hu : u < 10
    · rw [Go.Lib.decDigits, dif_pos hu, padD, show u / 10 = 0 by omega, padD_zero, show u % 10 = u by omega]
      rfl
    · have hj : 1 ≤ j := by
        rcases Nat.eq_zero_or_pos j with rfl | h1
        · simp at h; omega
        · exact h1
      have ih := pad_eq j (u / 10) hj (by rw [Nat.pow_succ] at h; omega)
      rw [Go.Lib.decDigits, dif_neg hu, padD, ← ih, List.length_append, List.length_singleton, show j + 1 - ((Go.Lib.decDigits (u / 10)).length + 1) = j - (Go.Lib.decDigits (u / 10)).length by omega, List.append_assoc]
theorem padD7 (u : Nat) : padD 7 u = txtD (dsL (u : Int)) := by
  have e0 : ((u : Int) % 10).toNat = u % 10 := by omega
  have e1 : ((u : Int) / 10 % 10).toNat = u / 10 % 10 := by omega
  have e2 : ((u : Int) / 100 % 10).toNat = u / 10 / 10 % 10 := by omega
  have e3 : ((u : Int) / 1000 % 10).toNat = u / 10 / 10 / 10 % 10 := by omega
  have e4 : ((u : Int) / 10000 % 10).toNat = u / 10 / 10 / 10 / 10 % 10 := by omega
  have e5 : ((u : Int) / 100000 % 10).toNat = u / 10 / 10 / 10 / 10 / 10 % 10 := by omega
  have e6 : ((u : Int) / 1000000 % 10).toNat = u / 10 / 10 / 10 / 10 / 10 / 10 % 10 := by omega
  simp only [padD, txtD, dsL, List.map_cons, List.map_nil, e0, e1, e2, e3, e4, e5, e6, List.nil_append, List.cons_append]
theorem textI (n : Int) : impl_CodeText.f n = some (codeTxt n) := by
  unfold impl_CodeText.f codeTxt
  simp only [codeI, Option.bind_some]
  by_cases c : codeB n = true
  · simp only [c, if_true]
    have h := code_in c
    obtain ⟨u, rfl⟩ := Int.eq_ofNat_of_zero_le h.1
    rw [impl_CodeText.txt, app_two, Go.Lib.itoa_nonneg, pad_eq 7 u (by decide) (by omega), padD7]
  · rw [if_neg c, if_neg c]

def num : List Int → Int
  | l => l.foldl (fun x d => 10 * x + d) 0
theorem num_snoc (l : List Int) (d : Int) : num (l ++ [d]) = 10 * num l + d := by simp [num]
def pw : Nat → Int
  | 0 => 1
  | j + 1 => 10 * pw j
theorem num_in (l : List Int) (h : ∀ x ∈ l, 0 ≤ x ∧ x ≤ 9) : ∀ i : Nat, i ≤ l.length → 0 ≤ num (l.take i) ∧ num (l.take i) < pw i
  | 0, _ => by simp [num, pw]
  | i + 1, hi => by
    have := num_in l h i (by omega)
    rw [List.take_succ_eq_append_getElem (by omega), num_snoc]
    have := h l[i] (List.getElem_mem _)
    simp only [pw]
    omega
theorem pw_mono (i : Nat) : pw i ≤ pw (i + 1) ∧ 1 ≤ pw i := by
  induction i with
  | zero => simp [pw]
  | succ i ih => simp only [pw] at ih ⊢; omega
theorem pw_le : ∀ d i : Nat, pw i ≤ pw (i + d)
  | 0, _ => Int.le_refl _
  | d + 1, i => Int.le_trans (pw_le d i) (pw_mono (i + d)).1
theorem numS (l : List Int) (h : ∀ x ∈ l, 0 ≤ x ∧ x ≤ 9) (hl : l.length ≤ 7) : Ev (fun k => spec_l15Number.f k l) (num l) := by
  unfold spec_l15Number.f
  have := evCount (fun k (x : Int) i => spec_l15Number.l0 k l x i) 0 l.length (fun i => num (l.take i)) (num l) ?_ ?_ (Nat.zero_le _)
  · simpa [num] using this
  · intro i _ hi hr
    refine evSucc ?_
    have h1 := num_in l h i (by omega)
    have h2 := pw_le (7 - i) i
    rw [show i + (7 - i) = 7 by omega, show pw 7 = 10000000 from rfl] at h2
    have h3 := h l[i] (List.getElem_mem _)
    rw [List.take_succ_eq_append_getElem hi, num_snoc] at hr
    simp only [spec_l15Number.l0, show (i : Int) < (l.length : Int) by omega, show (0 : Int) ≤ (i : Int) by omega, if_true, rdN l i hi, wrapNat (show i < 4611686018427387904 by omega), wrapIn (show -9223372036854775808 ≤ 10 * num (l.take i) by omega) (show 10 * num (l.take i) ≤ 9223372036854775807 by omega), wrapIn (show -9223372036854775808 ≤ 10 * num (l.take i) + l[i] by omega) (show 10 * num (l.take i) + l[i] ≤ 9223372036854775807 by omega)]
    exact hr
  · refine evSucc ?_
    simp only [spec_l15Number.l0, Int.lt_irrefl, if_false, List.take_length]
    exact Ev.now _

theorem ba_len (s : ByteArray) : s.data.toList.length = s.size := Array.length_toList
theorem ba_loop (s : ByteArray) : ∀ (d i : Nat) (r : List UInt8), i + d = s.size → ByteArray.toList.loop s i r = r.reverse ++ s.data.toList.drop i := by
  have hl := ba_len s
  intro d
  induction d with
  | zero =>
    intro i r h
    unfold ByteArray.toList.loop
    rw [if_neg (by omega), List.drop_eq_nil_of_le (by omega), List.append_nil]
  | succ d ih =>
    intro i r h
    unfold ByteArray.toList.loop
    have e : s.get! i = s.data.toList[i]'(by omega) := by
      obtain ⟨a⟩ := s
      have hi : i < a.size := by have : (ByteArray.mk a).size = a.size := rfl; omega
      show a[i]! = _
      rw [getElem!_pos a i hi]
      rfl
    rw [if_pos (by omega), ih (i + 1) _ (by omega), List.drop_eq_getElem_cons (show i < s.data.toList.length by omega), e, List.reverse_cons, List.append_assoc]
    rfl
theorem ba_toList (s : ByteArray) : s.toList = s.data.toList := by
  unfold ByteArray.toList
  rw [ba_loop s s.size 0 [] (by omega)]
  rfl
theorem bt_rd (s : ByteArray) (i : Nat) (h : i < s.size) : bt s (i : Int) = rd (bytesOf s) (i : Int) := by
  have hl := ba_len s
  unfold bt rd bytesOf
  rw [Int.toNat_natCast, dif_pos h, List.getD_eq_getElem?_getD, List.getElem?_map, List.getElem?_eq_getElem (by omega)]
  rfl
theorem bytes_len (s : ByteArray) : (bytesOf s).length = s.size := by unfold bytesOf; rw [List.length_map, ba_len]
theorem bytes_in (s : ByteArray) : ∀ x ∈ bytesOf s, 0 ≤ x ∧ x ≤ 255 := by
  intro x hx
  unfold bytesOf at hx
  obtain ⟨b, _, rfl⟩ := List.mem_map.1 hx
  have := b.toNat_lt
  omega
theorem count_bytes (l : List UInt8) (b : UInt8) : l.count b = (l.map fun c => (c.toNat : Int)).count ((b.toNat : Nat) : Int) := by
  induction l with
  | nil => rfl
  | cons c l ih =>
    rw [List.map_cons, List.count_cons, List.count_cons, ih]
    by_cases e : c = b
    · subst e; simp
    · have : ¬ c.toNat = b.toNat := fun g => e (UInt8.toNat_inj.1 g)
      rw [beq_eq_false_iff_ne.mpr e, beq_eq_false_iff_ne.mpr (by omega)]

theorem dsL_num (a b c d e f g : Int) (ha : 0 ≤ a ∧ a ≤ 9) (hb : 0 ≤ b ∧ b ≤ 9) (hc : 0 ≤ c ∧ c ≤ 9) (hd : 0 ≤ d ∧ d ≤ 9) (he : 0 ≤ e ∧ e ≤ 9) (hf : 0 ≤ f ∧ f ≤ 9) (hg : 0 ≤ g ∧ g ≤ 9) : dsL (num [a, b, c, d, e, f, g]) = [a, b, c, d, e, f, g] := by
  have h : num [a, b, c, d, e, f, g] = 1000000 * a + 100000 * b + 10000 * c + 1000 * d + 100 * e + 10 * f + g := by
    simp only [num, List.foldl_cons, List.foldl_nil]; omega
  rw [h]
  unfold dsL
  generalize hn : 1000000 * a + 100000 * b + 10000 * c + 1000 * d + 100 * e + 10 * f + g = n
  have x1 : n / 1000000 % 10 = a := by omega
  have x2 : n / 100000 % 10 = b := by omega
  have x3 : n / 10000 % 10 = c := by omega
  have x4 : n / 1000 % 10 = d := by omega
  have x5 : n / 100 % 10 = e := by omega
  have x6 : n / 10 % 10 = f := by omega
  have x7 : n % 10 = g := by omega
  rw [x1, x2, x3, x4, x5, x6, x7]
theorem num_dsL (n : Int) (h0 : 0 ≤ n) (h1 : n ≤ 9999999) : num (dsL n) = n := by
  simp only [num, dsL, List.foldl_cons, List.foldl_nil]; omega
theorem seven_of (l : List Int) (h : l.length = 7) : ∃ a b c d e f g, l = [a, b, c, d, e, f, g] := by
  match l, h with
  | [a, b, c, d, e, f, g], _ => exact ⟨a, b, c, d, e, f, g, rfl⟩
theorem dsL_num' (l : List Int) (h : l.length = 7) (hl : ∀ x ∈ l, 0 ≤ x ∧ x ≤ 9) : dsL (num l) = l := by
  obtain ⟨a, b, c, d, e, f, g, rfl⟩ := seven_of l h
  exact dsL_num a b c d e f g (hl a (by simp)) (hl b (by simp)) (hl c (by simp)) (hl d (by simp)) (hl e (by simp)) (hl f (by simp)) (hl g (by simp))
/-- The digits that bytes stand for. -/
def dgsL (l : List UInt8) : List Int := l.map fun b => (b.toNat : Int) - 48
theorem dgs_txt (l : List UInt8) (h : ∀ b ∈ l, 48 ≤ b.toNat ∧ b.toNat ≤ 57) : txtD (dgsL l) = l := by
  unfold txtD dgsL
  rw [List.map_map]
  have : ∀ b ∈ l, ((fun d : Int => UInt8.ofNat (48 + d.toNat)) ∘ fun b : UInt8 => (b.toNat : Int) - 48) b = b := by
    intro b hb
    have := h b hb
    show UInt8.ofNat (48 + ((b.toNat : Int) - 48).toNat) = b
    rw [show 48 + ((b.toNat : Int) - 48).toNat = b.toNat by omega]
    simp
  rw [List.map_congr_left this, List.map_id']
theorem dgs_in (l : List UInt8) (h : ∀ b ∈ l, 48 ≤ b.toNat ∧ b.toNat ≤ 57) : ∀ x ∈ dgsL l, 0 ≤ x ∧ x ≤ 9 := by
  intro x hx
  obtain ⟨b, hb, rfl⟩ := List.mem_map.1 hx
  have := h b hb
  omega
theorem byteOf (x : Int) (h0 : 0 ≤ x) (h1 : x ≤ 9) : (UInt8.ofNat (48 + x.toNat)).toNat = 48 + x.toNat := by
  rw [UInt8.toNat_ofNat']
  exact Nat.mod_eq_of_lt (by omega)
theorem txt_in (l : List Int) (h : ∀ x ∈ l, 0 ≤ x ∧ x ≤ 9) : ∀ b ∈ txtD l, 48 ≤ b.toNat ∧ b.toNat ≤ 57 := by
  intro b hb
  unfold txtD at hb
  obtain ⟨x, hx, rfl⟩ := List.mem_map.1 hb
  have h9 := h x hx
  rw [byteOf x h9.1 h9.2]
  omega
theorem txt_dgs (l : List Int) (h : ∀ x ∈ l, 0 ≤ x ∧ x ≤ 9) : dgsL (txtD l) = l := by
  unfold txtD dgsL
  rw [List.map_map]
  have : ∀ x ∈ l, ((fun b : UInt8 => (b.toNat : Int) - 48) ∘ fun d : Int => UInt8.ofNat (48 + d.toNat)) x = x := by
    intro x hx
    have := h x hx
    show ((UInt8.ofNat (48 + x.toNat)).toNat : Int) - 48 = x
    rw [byteOf x this.1 this.2]
    omega
  rw [List.map_congr_left this, List.map_id']
def numN (l : List UInt8) (acc : Nat) : Nat := l.foldl (fun x b => x * 10 + (b.toNat - 48)) acc
theorem numN_nil (acc : Nat) : numN [] acc = acc := List.foldl_nil
theorem numN_cons (b : UInt8) (r : List UInt8) (acc : Nat) : numN (b :: r) acc = numN r (acc * 10 + (b.toNat - 48)) := List.foldl_cons ..
theorem numN_eq : ∀ (l : List UInt8) (acc : Nat), (∀ b ∈ l, 48 ≤ b.toNat ∧ b.toNat ≤ 57) → ((numN l acc : Nat) : Int) = (dgsL l).foldl (fun x d => 10 * x + d) (acc : Int)
  | [], acc, _ => by rw [numN_nil]; simp [dgsL]
  | b :: r, acc, h => by
    have hb := h b (by simp)
    rw [numN_cons, numN_eq r _ fun x hx => h x (by simp [hx])]
    show _ = (dgsL r).foldl _ (10 * (acc : Int) + ((b.toNat : Int) - 48))
    congr 1
    omega
theorem parseM : ∀ (l : List UInt8) (acc j : Nat), (∀ b ∈ l, 48 ≤ b.toNat ∧ b.toNat ≤ 57) → acc < 10 ^ j → j + l.length ≤ 7 → Go.Lib.parseUintM (2 ^ 64 - 1) acc l = .ok (numN l acc)
  | [], acc, j, _, _, _ => by rw [Go.Lib.parseUintM, numN_nil]
  | b :: r, acc, j, h, ha, hj => by
    have hb := h b (by simp)
    have hl : j + 1 + r.length ≤ 7 := by simp at hj; omega
    have hp : 10 ^ j ≤ 10 ^ 6 := Nat.pow_le_pow_right (by decide) (by omega)
    have h6 : (10 : Nat) ^ 6 = 1000000 := by decide
    rw [Go.Lib.parseUintM, if_pos hb, if_neg (by omega), if_neg (by omega), numN_cons]
    exact parseM r _ (j + 1) (fun x hx => h x (by simp [hx])) (by rw [Nat.pow_succ]; omega) hl
theorem parse_ok (l : List UInt8) (hl : l.length = 7) (h : ∀ b ∈ l, 48 ≤ b.toNat ∧ b.toNat ≤ 57) : Go.Lib.parseIntB 64 l = .ok (num (dgsL l)) := by
  have hm := parseM l 0 0 h (by decide) (by omega)
  have hn : ((numN l 0 : Nat) : Int) = num (dgsL l) := numN_eq l 0 h
  have hin : num (dgsL l) < 10000000 := by
    obtain ⟨a, b, c, d, e, f, g, hx⟩ := seven_of (dgsL l) (by simp [dgsL, hl])
    have hi := dgs_in l h
    rw [hx] at hi ⊢
    have := hi a (by simp); have := hi b (by simp); have := hi c (by simp); have := hi d (by simp); have := hi e (by simp); have := hi f (by simp); have := hi g (by simp)
    simp only [num, List.foldl_cons, List.foldl_nil]
    omega
  match l, hl with
  | c :: r, _ =>
    have hc := h c (by simp)
    have hne : ¬ (c.toNat = 43 ∨ c.toNat = 45) := by omega
    have h45 : ¬ c.toNat = 45 := by omega
    have hbig : ¬ (¬ c.toNat = 45 ∧ 2 ^ (64 - 1) ≤ numN (c :: r) 0) := by
      rw [show (2 : Nat) ^ (64 - 1) = 9223372036854775808 by decide]; omega
    have hbig2 : ¬ (c.toNat = 45 ∧ 2 ^ (64 - 1) < numN (c :: r) 0) := fun h => h45 h.1
    unfold Go.Lib.parseIntB
    dsimp only
    rw [if_neg hne, Go.Lib.parseUintB, if_neg (List.cons_ne_nil _ _), hm]
    dsimp only
    rw [if_neg hbig, if_neg hbig2, if_neg h45, hn]
def isC (l : List UInt8) : Prop := l.length = 7 ∧ (∀ b ∈ l, 48 ≤ b.toNat ∧ b.toNat ≤ 57) ∧ codeB (num (dgsL l)) = true
noncomputable def readV (l : List UInt8) : Int × Bool := @ite _ (isC l) (Classical.propDecidable _) (num (dgsL l), true) (0, false)
theorem readV_yes {l : List UInt8} (h : isC l) : readV l = (num (dgsL l), true) := by unfold readV; exact if_pos h
theorem readV_no {l : List UInt8} (h : ¬ isC l) : readV l = (0, false) := by unfold readV; exact if_neg h
theorem readI (s : ByteArray) (hs : s.size ≤ 281474976710656) : impl_ReadCode.f s = some (readV s.data.toList) := by
  unfold impl_ReadCode.f
  rw [if_pos hs]
  by_cases c : isC s.data.toList
  · obtain ⟨h1, h2, h3⟩ := c
    rw [readV_yes ⟨h1, h2, h3⟩, parse_ok _ h1 h2]
    simp only [textI, Option.bind_some]
    have : codeTxt (num (dgsL s.data.toList)) = s := by
      unfold codeTxt
      rw [if_pos h3, dsL_num' _ (by simp [dgsL, h1]) (dgs_in _ h2), dgs_txt _ h2]
    rw [if_pos this]
  · rw [readV_no c]
    split
    · rename_i v hv
      simp only [textI, Option.bind_some]
      by_cases ht : codeTxt v = s
      · exfalso
        apply c
        unfold codeTxt at ht
        by_cases hc : codeB v = true
        · rw [if_pos hc] at ht
          have hl : s.data.toList = txtD (dsL v) := by rw [← ht]
          have hin := code_in hc
          rw [hl]
          exact ⟨by simp [txtD, dsL], txt_in _ (dsL_in v), by rw [txt_dgs _ (dsL_in v), num_dsL v hin.1 hin.2]; exact hc⟩
        · rw [if_neg hc] at ht
          subst ht
          simp [Go.Lib.parseIntB] at hv
      · rw [if_neg ht]
    · rfl
theorem readS (s : ByteArray) : Ev (fun k => spec_ReadCode.f k s) (readV s.data.toList) := by
  have hlen := ba_len s
  unfold spec_ReadCode.f
  by_cases h7 : (s.size : Int) = 7
  · simp only [h7, if_true]
    have h7' : s.data.toList.length = 7 := by omega
    by_cases hall : ∀ b ∈ s.data.toList, 48 ≤ b.toNat ∧ b.toNat ≤ 57
    · refine evCount (fun k (x : List Int) i => spec_ReadCode.l0 k s x i) 0 7 (fun i => (dgsL s.data.toList).take i) _ ?_ ?_ (by decide)
      · intro i _ hi hr
        have hb : bt s (i : Int) = ((s.data.toList[i]'(by omega)).toNat : Int) := by
          rw [bt_rd s i (by omega), rdN _ i (by rw [bytes_len]; omega)]
          simp [bytesOf]
        have hm := hall (s.data.toList[i]'(by omega)) (List.getElem_mem _)
        have hx : (dgsL s.data.toList).take (i + 1) = (dgsL s.data.toList).take i ++ [((s.data.toList[i]'(by omega)).toNat : Int) - 48] := by
          rw [List.take_succ_eq_append_getElem (by simp [dgsL]; omega)]; simp [dgsL]
        refine evSucc ?_
        simp only [spec_ReadCode.l0, show (i : Int) < (s.size : Int) by omega, show (0 : Int) ≤ (i : Int) by omega, if_true, hb, show ¬ ((s.data.toList[i]'(by omega)).toNat : Int) < 48 by omega, show ¬ ((s.data.toList[i]'(by omega)).toNat : Int) > 57 by omega, if_false, show (((s.data.toList[i]'(by omega)).toNat : Int) - 48) % 256 = ((s.data.toList[i]'(by omega)).toNat : Int) - 48 by omega, wrapNat (show i < 4611686018427387904 by omega), ← hx, show ((dgsL s.data.toList).take i).length < 17592186044416 by rw [List.length_take]; omega]
        exact hr
      · refine evSucc ?_
        simp only [spec_ReadCode.l0, show ¬ (((7 : Nat) : Int) < (s.size : Int)) by omega, if_false]
        rw [List.take_of_length_le (by simp [dgsL]; omega)]
        refine Ev.bind (numS _ (dgs_in _ hall) (by simp [dgsL]; omega)) ?_
        simp only [codeS, Option.bind_some]
        by_cases c : codeB (num (dgsL s.data.toList)) = true
        · rw [readV_yes ⟨h7', hall, c⟩]
          simp only [c, if_true]
          exact evNow fun _ => rfl
        · rw [readV_no fun h => c h.2.2]
          refine evNow fun _ => ?_
          rw [if_neg c]
    · rw [readV_no fun h => hall h.2.1]
      have key : ∀ d i : Nat, i + d = 7 → (∀ j (hj : j < i) (hj' : j < s.data.toList.length), 48 ≤ (s.data.toList[j]).toNat ∧ (s.data.toList[j]).toNat ≤ 57) → ∀ x : List Int, x.length = i → Ev (fun k => spec_ReadCode.l0 k s x (i : Int)) (0, false) := by
        intro d
        induction d with
        | zero =>
          intro i hi hok x _
          exact absurd (fun b hb => by obtain ⟨j, hj, rfl⟩ := List.mem_iff_getElem.1 hb; exact hok j (by omega) hj) hall
        | succ d ih =>
          intro i hi hok x hx
          have hb : bt s (i : Int) = ((s.data.toList[i]'(by omega)).toNat : Int) := by
            rw [bt_rd s i (by omega), rdN _ i (by rw [bytes_len]; omega)]
            simp [bytesOf]
          refine evSucc ?_
          simp only [spec_ReadCode.l0, show (i : Int) < (s.size : Int) by omega, show (0 : Int) ≤ (i : Int) by omega, if_true, hb]
          by_cases h1 : ((s.data.toList[i]'(by omega)).toNat : Int) < 48
          · simp only [h1, if_true]; exact evNow fun _ => rfl
          · by_cases h2 : ((s.data.toList[i]'(by omega)).toNat : Int) > 57
            · simp only [h1, if_false, h2, if_true]; exact evNow fun _ => rfl
            · simp only [h1, if_false, h2, wrapNat (show i < 4611686018427387904 by omega), show x.length < 17592186044416 by omega, if_true]
              refine ih (i + 1) (by omega) ?_ _ (by simp [hx])
              intro j hj hj'
              by_cases e : j = i
              · subst e; omega
              · exact hok j (by omega) hj'
      exact key 7 0 rfl (fun j hj => absurd hj (by omega)) [] rfl
  · simp only [h7, if_false]
    rw [readV_no fun h => h7 (by have := h.1; omega)]
    exact evNow fun _ => rfl

theorem FnExactReadCode : laws_FnExactReadCode.Pure := by
  intro s hs
  refine Ev.rounds ?_
  unfold laws_FnExactReadCode.f
  by_cases hl : (s.size : Int) > 1048576
  · simp only [hl, if_true]
    exact Ev.now _
  · simp only [hl, if_false]
    refine Ev.bind (readS s) ?_
    simp only [readI s (by omega), Option.bind_some, if_true, bne_self_eq_false]
    exact evNow fun _ => rfl

end Go.Proofs.YtnnglnphkbpemaaDoor.Pure
