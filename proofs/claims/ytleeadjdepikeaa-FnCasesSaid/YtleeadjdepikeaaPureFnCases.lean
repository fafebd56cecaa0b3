/- For every string of at most 4096 bytes the drawn block, rule and case make the program and the reference agree on the case and on the block; the block that is found for a case has that case, and the block of a case is found again. -/
import Derived.Test.YtleeadjdepikeaaSayFnCases
namespace Go.Proofs.Ytleeadjdepikeaa.Pure
open Go.RowKit Go.Proofs.Ytleeadjdepikeaa.PFnCases Go.Proofs.YtleeadjdepikeaaW.PrintWords Go.Proofs.YtleeadjdepikeaaW.PrintLast
set_option linter.unusedVariables false
set_option linter.unusedSimpArgs false
-- BEGIN
theorem inS (a b c : Int) : spec_l01In.f a b c = some (decide (b ≤ a ∧ a ≤ c)) := by
  unfold spec_l01In.f
  by_cases h : b ≤ a <;> simp [h]

theorem inI (a b c : Int) : impl_inRange.f a b c = some (decide (b ≤ a ∧ a ≤ c)) := by
  unfold impl_inRange.f
  by_cases h : b ≤ a <;> simp [h]

def blockB (a b c : Int) : Bool := decide (1 ≤ a ∧ a ≤ 20000) && (decide (1 ≤ b ∧ b ≤ 20000) && decide (1 ≤ c ∧ c ≤ 2000))
theorem blockS (a b c : Int) : spec_IsBlock.f a b c = some (blockB a b c) := by
  unfold spec_IsBlock.f blockB
  simp only [inS, Option.bind_some]
  by_cases h1 : (1 ≤ a ∧ a ≤ 20000) <;> by_cases h2 : (1 ≤ b ∧ b ≤ 20000) <;> simp [h1, h2]
theorem blockI (a b c : Int) : impl_IsBlock.f a b c = some (blockB a b c) := by
  unfold impl_IsBlock.f blockB
  simp only [inI, Option.bind_some]
  by_cases h1 : (1 ≤ a ∧ a ≤ 20000) <;> by_cases h2 : (1 ≤ b ∧ b ≤ 20000) <;> simp [h1, h2]
theorem block_of {a b c : Int} (h : blockB a b c = true) : 1 ≤ a ∧ a ≤ 20000 ∧ 1 ≤ b ∧ b ≤ 20000 ∧ 1 ≤ c ∧ c ≤ 2000 := by
  unfold blockB at h
  simp at h
  omega

def ruleB (a b c d : Int) : Bool := decide (0 ≤ a ∧ a ≤ 500) && (decide (0 ≤ b ∧ b ≤ 500) && (decide (0 ≤ c ∧ c ≤ 500) && decide (1 ≤ d ∧ d ≤ 500)))
theorem ruleS (a b c d : Int) : spec_IsCaseRule.f a b c d = some (ruleB a b c d) := by
  unfold spec_IsCaseRule.f ruleB
  simp only [inS, Option.bind_some]
  by_cases h1 : (0 ≤ a ∧ a ≤ 500) <;> by_cases h2 : (0 ≤ b ∧ b ≤ 500) <;> by_cases h3 : (0 ≤ c ∧ c ≤ 500) <;> simp [h1, h2, h3]
theorem ruleI (a b c d : Int) : impl_IsCaseRule.f a b c d = some (ruleB a b c d) := by
  unfold impl_IsCaseRule.f ruleB
  simp only [inI, Option.bind_some]
  by_cases h1 : (0 ≤ a ∧ a ≤ 500) <;> by_cases h2 : (0 ≤ b ∧ b ≤ 500) <;> by_cases h3 : (0 ≤ c ∧ c ≤ 500) <;> simp [h1, h2, h3]
theorem rule_of {a b c d : Int} (h : ruleB a b c d = true) : 0 ≤ a ∧ a ≤ 500 ∧ 0 ≤ b ∧ b ≤ 500 ∧ 0 ≤ c ∧ c ≤ 500 ∧ 1 ≤ d ∧ d ≤ 500 := by
  unfold ruleB at h
  simp at h
  omega

theorem wrapIn {x : Int} (h0 : -9223372036854775808 ≤ x) (h1 : x ≤ 9223372036854775807) : wrap64 x = x := by
  unfold wrap64; omega

def caseT (a b c s j t d : Int) : Int × Int × Int × Int × Int := (a + s - j, b + 2 * s, c + 2 * d, 2 * (a + s - j) + 2 * j + (c + 2 * d) + 2 * t, b + 2 * s + 2 * t)
theorem case_calc {a b c s j t d : Int} (hb : blockB a b c = true) (hr : ruleB s j t d = true) : spec_l17Case.f a b c s j t d = some (caseT a b c s j t d) := by
  have h1 := block_of hb
  have h2 := rule_of hr
  unfold spec_l17Case.f caseT spec_l17Case.In
  rw [if_pos (by omega)]
def caseV (a b c s j t d : Int) : Int × Int × Int × Int × Int × Int :=
  if blockB a b c = true ∧ ruleB s j t d = true then (if a + s - j < 1 then (0, 0, 0, 0, 0, 5) else (a + s - j, b + 2 * s, c + 2 * d, 2 * (a + s - j) + 2 * j + (c + 2 * d) + 2 * t, b + 2 * s + 2 * t, 0)) else (0, 0, 0, 0, 0, 1)
theorem caseI (a b c s j t d : Int) : impl_CaseOf.f a b c s j t d = some (caseV a b c s j t d) := rfl
theorem caseV_ok {a b c s j t d : Int} (h : (caseV a b c s j t d).2.2.2.2.2 = 0) : blockB a b c = true ∧ ruleB s j t d = true ∧ 1 ≤ a + s - j ∧ caseV a b c s j t d = (a + s - j, b + 2 * s, c + 2 * d, 2 * (a + s - j) + 2 * j + (c + 2 * d) + 2 * t, b + 2 * s + 2 * t, 0) := by
  unfold caseV at *
  split at h
  · rename_i h1
    split at h
    · cases h
    · rename_i h2
      rw [if_pos h1, if_neg h2]
      exact ⟨h1.1, h1.2, by omega, rfl⟩
  · cases h

theorem caseS (k : Nat) (a b c s j t d : Int) : spec_CaseOf.f (k + 1) a b c s j t d = some (caseV a b c s j t d) := by
  unfold spec_CaseOf.f caseV
  simp only [blockS, ruleS, Option.bind_some, spec_CaseOf.j0]
  cases hb : blockB a b c
  · simp
  · cases hr : ruleB s j t d
    · simp
    · simp only [case_calc hb hr, Option.bind_some, caseT]
      by_cases h : a + s - j < 1 <;> simp [h]

def forW (c0 s j : Int) : Int := wrap64 ((wrap64 (c0 - s)) + j)
def forH (c1 s : Int) : Int := wrap64 (c1 - (wrap64 (2 * s)))
theorem forW_eq (c0 s j : Int) : wrap64 ((wrap64 (c0 - s)) + j) = forW c0 s j := rfl
theorem forH_eq (c1 s : Int) : wrap64 (c1 - (wrap64 (2 * s))) = forH c1 s := rfl
def blockForV (c0 c1 c2 c3 c4 s j t d : Int) : Int × Int × Int × Int :=
  if ruleB s j t d = true then
    (if blockB (forW c0 s j) (forH c1 s) (forH c2 d) = true ∧ (1 ≤ c0 ∧ c0 ≤ 40000) ∧ caseT (forW c0 s j) (forH c1 s) (forH c2 d) s j t d = (c0, c1, c2, c3, c4) then (forW c0 s j, forH c1 s, forH c2 d, 0) else (0, 0, 0, 4))
  else (0, 0, 0, 1)
theorem same5 (x y : Int × Int × Int × Int × Int) : ((!(x.1 == y.1) || (!(x.2.1 == y.2.1) || (!(x.2.2.1 == y.2.2.1) || (!(x.2.2.2.1 == y.2.2.2.1) || (!(x.2.2.2.2 == y.2.2.2.2)))))) = true) ↔ ¬ x = y := by
  obtain ⟨x1, x2, x3, x4, x5⟩ := x
  obtain ⟨y1, y2, y3, y4, y5⟩ := y
  simp only [Prod.mk.injEq, Bool.or_eq_true, Bool.not_eq_true', beq_eq_false_iff_ne, ne_eq]
  omega
theorem blockForS (k : Nat) (c0 c1 c2 c3 c4 s j t d : Int) : spec_BlockFor.f (k + 1) c0 c1 c2 c3 c4 s j t d = some (blockForV c0 c1 c2 c3 c4 s j t d) := by
  unfold spec_BlockFor.f blockForV
  simp only [ruleS, inS, Option.bind_some, spec_BlockFor.j0, blockS, forW_eq, forH_eq]
  cases hr : ruleB s j t d
  · simp
  have h2 := rule_of hr
  cases hb : blockB (forW c0 s j) (forH c1 s) (forH c2 d)
  · simp
  have h1 := block_of hb
  simp only [case_calc hb hr, Option.bind_some]
  have h3 := same5 (caseT (forW c0 s j) (forH c1 s) (forH c2 d) s j t d) (c0, c1, c2, c3, c4)
  simp only at h3
  simp only [h3]
  by_cases he : caseT (forW c0 s j) (forH c1 s) (forH c2 d) s j t d = (c0, c1, c2, c3, c4)
  · have he' := he
    simp only [caseT, Prod.mk.injEq] at he'
    by_cases hc : 1 ≤ c0 ∧ c0 ≤ 40000
    · have hc1 : 1 ≤ c1 ∧ c1 ≤ 40000 := by omega
      have hc2 : 1 ≤ c2 ∧ c2 ≤ 20000 := by omega
      simp [hc, hc1, hc2, he]
    · simp [hc, he]
  · by_cases hc : 1 ≤ c0 ∧ c0 ≤ 40000 <;> by_cases hc1 : 1 ≤ c1 ∧ c1 ≤ 40000 <;> by_cases hc2 : 1 ≤ c2 ∧ c2 ≤ 20000 <;> simp [hc, hc1, hc2, he]
theorem blockForI (c0 c1 c2 c3 c4 s j t d : Int) : impl_BlockFor.f c0 c1 c2 c3 c4 s j t d = some (blockForV c0 c1 c2 c3 c4 s j t d) := by
  unfold impl_BlockFor.f blockForV
  simp only [ruleI, Option.bind_some, forW_eq, forH_eq, caseI]
  cases hr : ruleB s j t d
  · simp
  have h2 := rule_of hr
  cases hb : blockB (forW c0 s j) (forH c1 s) (forH c2 d)
  · simp [caseV, hb]
  have h1 := block_of hb
  simp only [caseV, hb, hr, true_and, if_true]
  by_cases h5 : forW c0 s j + s - j < 1
  · rw [if_pos h5]
    simp only [show ¬ ((5 : Int) = 0) by decide, if_false]
    rw [if_neg]
    rintro ⟨hc, he⟩
    simp only [caseT, Prod.mk.injEq] at he
    omega
  · rw [if_neg h5]
    simp only [if_true]
    have h3 := same5 (caseT (forW c0 s j) (forH c1 s) (forH c2 d) s j t d) (c0, c1, c2, c3, c4)
    simp only [caseT] at h3
    simp only [h3]
    by_cases he : caseT (forW c0 s j) (forH c1 s) (forH c2 d) s j t d = (c0, c1, c2, c3, c4)
    · have he' := he
      simp only [caseT, Prod.mk.injEq] at he'
      have hc : 1 ≤ c0 ∧ c0 ≤ 40000 := by omega
      have he2 := he
      simp only [caseT] at he2
      simp [he, he2, hc]
    · have he2 := he
      simp only [caseT] at he2
      simp [he, he2]

/-- A proposition as a bool. -/
noncomputable def B (p : Prop) : Bool := @decide p (Classical.propDecidable p)
theorem B_iff {p : Prop} : B p = true ↔ p := by unfold B; exact @decide_eq_true_iff p (Classical.propDecidable p)
theorem B_true {p : Prop} (h : p) : B p = true := B_iff.2 h
theorem B_false {p : Prop} (h : ¬ p) : B p = false := by cases e : B p with | false => rfl | true => exact absurd (B_iff.1 e) h
theorem B_congr {p q : Prop} (h : p ↔ q) : B p = B q := by rw [propext h]
theorem B_dec (p : Prop) [Decidable p] : B p = decide p := by by_cases h : p <;> simp [h, B_true, B_false]
theorem B_and (p q : Prop) : (B p && B q) = B (p ∧ q) := by
  by_cases hp : p <;> by_cases hq : q <;> simp [B_true, B_false, hp, hq]
theorem B_not (p : Prop) : (!B p) = B (¬ p) := by by_cases hp : p <;> simp [B_true, B_false, hp]
theorem evSucc {α : Type} {g : Nat → Option α} {r : α} (h : Ev (fun k => g (k + 1)) r) : Ev g r := Ev.step (fun _ => rfl) h
theorem evNow {α : Type} {g : Nat → Option α} {r : α} (h : ∀ k, g k = some r) : Ev g r := ⟨0, fun k _ => h k⟩
theorem evCount {σ α : Type} (F : Nat → σ → Int → Option α) (i0 n : Nat) (S : Nat → σ) (r : α)
    (hstep : ∀ i, i0 ≤ i → i < n → Ev (fun k => F k (S (i + 1)) ((i + 1 : Nat) : Int)) r → Ev (fun k => F k (S i) (i : Int)) r) (hend : Ev (fun k => F k (S n) (n : Int)) r) (hle : i0 ≤ n) : Ev (fun k => F k (S i0) (i0 : Int)) r := by
  have key : ∀ d i, i0 ≤ i → i + d = n → Ev (fun k => F k (S i) (i : Int)) r := by
    intro d
    induction d with
    | zero =>
      intro i _ hi
      have h0 : i = n := by omega
      subst h0
      exact hend
    | succ d ih => intro i h0 hi; exact hstep i h0 (by omega) (ih (i + 1) (by omega) (by omega))
  exact key (n - i0) i0 (Nat.le_refl _) (by omega)
/-- A loop that leaves at the first place where G fails. -/
theorem evAll (F : Nat → Int → Option Bool) (i0 n : Nat) (G : Nat → Prop)
    (hstep : ∀ i, i0 ≤ i → i < n → G i → ∀ r, Ev (fun k => F k ((i + 1 : Nat) : Int)) r → Ev (fun k => F k (i : Int)) r) (hbad : ∀ i, i0 ≤ i → i < n → ¬ G i → Ev (fun k => F k (i : Int)) false) (e : Bool) (hend : Ev (fun k => F k (n : Int)) e) (hle : i0 ≤ n) :
    Ev (fun k => F k (i0 : Int)) (B (∀ j, i0 ≤ j → j < n → G j) && e) := by
  have key : ∀ d i, i0 ≤ i → i + d = n → Ev (fun k => F k (i : Int)) (B (∀ j, i ≤ j → j < n → G j) && e) := by
    intro d
    induction d with
    | zero =>
      intro i _ hi
      have h0 : i = n := by omega
      subst h0
      rw [B_true (fun j h1 h2 => absurd h2 (by omega)), Bool.true_and]
      exact hend
    | succ d ih =>
      intro i h0 hi
      by_cases hg : G i
      · have h1 : B (∀ j, i ≤ j → j < n → G j) = B (∀ j, i + 1 ≤ j → j < n → G j) := B_congr ⟨fun h j a b => h j (by omega) b, fun h j a b => by
          by_cases e : j = i
          · subst e; exact hg
          · exact h j (by omega) b⟩
        rw [h1]
        exact hstep i h0 (by omega) hg _ (ih (i + 1) (by omega) (by omega))
      · rw [B_false (fun h => hg (h i (Nat.le_refl _) (by omega))), Bool.false_and]
        exact hbad i h0 (by omega) hg
  exact key (n - i0) i0 (Nat.le_refl _) (by omega)
theorem wrapNat {i : Nat} (h : i < 4611686018427387904) : wrap64 ((i : Int) + 1) = ((i + 1 : Nat) : Int) := by
  unfold wrap64; omega
theorem wrapPred {i : Nat} (h0 : 1 ≤ i) (h : i < 4611686018427387904) : wrap64 ((i : Int) - 1) = ((i - 1 : Nat) : Int) := by
  unfold wrap64; omega
theorem rdN (xs : List Int) (i : Nat) (h : i < xs.length) : rd xs (i : Int) = xs[i] := by
  simp [rd, List.getD_eq_getElem?_getD, List.getElem?_eq_getElem h]
theorem fillStep {α : Type} (xs : List α) (z : α) (i : Nat) (h : i < xs.length) : (xs.take i ++ List.replicate (xs.length - i) z).set i xs[i] = xs.take (i + 1) ++ List.replicate (xs.length - (i + 1)) z := by
  have h1 : xs.length - i = (xs.length - (i + 1)) + 1 := by omega
  rw [h1, List.replicate_succ, List.set_append_right _ _ (by rw [List.length_take]; omega)]
  rw [List.length_take, Nat.min_eq_left (by omega), Nat.sub_self, List.set_cons_zero, List.take_succ_eq_append_getElem h, List.append_assoc]
  rfl
theorem fillLen {α : Type} (xs : List α) (z : α) (i : Nat) (h : i ≤ xs.length) : (xs.take i ++ List.replicate (xs.length - i) z).length = xs.length := by
  simp; omega

structure OkS (l : List Int) (a s : Int) : Prop where
  bytes : ∀ x ∈ l, 0 ≤ x ∧ x ≤ 255
  len : l.length ≤ 4096
  a0 : 0 ≤ a
  a1 : a ≤ l.length
  s0 : 0 ≤ s
  s1 : s < 2147483647
theorem rd_byte {l : List Int} (h : ∀ x ∈ l, 0 ≤ x ∧ x ≤ 255) (i : Int) : 0 ≤ rd l i ∧ rd l i ≤ 255 := spec_l01Next.byte h i
theorem next_ok {l : List Int} {a s : Int} (h : OkS l a s) (n : Int) :
    ∃ r a' s', spec_l01Next.f l a s n = some (r, a', s') ∧ OkS l a' s' ∧ (1 ≤ n → 0 ≤ r ∧ r < n) ∧ (n ≤ 1 → r = 0) := by
  have hs := h.s0
  have hs1 := h.s1
  have ha0 := h.a0
  have ha1 := h.a1
  have hl := h.len
  have hb := rd_byte h.bytes a
  refine ⟨(spec_l01Next.V l a s n).1, (spec_l01Next.V l a s n).2.1, (spec_l01Next.V l a s n).2.2, ?_, ?_⟩
  · unfold spec_l01Next.f
    rw [if_pos ⟨h.bytes, by omega, ⟨ha0, ha1⟩, hs, hs1⟩]
  · unfold spec_l01Next.V
    have hS0 : 0 ≤ (s * 48271 + 61) % 2147483647 := by omega
    have hS1 : (s * 48271 + 61) % 2147483647 < 2147483647 := by omega
    have modr : ∀ x : Int, 1 < n → 0 ≤ x % n ∧ x % n < n := fun x hn => ⟨Int.emod_nonneg _ (by omega), Int.emod_lt_of_pos _ (by omega)⟩
    by_cases hn : n ≤ 1
    · rw [if_pos hn]
      exact ⟨h, fun _ => ⟨by simp, by simp; omega⟩, fun _ => rfl⟩
    · rw [if_neg hn]
      by_cases c1 : a < (l.length : Int)
      · rw [if_pos c1]
        have ok1 : OkS l (a + 1) ((s * 48271 + 61) % 2147483647) := ⟨h.bytes, h.len, by omega, by omega, hS0, hS1⟩
        by_cases c2 : n ≤ 256 ∧ (a + 1) % 2 = 0
        · rw [if_pos c2]
          exact ⟨ok1, fun _ => modr _ (by omega), fun h1 => absurd h1 hn⟩
        · rw [if_neg c2]
          exact ⟨ok1, fun _ => modr _ (by omega), fun h1 => absurd h1 hn⟩
      · rw [if_neg c1]
        exact ⟨⟨h.bytes, h.len, ha0, ha1, hS0, hS1⟩, fun _ => modr _ (by omega), fun h1 => absurd h1 hn⟩
theorem from_loop (l : List Int) (hb : ∀ x ∈ l, 0 ≤ x ∧ x ≤ 255) (_hl : l.length ≤ 4096) (d : Nat) : ∀ (i : Nat) (s : Int), i + d = l.length → 0 ≤ s → s < 2147483647 → ∃ r, Ev (fun k => spec_l01From.l0 k l (i : Int) l 0 s) (l, 0, r) ∧ 0 ≤ r ∧ r < 2147483647 := by
  induction d with
  | zero =>
    intro i s hi h0 h1
    refine ⟨s, evSucc ?_, h0, h1⟩
    simp only [spec_l01From.l0, show ¬ ((i : Int) < (l.length : Int)) by omega, if_false]
    exact Ev.now _
  | succ d ih =>
    intro i s hi h0 h1
    by_cases h64 : (i : Int) < 64
    · have hr := rd_byte hb (i : Int)
      have he : Int.tmod (wrap64 ((wrap64 (s * 71)) + (wrap64 (rd l (i : Int))))) 2147483647 = (s * 71 + rd l (i : Int)) % 2147483647 := by
        rw [wrapIn (x := s * 71) (by omega) (by omega), wrapIn (x := rd l (i : Int)) (by omega) (by omega), wrapIn (by omega) (by omega), Int.tmod_eq_emod_of_nonneg (by omega)]
      obtain ⟨r, hr1, hr2, hr3⟩ := ih (i + 1) ((s * 71 + rd l (i : Int)) % 2147483647) (by omega) (by omega) (by omega)
      refine ⟨r, evSucc ?_, hr2, hr3⟩
      simp only [spec_l01From.l0, show (i : Int) < (l.length : Int) by omega, h64, show (0 : Int) ≤ (i : Int) by omega, if_true, he, wrapNat (show i < 4611686018427387904 by omega)]
      exact hr1
    · refine ⟨s, evSucc ?_, h0, h1⟩
      simp only [spec_l01From.l0, show (i : Int) < (l.length : Int) by omega, h64, if_true, if_false]
      exact Ev.now _
theorem from_ok (l : List Int) (hw : ∀ x ∈ l, (Lit.int .u8 x).wf = true) (hl : l.length ≤ 4096) : ∃ s, Ev (fun k => spec_l01From.f k l) (l, 0, s) ∧ OkS l 0 s := by
  have hb : ∀ x ∈ l, 0 ≤ x ∧ x ≤ 255 := fun x hx => by
    have := hw x hx
    simp [Lit.wf, IntKind.min, IntKind.max, IntKind.signed, IntKind.bits] at this
    omega
  obtain ⟨r, h1, h2, h3⟩ := from_loop l hb hl l.length 0 88007 (by omega) (by omega) (by omega)
  refine ⟨r, ?_, ⟨hb, hl, by omega, by omega, h2, h3⟩⟩
  unfold spec_l01From.f
  exact h1

theorem pick_ok {l : List Int} {a s : Int} (h : OkS l a s) (xs : List Int) (h0 : 0 < xs.length) :
    ∃ r a' s', spec_l01Pick.f l a s xs = some (r, a', s') ∧ OkS l a' s' ∧ r ∈ xs := by
  obtain ⟨r, a', s', h1, h2, h3, _⟩ := next_ok h (xs.length : Int)
  obtain ⟨h4, h5⟩ := h3 (by omega)
  refine ⟨rd xs r, a', s', ?_, h2, ?_⟩
  · unfold spec_l01Pick.f
    rw [h1]
    simp only [Option.bind_some]
    rw [if_pos h4, if_pos h5]
  · unfold rd
    rw [List.getD_eq_getElem?_getD, List.getElem?_eq_getElem (show r.toNat < xs.length by omega)]
    exact List.getElem_mem _

theorem drawBlock {l : List Int} {a s : Int} (h : OkS l a s) : ∃ x y z a' s', spec_l17DrawBlock.f l a s = some (x, y, z, a', s') ∧ OkS l a' s' := by
  unfold spec_l17DrawBlock.f
  obtain ⟨r1, a1, s1, h1, k1, _⟩ := next_ok h 1500
  simp only [h1, Option.bind_some]
  obtain ⟨r2, a2, s2, h2, k2, _⟩ := next_ok k1 2000
  simp only [h2, Option.bind_some]
  obtain ⟨r3, a3, s3, h3, k3, _⟩ := next_ok k2 400
  simp only [h3, Option.bind_some]
  obtain ⟨r4, a4, s4, h4, k4, _⟩ := next_ok k3 30
  simp only [h4, Option.bind_some]
  by_cases c1 : r4 = 0
  · obtain ⟨r5, a5, s5, h5, k5, _⟩ := pick_ok k4 [0, 1, 30, 20000, 20001] (by decide)
    simp only [c1, if_true, h5, Option.bind_some]
    exact ⟨_, _, _, _, _, rfl, k5⟩
  · by_cases c2 : r4 = 1
    · obtain ⟨r5, a5, s5, h5, k5, _⟩ := pick_ok k4 [0, 1, 2000, 2001] (by decide)
      simp only [c2, show ¬ ((1 : Int) = 0) by decide, if_true, if_false, h5, Option.bind_some]
      exact ⟨_, _, _, _, _, rfl, k5⟩
    · simp only [c1, c2, if_false]
      exact ⟨_, _, _, _, _, rfl, k4⟩

theorem drawRule {l : List Int} {a s : Int} (h : OkS l a s) : ∃ x y z t a' s', spec_l17DrawRule.f l a s = some (x, y, z, t, a', s') ∧ OkS l a' s' := by
  unfold spec_l17DrawRule.f
  obtain ⟨r1, a1, s1, h1, k1, _⟩ := next_ok h 20
  simp only [h1, Option.bind_some]
  obtain ⟨r2, a2, s2, h2, k2, _⟩ := next_ok k1 30
  simp only [h2, Option.bind_some]
  obtain ⟨r3, a3, s3, h3, k3, _⟩ := next_ok k2 30
  simp only [h3, Option.bind_some]
  obtain ⟨r4, a4, s4, h4, k4, _⟩ := next_ok k3 15
  simp only [h4, Option.bind_some]
  obtain ⟨r5, a5, s5, h5, k5, _⟩ := next_ok k4 30
  simp only [h5, Option.bind_some]
  by_cases c1 : r5 = 0
  · obtain ⟨r6, a6, s6, h6, k6, _⟩ := pick_ok k5 [-1, 0, 500, 501] (by decide)
    simp only [c1, if_true, h6, Option.bind_some]
    exact ⟨_, _, _, _, _, _, rfl, k6⟩
  · by_cases c2 : r5 = 1
    · obtain ⟨r6, a6, s6, h6, k6, _⟩ := pick_ok k5 [0, 1, 500, 501] (by decide)
      simp only [c2, show ¬ ((1 : Int) = 0) by decide, if_true, if_false, h6, Option.bind_some]
      exact ⟨_, _, _, _, _, _, rfl, k6⟩
    · simp only [c1, c2, if_false]
      exact ⟨_, _, _, _, _, _, rfl, k5⟩

theorem drawC (l : List Int) (hw : ∀ x ∈ l, (Lit.int .u8 x).wf = true) (hl : l.length ≤ 4096) : ∃ a b c s j t d, Ev (fun k => spec_DrawCaseOf.f k l) (a, b, c, s, j, t, d) := by
  obtain ⟨s0, ⟨k0, h0⟩, o0⟩ := from_ok l hw hl
  obtain ⟨x1, y1, z1, a1, s1, h1, o1⟩ := drawBlock o0
  obtain ⟨x2, y2, z2, t2, a2, s2, h2, o2⟩ := drawRule o1
  refine ⟨x1, y1, z1, x2, y2, z2, t2, k0, fun k hk => ?_⟩
  show spec_DrawCaseOf.f k l = _
  unfold spec_DrawCaseOf.f
  have := h0 k hk
  simp only [this, h1, h2, Option.bind_some]
theorem drawF (l : List Int) (hw : ∀ x ∈ l, (Lit.int .u8 x).wf = true) (hl : l.length ≤ 4096) : ∃ v, Ev (fun k => spec_DrawBlockFor.f k l) v := by
  obtain ⟨s0, ⟨k0, h0⟩, o0⟩ := from_ok l hw hl
  obtain ⟨x1, y1, z1, a1, s1, h1, o1⟩ := drawBlock o0
  obtain ⟨x2, y2, z2, t2, a2, s2, h2, o2⟩ := drawRule o1
  obtain ⟨r, a3, s3, h3, o3, _⟩ := next_ok o2 6
  by_cases e0 : r = 0
  · refine ⟨((caseV x1 y1 z1 x2 y2 z2 t2).1, (caseV x1 y1 z1 x2 y2 z2 t2).2.1, (caseV x1 y1 z1 x2 y2 z2 t2).2.2.1, wrap64 ((caseV x1 y1 z1 x2 y2 z2 t2).2.2.2.1 + 1), (caseV x1 y1 z1 x2 y2 z2 t2).2.2.2.2.1, x2, y2, z2, t2), k0 + 1, fun k hk => ?_⟩
    show spec_DrawBlockFor.f k l = _
    unfold spec_DrawBlockFor.f
    have := h0 k (by omega)
    obtain ⟨m, rfl⟩ : ∃ m, k = m + 1 := ⟨k - 1, by omega⟩
    simp only [this, h1, h2, h3, caseS, e0, Option.bind_some, if_true]
  · by_cases e1 : r = 1
    · obtain ⟨p, a4, s4, h4, o4, _⟩ := pick_ok o3 [wrap64 ((caseV x1 y1 z1 x2 y2 z2 t2).2.2.1 + 1), 0, -5] (by simp)
      refine ⟨((caseV x1 y1 z1 x2 y2 z2 t2).1, (caseV x1 y1 z1 x2 y2 z2 t2).2.1, p, (caseV x1 y1 z1 x2 y2 z2 t2).2.2.2.1, (caseV x1 y1 z1 x2 y2 z2 t2).2.2.2.2.1, x2, y2, z2, t2), k0 + 1, fun k hk => ?_⟩
      show spec_DrawBlockFor.f k l = _
      unfold spec_DrawBlockFor.f
      have := h0 k (by omega)
      obtain ⟨m, rfl⟩ : ∃ m, k = m + 1 := ⟨k - 1, by omega⟩
      simp only [this, h1, h2, h3, caseS, e1, h4, Option.bind_some, if_true, show ¬ ((1 : Int) = 0) by decide, if_false]
    · refine ⟨((caseV x1 y1 z1 x2 y2 z2 t2).1, (caseV x1 y1 z1 x2 y2 z2 t2).2.1, (caseV x1 y1 z1 x2 y2 z2 t2).2.2.1, (caseV x1 y1 z1 x2 y2 z2 t2).2.2.2.1, (caseV x1 y1 z1 x2 y2 z2 t2).2.2.2.2.1, x2, y2, z2, t2), k0 + 1, fun k hk => ?_⟩
      show spec_DrawBlockFor.f k l = _
      unfold spec_DrawBlockFor.f
      have := h0 k (by omega)
      obtain ⟨m, rfl⟩ : ∃ m, k = m + 1 := ⟨k - 1, by omega⟩
      simp only [this, h1, h2, h3, caseS, e0, e1, Option.bind_some, if_false]
theorem back1 {c0 c1 c2 c3 c4 s j t d : Int} (h : (blockForV c0 c1 c2 c3 c4 s j t d).2.2.2 = 0) : caseV (blockForV c0 c1 c2 c3 c4 s j t d).1 (blockForV c0 c1 c2 c3 c4 s j t d).2.1 (blockForV c0 c1 c2 c3 c4 s j t d).2.2.1 s j t d = (c0, c1, c2, c3, c4, 0) := by
  unfold blockForV at *
  by_cases hr : ruleB s j t d = true
  · rw [if_pos hr] at *
    by_cases hc : blockB (forW c0 s j) (forH c1 s) (forH c2 d) = true ∧ (1 ≤ c0 ∧ c0 ≤ 40000) ∧ caseT (forW c0 s j) (forH c1 s) (forH c2 d) s j t d = (c0, c1, c2, c3, c4)
    · rw [if_pos hc] at *
      obtain ⟨h1, h2, h3⟩ := hc
      have e := h3
      simp only [caseT, Prod.mk.injEq] at e
      obtain ⟨e0, e1, e2, e3, e4⟩ := e
      show caseV (forW c0 s j) (forH c1 s) (forH c2 d) s j t d = _
      unfold caseV
      rw [if_pos ⟨h1, hr⟩, if_neg (by omega), e0, e1, e2]
      have e3' := e3
      have e4' := e4
      rw [e0, e2] at e3'
      rw [e1] at e4'
      rw [e3', e4']
    · rw [if_neg hc] at h
      exact absurd h (by decide)
  · rw [if_neg hr] at h
    exact absurd h (by decide)
theorem back2 {a b c s j t d : Int} (h : (caseV a b c s j t d).2.2.2.2.2 = 0) : blockForV (caseV a b c s j t d).1 (caseV a b c s j t d).2.1 (caseV a b c s j t d).2.2.1 (caseV a b c s j t d).2.2.2.1 (caseV a b c s j t d).2.2.2.2.1 s j t d = (a, b, c, 0) := by
  obtain ⟨hb, hr, h1, he⟩ := caseV_ok h
  have g1 := block_of hb
  have g2 := rule_of hr
  rw [he]
  show blockForV (a + s - j) (b + 2 * s) (c + 2 * d) (2 * (a + s - j) + 2 * j + (c + 2 * d) + 2 * t) (b + 2 * s + 2 * t) s j t d = _
  have w1 : forW (a + s - j) s j = a := by unfold forW; rw [wrapIn (x := a + s - j - s) (by omega) (by omega), wrapIn (by omega) (by omega)]; omega
  have w2 : forH (b + 2 * s) s = b := by unfold forH; rw [wrapIn (x := 2 * s) (by omega) (by omega), wrapIn (by omega) (by omega)]; omega
  have w3 : forH (c + 2 * d) d = c := by unfold forH; rw [wrapIn (x := 2 * d) (by omega) (by omega), wrapIn (by omega) (by omega)]; omega
  unfold blockForV
  rw [if_pos hr, w1, w2, w3, if_pos ⟨hb, ⟨by omega, by omega⟩, rfl⟩]
theorem cases_j1 (k : Nat) (a b c s j t d : Int) : laws_FnCases.j1 (k + 1) (caseV a b c s j t d).2.2.2.2.2 false a b c s j t d (caseV a b c s j t d).1 (caseV a b c s j t d).2.1 (caseV a b c s j t d).2.2.1 (caseV a b c s j t d).2.2.2.1 (caseV a b c s j t d).2.2.2.2.1 = some true := by
  by_cases h : (caseV a b c s j t d).2.2.2.2.2 = 0
  · simp only [laws_FnCases.j1, h, Bool.false_eq_true, if_false, if_true, blockForI, Option.bind_some, back2 h, beq_self_eq_true, Bool.and_self]
  · simp only [laws_FnCases.j1, h, Bool.false_eq_true, if_false]
theorem FnCases : laws_FnCases.Pure := by
  intro l _ _ hw
  unfold laws_FnCases.f laws_big.f
  by_cases hl : l.length ≤ 4096
  · obtain ⟨a, b, c, s, j, t, d, kC, hC⟩ := drawC l hw hl
    obtain ⟨⟨c0, c1, c2, c3, c4, s', j', t', d'⟩, kF, hF⟩ := drawF l hw hl
    refine ⟨kC + kF + 2, ?_⟩
    have hC := hC (kC + kF + 2) (by omega)
    have hF := hF (kC + kF + 2) (by omega)
    have hlt : ¬ ((l.length : Int) > 4096) := by omega
    simp only [hlt, decide_false, Bool.false_eq_true, if_false, Option.bind_some, hC, hF, caseI, caseS, blockForI, blockForS, if_true, beq_self_eq_true, Bool.not_true, Bool.or_false, blockI, blockS, ruleI, ruleS, bne_self_eq_false]
    show laws_FnCases.j0 ((kC + kF + 1) + 1) _ _ _ _ _ _ _ _ _ _ _ _ _ _ _ _ _ _ _ _ _ _ _ _ _ _ _ = _
    have h1 := cases_j1 (kC + kF) a b c s j t d
    by_cases h : (blockForV c0 c1 c2 c3 c4 s' j' t' d').2.2.2 = 0
    · simp only [laws_FnCases.j0, Bool.false_eq_true, if_false, h, if_true, caseI, Option.bind_some, back1 h, beq_self_eq_true, Bool.not_true, Bool.or_false]
      exact h1
    · simp only [laws_FnCases.j0, Bool.false_eq_true, if_false, h]
      simp only [laws_FnCases.j1, Bool.false_eq_true, if_false] at h1
      exact h1
  · refine ⟨0, ?_⟩
    have hgt : (l.length : Int) > 4096 := by omega
    simp only [hgt, decide_true, Option.bind_some, if_true]

end Go.Proofs.Ytleeadjdepikeaa.Pure
