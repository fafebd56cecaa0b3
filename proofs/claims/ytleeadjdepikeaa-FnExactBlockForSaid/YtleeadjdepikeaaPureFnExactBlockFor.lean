/- The program and the reference find the same block for a case, for every nine int64. -/
import Derived.Test.YtleeadjdepikeaaSayFnExactBlockFor
namespace Go.Proofs.Ytleeadjdepikeaa.Pure
open Go.RowKit Go.Proofs.Ytleeadjdepikeaa.PFnExactBlockFor Go.Proofs.YtleeadjdepikeaaW.PrintWords Go.Proofs.YtleeadjdepikeaaW.PrintLast
-- BEGIN
theorem inS (a b c : Int) : spec_l01In.f a b c = some (decide (b ≤ a ∧ a ≤ c)) := by
  unfold spec_l01In.f
  by_cases h : b ≤ a <;> simp [h]

theorem inI (a b c : Int) : impl_inRange.f a b c = some (decide (b ≤ a ∧ a ≤ c)) := by
  unfold impl_inRange.f
  by_cases h : b ≤ a <;> simp [h]

def blockB (a b c : Int) : Bool := decide (1 ≤ a ∧ a ≤ 20000) && (decide (1 ≤ b ∧ b ≤ 20000) && decide (1 ≤ c ∧ c ≤ 2000))
theorem blockS (a b c : Int) : spec_IsBlock.f a b c = some (blockB a b c) := by
  unfold spec_IsBlock.f blockB
  simp only [inS, Option.bind_some]
  by_cases h1 : (1 ≤ a ∧ a ≤ 20000) <;> by_cases h2 : (1 ≤ b ∧ b ≤ 20000) <;> simp [h1, h2]
theorem blockI (a b c : Int) : impl_IsBlock.f a b c = some (blockB a b c) := by
  unfold impl_IsBlock.f blockB
  simp only [inI, Option.bind_some]
  by_cases h1 : (1 ≤ a ∧ a ≤ 20000) <;> by_cases h2 : (1 ≤ b ∧ b ≤ 20000) <;> simp [h1, h2]
theorem block_of {a b c : Int} (h : blockB a b c = true) : 1 ≤ a ∧ a ≤ 20000 ∧ 1 ≤ b ∧ b ≤ 20000 ∧ 1 ≤ c ∧ c ≤ 2000 := by
  unfold blockB at h
  simp at h
  omega

def ruleB (a b c d : Int) : Bool := decide (0 ≤ a ∧ a ≤ 500) && (decide (0 ≤ b ∧ b ≤ 500) && (decide (0 ≤ c ∧ c ≤ 500) && decide (1 ≤ d ∧ d ≤ 500)))
theorem ruleS (a b c d : Int) : spec_IsCaseRule.f a b c d = some (ruleB a b c d) := by
  unfold spec_IsCaseRule.f ruleB
  simp only [inS, Option.bind_some]
  by_cases h1 : (0 ≤ a ∧ a ≤ 500) <;> by_cases h2 : (0 ≤ b ∧ b ≤ 500) <;> by_cases h3 : (0 ≤ c ∧ c ≤ 500) <;> simp [h1, h2, h3]
theorem ruleI (a b c d : Int) : impl_IsCaseRule.f a b c d = some (ruleB a b c d) := by
  unfold impl_IsCaseRule.f ruleB
  simp only [inI, Option.bind_some]
  by_cases h1 : (0 ≤ a ∧ a ≤ 500) <;> by_cases h2 : (0 ≤ b ∧ b ≤ 500) <;> by_cases h3 : (0 ≤ c ∧ c ≤ 500) <;> simp [h1, h2, h3]
theorem rule_of {a b c d : Int} (h : ruleB a b c d = true) : 0 ≤ a ∧ a ≤ 500 ∧ 0 ≤ b ∧ b ≤ 500 ∧ 0 ≤ c ∧ c ≤ 500 ∧ 1 ≤ d ∧ d ≤ 500 := by
  unfold ruleB at h
  simp at h
  omega

theorem wrapIn {x : Int} (h0 : -9223372036854775808 ≤ x) (h1 : x ≤ 9223372036854775807) : wrap64 x = x := by
  unfold wrap64; omega

def caseT (a b c s j t d : Int) : Int × Int × Int × Int × Int := (a + s - j, b + 2 * s, c + 2 * d, 2 * (a + s - j) + 2 * j + (c + 2 * d) + 2 * t, b + 2 * s + 2 * t)
theorem case_calc {a b c s j t d : Int} (hb : blockB a b c = true) (hr : ruleB s j t d = true) : spec_l17Case.f a b c s j t d = some (caseT a b c s j t d) := by
  have h1 := block_of hb
  have h2 := rule_of hr
  unfold spec_l17Case.f caseT spec_l17Case.In
  rw [if_pos (by omega)]
def caseV (a b c s j t d : Int) : Int × Int × Int × Int × Int × Int :=
  if blockB a b c = true ∧ ruleB s j t d = true then (if a + s - j < 1 then (0, 0, 0, 0, 0, 5) else (a + s - j, b + 2 * s, c + 2 * d, 2 * (a + s - j) + 2 * j + (c + 2 * d) + 2 * t, b + 2 * s + 2 * t, 0)) else (0, 0, 0, 0, 0, 1)
theorem caseI (a b c s j t d : Int) : impl_CaseOf.f a b c s j t d = some (caseV a b c s j t d) := rfl
theorem caseV_ok {a b c s j t d : Int} (h : (caseV a b c s j t d).2.2.2.2.2 = 0) : blockB a b c = true ∧ ruleB s j t d = true ∧ 1 ≤ a + s - j ∧ caseV a b c s j t d = (a + s - j, b + 2 * s, c + 2 * d, 2 * (a + s - j) + 2 * j + (c + 2 * d) + 2 * t, b + 2 * s + 2 * t, 0) := by
  unfold caseV at *
  split at h
  · rename_i h1
    split at h
    · cases h
    · rename_i h2
      rw [if_pos h1, if_neg h2]
      exact ⟨h1.1, h1.2, by omega, rfl⟩
  · cases h

def forW (c0 s j : Int) : Int := wrap64 ((wrap64 (c0 - s)) + j)
def forH (c1 s : Int) : Int := wrap64 (c1 - (wrap64 (2 * s)))
theorem forW_eq (c0 s j : Int) : wrap64 ((wrap64 (c0 - s)) + j) = forW c0 s j := rfl
theorem forH_eq (c1 s : Int) : wrap64 (c1 - (wrap64 (2 * s))) = forH c1 s := rfl
def blockForV (c0 c1 c2 c3 c4 s j t d : Int) : Int × Int × Int × Int :=
  if ruleB s j t d = true then
    (if blockB (forW c0 s j) (forH c1 s) (forH c2 d) = true ∧ (1 ≤ c0 ∧ c0 ≤ 40000) ∧ caseT (forW c0 s j) (forH c1 s) (forH c2 d) s j t d = (c0, c1, c2, c3, c4) then (forW c0 s j, forH c1 s, forH c2 d, 0) else (0, 0, 0, 4))
  else (0, 0, 0, 1)
theorem same5 (x y : Int × Int × Int × Int × Int) : ((!(x.1 == y.1) || (!(x.2.1 == y.2.1) || (!(x.2.2.1 == y.2.2.1) || (!(x.2.2.2.1 == y.2.2.2.1) || (!(x.2.2.2.2 == y.2.2.2.2)))))) = true) ↔ ¬ x = y := by
  obtain ⟨x1, x2, x3, x4, x5⟩ := x
  obtain ⟨y1, y2, y3, y4, y5⟩ := y
  simp only [Prod.mk.injEq, Bool.or_eq_true, Bool.not_eq_true', beq_eq_false_iff_ne, ne_eq]
  omega
theorem blockForS (k : Nat) (c0 c1 c2 c3 c4 s j t d : Int) : spec_BlockFor.f (k + 1) c0 c1 c2 c3 c4 s j t d = some (blockForV c0 c1 c2 c3 c4 s j t d) := by
  unfold spec_BlockFor.f blockForV
  simp only [ruleS, inS, Option.bind_some, spec_BlockFor.j0, blockS, forW_eq, forH_eq]
  cases hr : ruleB s j t d
  · simp
  have h2 := rule_of hr
  cases hb : blockB (forW c0 s j) (forH c1 s) (forH c2 d)
  · simp
  have h1 := block_of hb
  simp only [case_calc hb hr, Option.bind_some]
  have h3 := same5 (caseT (forW c0 s j) (forH c1 s) (forH c2 d) s j t d) (c0, c1, c2, c3, c4)
  simp only at h3
  simp only [h3]
  by_cases he : caseT (forW c0 s j) (forH c1 s) (forH c2 d) s j t d = (c0, c1, c2, c3, c4)
  · have he' := he
    simp only [caseT, Prod.mk.injEq] at he'
    by_cases hc : 1 ≤ c0 ∧ c0 ≤ 40000
    · have hc1 : 1 ≤ c1 ∧ c1 ≤ 40000 := by omega
      have hc2 : 1 ≤ c2 ∧ c2 ≤ 20000 := by omega
      simp [hc, hc1, hc2, he]
    · simp [hc, he]
  · by_cases hc : 1 ≤ c0 ∧ c0 ≤ 40000 <;> by_cases hc1 : 1 ≤ c1 ∧ c1 ≤ 40000 <;> by_cases hc2 : 1 ≤ c2 ∧ c2 ≤ 20000 <;> simp [hc, hc1, hc2, he]
theorem blockForI (c0 c1 c2 c3 c4 s j t d : Int) : impl_BlockFor.f c0 c1 c2 c3 c4 s j t d = some (blockForV c0 c1 c2 c3 c4 s j t d) := by
  unfold impl_BlockFor.f blockForV
  simp only [ruleI, Option.bind_some, forW_eq, forH_eq, caseI]
  cases hr : ruleB s j t d
  · simp
  have h2 := rule_of hr
  cases hb : blockB (forW c0 s j) (forH c1 s) (forH c2 d)
  · simp [caseV, hb]
  have h1 := block_of hb
  simp only [caseV, hb, hr, true_and, if_true]
  by_cases h5 : forW c0 s j + s - j < 1
  · rw [if_pos h5]
    simp only [show ¬ ((5 : Int) = 0) by decide, if_false]
    rw [if_neg]
    rintro ⟨hc, he⟩
    simp only [caseT, Prod.mk.injEq] at he
    omega
  · rw [if_neg h5]
    simp only [if_true]
    have h3 := same5 (caseT (forW c0 s j) (forH c1 s) (forH c2 d) s j t d) (c0, c1, c2, c3, c4)
    simp only [caseT] at h3
    simp only [h3]
    by_cases he : caseT (forW c0 s j) (forH c1 s) (forH c2 d) s j t d = (c0, c1, c2, c3, c4)
    · have he' := he
      simp only [caseT, Prod.mk.injEq] at he'
      have hc : 1 ≤ c0 ∧ c0 ≤ 40000 := by omega
      have he2 := he
      simp only [caseT] at he2
      simp [he, he2, hc]
    · have he2 := he
      simp only [caseT] at he2
      simp [he, he2]

theorem FnExactBlockFor : laws_FnExactBlockFor.Pure := by
  intro c0 c1 c2 c3 c4 s j t d _ _ _ _ _ _ _ _ _
  refine ⟨1, ?_⟩
  unfold laws_FnExactBlockFor.f laws_toCase.f laws_toCaseRule.f laws_eqBlock.f
  simp only [blockForS, blockForI, Option.bind_some, if_true]

end Go.Proofs.Ytleeadjdepikeaa.Pure
