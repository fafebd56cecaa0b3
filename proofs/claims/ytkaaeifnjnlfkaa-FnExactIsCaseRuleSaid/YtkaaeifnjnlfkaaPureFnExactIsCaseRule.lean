/- The program and the reference agree on which rules are rules of cases, for every four int64. -/
import Derived.Test.YtkaaeifnjnlfkaaSayFnExactIsCaseRule
namespace Go.Proofs.Ytkaaeifnjnlfkaa.Pure
open Go.RowKit Go.Proofs.Ytkaaeifnjnlfkaa.PFnExactIsCaseRule Go.Proofs.YtkaaeifnjnlfkaaW.PrintWords Go.Proofs.YtkaaeifnjnlfkaaW.PrintLast
-- BEGIN
theorem inS (a b c : Int) : spec_l01In.f a b c = some (decide (b ≤ a ∧ a ≤ c)) := by
  unfold spec_l01In.f
  by_cases h : b ≤ a <;> simp [h]

theorem inI (a b c : Int) : impl_inRange.f a b c = some (decide (b ≤ a ∧ a ≤ c)) := by
  unfold impl_inRange.f
  by_cases h : b ≤ a <;> simp [h]

def ruleB (a b c d : Int) : Bool := decide (0 ≤ a ∧ a ≤ 500) && (decide (0 ≤ b ∧ b ≤ 500) && (decide (0 ≤ c ∧ c ≤ 500) && decide (1 ≤ d ∧ d ≤ 500)))
theorem ruleS (a b c d : Int) : spec_IsCaseRule.f a b c d = some (ruleB a b c d) := by
  unfold spec_IsCaseRule.f ruleB
  simp only [inS, Option.bind_some]
  by_cases h1 : (0 ≤ a ∧ a ≤ 500) <;> by_cases h2 : (0 ≤ b ∧ b ≤ 500) <;> by_cases h3 : (0 ≤ c ∧ c ≤ 500) <;> simp [h1, h2, h3]
theorem ruleI (a b c d : Int) : impl_IsCaseRule.f a b c d = some (ruleB a b c d) := by
  unfold impl_IsCaseRule.f ruleB
  simp only [inI, Option.bind_some]
  by_cases h1 : (0 ≤ a ∧ a ≤ 500) <;> by_cases h2 : (0 ≤ b ∧ b ≤ 500) <;> by_cases h3 : (0 ≤ c ∧ c ≤ 500) <;> simp [h1, h2, h3]
theorem rule_of {a b c d : Int} (h : ruleB a b c d = true) : 0 ≤ a ∧ a ≤ 500 ∧ 0 ≤ b ∧ b ≤ 500 ∧ 0 ≤ c ∧ c ≤ 500 ∧ 1 ≤ d ∧ d ≤ 500 := by
  unfold ruleB at h
  simp at h
  omega

theorem FnExactIsCaseRule : laws_FnExactIsCaseRule.Pure := by
  intro a b c d _ _ _ _
  unfold laws_FnExactIsCaseRule.f laws_toCaseRule.f
  simp [ruleS, ruleI]

end Go.Proofs.Ytkaaeifnjnlfkaa.Pure
