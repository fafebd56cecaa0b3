/- The program and the reference give the same area to glue, for every three int64. -/
import Derived.Test.YtkaaeifnjnlfkaaSayFnExactGlueArea
namespace Go.Proofs.Ytkaaeifnjnlfkaa.Pure
open Go.RowKit Go.Proofs.Ytkaaeifnjnlfkaa.PFnExactGlueArea Go.Proofs.YtkaaeifnjnlfkaaW.PrintWords Go.Proofs.YtkaaeifnjnlfkaaW.PrintLast
-- BEGIN
theorem inS (a b c : Int) : spec_l01In.f a b c = some (decide (b ≤ a ∧ a ≤ c)) := by
  unfold spec_l01In.f
  by_cases h : b ≤ a <;> simp [h]

theorem inI (a b c : Int) : impl_inRange.f a b c = some (decide (b ≤ a ∧ a ≤ c)) := by
  unfold impl_inRange.f
  by_cases h : b ≤ a <;> simp [h]

def blockB (a b c : Int) : Bool := decide (1 ≤ a ∧ a ≤ 20000) && (decide (1 ≤ b ∧ b ≤ 20000) && decide (1 ≤ c ∧ c ≤ 2000))
theorem blockS (a b c : Int) : spec_IsBlock.f a b c = some (blockB a b c) := by
  unfold spec_IsBlock.f blockB
  simp only [inS, Option.bind_some]
  by_cases h1 : (1 ≤ a ∧ a ≤ 20000) <;> by_cases h2 : (1 ≤ b ∧ b ≤ 20000) <;> simp [h1, h2]
theorem blockI (a b c : Int) : impl_IsBlock.f a b c = some (blockB a b c) := by
  unfold impl_IsBlock.f blockB
  simp only [inI, Option.bind_some]
  by_cases h1 : (1 ≤ a ∧ a ≤ 20000) <;> by_cases h2 : (1 ≤ b ∧ b ≤ 20000) <;> simp [h1, h2]
theorem block_of {a b c : Int} (h : blockB a b c = true) : 1 ≤ a ∧ a ≤ 20000 ∧ 1 ≤ b ∧ b ≤ 20000 ∧ 1 ≤ c ∧ c ≤ 2000 := by
  unfold blockB at h
  simp at h
  omega

theorem FnExactGlueArea : laws_FnExactGlueArea.Pure := by
  intro a b c _ _ _
  unfold laws_FnExactGlueArea.f laws_toBlock.f spec_GlueArea.f impl_GlueArea.f
  simp only [blockS, blockI, Option.bind_some]
  cases blockB a b c <;> simp

end Go.Proofs.Ytkaaeifnjnlfkaa.Pure
