/- The program and the reference agree on which papers are papers, for every two int64. -/
import Derived.Test.YtkaaeifnjnlfkaaSayFnExactIsPaper
namespace Go.Proofs.Ytkaaeifnjnlfkaa.Pure
open Go.RowKit Go.Proofs.Ytkaaeifnjnlfkaa.PFnExactIsPaper Go.Proofs.YtkaaeifnjnlfkaaW.PrintWords Go.Proofs.YtkaaeifnjnlfkaaW.PrintLast
-- BEGIN
theorem inS (a b c : Int) : spec_l01In.f a b c = some (decide (b ≤ a ∧ a ≤ c)) := by
  unfold spec_l01In.f
  by_cases h : b ≤ a <;> simp [h]

theorem inI (a b c : Int) : impl_inRange.f a b c = some (decide (b ≤ a ∧ a ≤ c)) := by
  unfold impl_inRange.f
  by_cases h : b ≤ a <;> simp [h]

def paperB (a b : Int) : Bool := decide (30 ≤ a ∧ a ≤ 500) && decide (50 ≤ b ∧ b ≤ 300)
theorem paperS (a b : Int) : spec_IsPaper.f a b = some (paperB a b) := by
  unfold spec_IsPaper.f paperB
  simp only [inS, Option.bind_some]
  by_cases h1 : (30 ≤ a ∧ a ≤ 500) <;> simp [h1]
theorem paperI (a b : Int) : impl_IsPaper.f a b = some (paperB a b) := by
  unfold impl_IsPaper.f paperB
  simp only [inI, Option.bind_some]
  by_cases h1 : (30 ≤ a ∧ a ≤ 500) <;> simp [h1]
theorem paper_of {a b : Int} (h : paperB a b = true) : 30 ≤ a ∧ a ≤ 500 ∧ 50 ≤ b ∧ b ≤ 300 := by
  unfold paperB at h
  simp at h
  omega

theorem FnExactIsPaper : laws_FnExactIsPaper.Pure := by
  intro a b _ _
  unfold laws_FnExactIsPaper.f laws_toPaper.f
  simp [paperS, paperI]

end Go.Proofs.Ytkaaeifnjnlfkaa.Pure
