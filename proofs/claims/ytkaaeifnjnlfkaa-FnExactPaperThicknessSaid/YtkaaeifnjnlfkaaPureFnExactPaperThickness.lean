/- The program and the reference give the same thickness of a paper, for every two int64. -/
import Derived.Test.YtkaaeifnjnlfkaaSayFnExactPaperThickness
namespace Go.Proofs.Ytkaaeifnjnlfkaa.Pure
open Go.RowKit Go.Proofs.Ytkaaeifnjnlfkaa.PFnExactPaperThickness Go.Proofs.YtkaaeifnjnlfkaaW.PrintWords Go.Proofs.YtkaaeifnjnlfkaaW.PrintLast
-- BEGIN
theorem inS (a b c : Int) : spec_l01In.f a b c = some (decide (b ≤ a ∧ a ≤ c)) := by
  unfold spec_l01In.f
  by_cases h : b ≤ a <;> simp [h]

theorem inI (a b c : Int) : impl_inRange.f a b c = some (decide (b ≤ a ∧ a ≤ c)) := by
  unfold impl_inRange.f
  by_cases h : b ≤ a <;> simp [h]

def paperB (a b : Int) : Bool := decide (30 ≤ a ∧ a ≤ 500) && decide (50 ≤ b ∧ b ≤ 300)
theorem paperS (a b : Int) : spec_IsPaper.f a b = some (paperB a b) := by
  unfold spec_IsPaper.f paperB
  simp only [inS, Option.bind_some]
  by_cases h1 : (30 ≤ a ∧ a ≤ 500) <;> simp [h1]
theorem paperI (a b : Int) : impl_IsPaper.f a b = some (paperB a b) := by
  unfold impl_IsPaper.f paperB
  simp only [inI, Option.bind_some]
  by_cases h1 : (30 ≤ a ∧ a ≤ 500) <;> simp [h1]
theorem paper_of {a b : Int} (h : paperB a b = true) : 30 ≤ a ∧ a ≤ 500 ∧ 50 ≤ b ∧ b ≤ 300 := by
  unfold paperB at h
  simp at h
  omega

theorem FnExactPaperThickness : laws_FnExactPaperThickness.Pure := by
  intro a b _ _
  unfold laws_FnExactPaperThickness.f laws_toPaper.f spec_PaperThickness.f impl_PaperThickness.f spec_l18Thick.f impl_thicknessOf.f
  simp only [paperS, paperI, Option.bind_some]
  cases paperB a b <;> simp

end Go.Proofs.Ytkaaeifnjnlfkaa.Pure
