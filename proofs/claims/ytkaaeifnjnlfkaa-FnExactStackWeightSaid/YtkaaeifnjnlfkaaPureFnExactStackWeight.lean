/- The program and the reference give the same weight of a stack, for every five int64. -/
import Derived.Test.YtkaaeifnjnlfkaaSayFnExactStackWeight
namespace Go.Proofs.Ytkaaeifnjnlfkaa.Pure
open Go.RowKit Go.Proofs.Ytkaaeifnjnlfkaa.PFnExactStackWeight Go.Proofs.YtkaaeifnjnlfkaaW.PrintWords Go.Proofs.YtkaaeifnjnlfkaaW.PrintLast
-- BEGIN
theorem inS (a b c : Int) : spec_l01In.f a b c = some (decide (b ≤ a ∧ a ≤ c)) := by
  unfold spec_l01In.f
  by_cases h : b ≤ a <;> simp [h]

theorem inI (a b c : Int) : impl_inRange.f a b c = some (decide (b ≤ a ∧ a ≤ c)) := by
  unfold impl_inRange.f
  by_cases h : b ≤ a <;> simp [h]

def paperB (a b : Int) : Bool := decide (30 ≤ a ∧ a ≤ 500) && decide (50 ≤ b ∧ b ≤ 300)
theorem paperS (a b : Int) : spec_IsPaper.f a b = some (paperB a b) := by
  unfold spec_IsPaper.f paperB
  simp only [inS, Option.bind_some]
  by_cases h1 : (30 ≤ a ∧ a ≤ 500) <;> simp [h1]
theorem paperI (a b : Int) : impl_IsPaper.f a b = some (paperB a b) := by
  unfold impl_IsPaper.f paperB
  simp only [inI, Option.bind_some]
  by_cases h1 : (30 ≤ a ∧ a ≤ 500) <;> simp [h1]
theorem paper_of {a b : Int} (h : paperB a b = true) : 30 ≤ a ∧ a ≤ 500 ∧ 50 ≤ b ∧ b ≤ 300 := by
  unfold paperB at h
  simp at h
  omega

def pieceB (a b : Int) : Bool := decide (1 ≤ a ∧ a ≤ 20000) && decide (1 ≤ b ∧ b ≤ 20000)
theorem pieceS (a b : Int) : spec_IsPiece.f a b = some (pieceB a b) := by
  unfold spec_IsPiece.f pieceB
  simp only [inS, Option.bind_some]
  by_cases h1 : (1 ≤ a ∧ a ≤ 20000) <;> simp [h1]
theorem pieceI (a b : Int) : impl_IsPiece.f a b = some (pieceB a b) := by
  unfold impl_IsPiece.f pieceB
  simp only [inI, Option.bind_some]
  by_cases h1 : (1 ≤ a ∧ a ≤ 20000) <;> simp [h1]
theorem piece_of {a b : Int} (h : pieceB a b = true) : 1 ≤ a ∧ a ≤ 20000 ∧ 1 ≤ b ∧ b ≤ 20000 := by
  unfold pieceB at h
  simp at h
  omega

theorem FnExactStackWeight : laws_FnExactStackWeight.Pure := by
  intro a b c d n _ _ _ _ _
  refine ⟨1, ?_⟩
  unfold laws_FnExactStackWeight.f laws_toPaper.f laws_toPiece.f spec_StackWeight.f impl_StackWeight.f
  simp only [paperS, paperI, pieceS, pieceI, Option.bind_some, spec_StackWeight.j0, impl_StackWeight.j0, inS, inI, spec_l01Ceil.f, impl_quotient.f]
  by_cases h1 : 0 ≤ n ∧ n ≤ 1000000 <;> cases paperB a b <;> cases pieceB c d <;> simp [h1]

end Go.Proofs.Ytkaaeifnjnlfkaa.Pure
