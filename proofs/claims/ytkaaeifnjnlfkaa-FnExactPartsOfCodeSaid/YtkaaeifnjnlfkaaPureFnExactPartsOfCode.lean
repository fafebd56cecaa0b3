/- The program and the reference agree on the parts of a code, for every int64. -/
import Derived.Test.YtkaaeifnjnlfkaaPFnExactPartsOfCodex1
namespace Go.Proofs.Ytkaaeifnjnlfkaa.Pure
open Go.RowKit Go.Proofs.Ytkaaeifnjnlfkaa.PFnExactPartsOfCode Go.Proofs.YtkaaeifnjnlfkaaW.PrintWords Go.Proofs.YtkaaeifnjnlfkaaW.PrintLast
-- BEGIN
theorem inS (a b c : Int) : spec_l01In.f a b c = some (decide (b ≤ a ∧ a ≤ c)) := by
  unfold spec_l01In.f
  by_cases h : b ≤ a <;> simp [h]

theorem inI (a b c : Int) : impl_inRange.f a b c = some (decide (b ≤ a ∧ a ≤ c)) := by
  unfold impl_inRange.f
  by_cases h : b ≤ a <;> simp [h]

def codeB (a : Int) : Bool := decide ((0 ≤ a ∧ a ≤ 9999999) ∧ (1 ≤ Int.tmod a 100 ∧ Int.tmod a 100 ≤ 97) ∧ Int.tmod a 97 = 1)
theorem codeS (a : Int) : spec_IsCode.f a = some (codeB a) := by
  unfold spec_IsCode.f spec_l15Remainder.f codeB
  simp only [inS, Option.bind_some]
  by_cases h1 : (0 ≤ a ∧ a ≤ 9999999) <;> by_cases h2 : (1 ≤ Int.tmod a 100 ∧ Int.tmod a 100 ≤ 97) <;> by_cases h3 : Int.tmod a 97 = 1 <;> simp [h1, h2, h3]
theorem codeI (a : Int) : impl_IsCode.f a = some (codeB a) := by
  unfold impl_IsCode.f codeB
  simp only [inI, Option.bind_some]
  by_cases h1 : (0 ≤ a ∧ a ≤ 9999999) <;> by_cases h2 : (1 ≤ Int.tmod a 100 ∧ Int.tmod a 100 ≤ 97) <;> by_cases h3 : Int.tmod a 97 = 1 <;> simp [h1, h2, h3]

theorem FnExactPartsOfCode : laws_FnExactPartsOfCode.Pure := by
  intro a _
  unfold laws_FnExactPartsOfCode.f spec_PartsOfCode.f impl_PartsOfCode.f
  simp only [codeS, codeI, Option.bind_some]
  cases codeB a <;> simp

end Go.Proofs.Ytkaaeifnjnlfkaa.Pure
