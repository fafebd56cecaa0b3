/- The program and the reference count the same sheets in a height, for every three int64. -/
import Derived.Test.YtkaaeifnjnlfkaaSayFnExactSheetsInHeight
namespace Go.Proofs.Ytkaaeifnjnlfkaa.Pure
open Go.RowKit Go.Proofs.Ytkaaeifnjnlfkaa.PFnExactSheetsInHeight Go.Proofs.YtkaaeifnjnlfkaaW.PrintWords Go.Proofs.YtkaaeifnjnlfkaaW.PrintLast
-- BEGIN
theorem inS (a b c : Int) : spec_l01In.f a b c = some (decide (b ≤ a ∧ a ≤ c)) := by
  unfold spec_l01In.f
  by_cases h : b ≤ a <;> simp [h]

theorem inI (a b c : Int) : impl_inRange.f a b c = some (decide (b ≤ a ∧ a ≤ c)) := by
  unfold impl_inRange.f
  by_cases h : b ≤ a <;> simp [h]

def paperB (a b : Int) : Bool := decide (30 ≤ a ∧ a ≤ 500) && decide (50 ≤ b ∧ b ≤ 300)
theorem paperS (a b : Int) : spec_IsPaper.f a b = some (paperB a b) := by
  unfold spec_IsPaper.f paperB
  simp only [inS, Option.bind_some]
  by_cases h1 : (30 ≤ a ∧ a ≤ 500) <;> simp [h1]
theorem paperI (a b : Int) : impl_IsPaper.f a b = some (paperB a b) := by
  unfold impl_IsPaper.f paperB
  simp only [inI, Option.bind_some]
  by_cases h1 : (30 ≤ a ∧ a ≤ 500) <;> simp [h1]
theorem paper_of {a b : Int} (h : paperB a b = true) : 30 ≤ a ∧ a ≤ 500 ∧ 50 ≤ b ∧ b ≤ 300 := by
  unfold paperB at h
  simp at h
  omega

theorem wrapIn {x : Int} (h0 : -9223372036854775808 ≤ x) (h1 : x ≤ 9223372036854775807) : wrap64 x = x := by
  unfold wrap64; omega

theorem thick_pos {a b : Int} (h : paperB a b = true) : wrap64 (Int.tdiv (wrap64 ((wrap64 (a * b)) + 50)) 100) ≠ 0 := by
  have hp := paper_of h
  have h1 : 1500 ≤ a * b := by
    have := Int.mul_le_mul hp.1 hp.2.2.1 (by omega) (by omega)
    omega
  have h2 : a * b ≤ 150000 := by
    have := Int.mul_le_mul hp.2.1 hp.2.2.2 (by omega) (by omega)
    omega
  rw [wrapIn (x := a * b) (by omega) (by omega), wrapIn (x := a * b + 50) (by omega) (by omega), Int.tdiv_eq_ediv_of_nonneg (by omega), wrapIn (by omega) (by omega)]
  omega
theorem FnExactSheetsInHeight : laws_FnExactSheetsInHeight.Pure := by
  intro a b h _ _ _
  unfold laws_FnExactSheetsInHeight.f laws_toPaper.f spec_SheetsInHeight.f impl_SheetsInHeight.f spec_l18Thick.f impl_thicknessOf.f impl_isLength.f
  simp only [paperS, paperI, inS, inI, Option.bind_some]
  cases hb : paperB a b
  · simp
  · have ht := thick_pos hb
    by_cases h1 : 0 ≤ h ∧ h ≤ 1000000000
    · simp [h1, ht, Int.mul_comm]
    · simp [h1]

end Go.Proofs.Ytkaaeifnjnlfkaa.Pure
