/- The program and the reference count the same boards in a sheet, for every nine int64. -/
import Derived.Test.YtleeadjdepikeaaSayFnExactBoardsPerSheet
namespace Go.Proofs.Ytleeadjdepikeaa.Pure
open Go.RowKit Go.Proofs.Ytleeadjdepikeaa.PFnExactBoardsPerSheet Go.Proofs.YtleeadjdepikeaaW.PrintWords Go.Proofs.YtleeadjdepikeaaW.PrintLast
-- BEGIN
theorem inS (a b c : Int) : spec_l01In.f a b c = some (decide (b ≤ a ∧ a ≤ c)) := by
  unfold spec_l01In.f
  by_cases h : b ≤ a <;> simp [h]

theorem inI (a b c : Int) : impl_inRange.f a b c = some (decide (b ≤ a ∧ a ≤ c)) := by
  unfold impl_inRange.f
  by_cases h : b ≤ a <;> simp [h]

def blockB (a b c : Int) : Bool := decide (1 ≤ a ∧ a ≤ 20000) && (decide (1 ≤ b ∧ b ≤ 20000) && decide (1 ≤ c ∧ c ≤ 2000))
theorem blockS (a b c : Int) : spec_IsBlock.f a b c = some (blockB a b c) := by
  unfold spec_IsBlock.f blockB
  simp only [inS, Option.bind_some]
  by_cases h1 : (1 ≤ a ∧ a ≤ 20000) <;> by_cases h2 : (1 ≤ b ∧ b ≤ 20000) <;> simp [h1, h2]
theorem blockI (a b c : Int) : impl_IsBlock.f a b c = some (blockB a b c) := by
  unfold impl_IsBlock.f blockB
  simp only [inI, Option.bind_some]
  by_cases h1 : (1 ≤ a ∧ a ≤ 20000) <;> by_cases h2 : (1 ≤ b ∧ b ≤ 20000) <;> simp [h1, h2]
theorem block_of {a b c : Int} (h : blockB a b c = true) : 1 ≤ a ∧ a ≤ 20000 ∧ 1 ≤ b ∧ b ≤ 20000 ∧ 1 ≤ c ∧ c ≤ 2000 := by
  unfold blockB at h
  simp at h
  omega

def ruleB (a b c d : Int) : Bool := decide (0 ≤ a ∧ a ≤ 500) && (decide (0 ≤ b ∧ b ≤ 500) && (decide (0 ≤ c ∧ c ≤ 500) && decide (1 ≤ d ∧ d ≤ 500)))
theorem ruleS (a b c d : Int) : spec_IsCaseRule.f a b c d = some (ruleB a b c d) := by
  unfold spec_IsCaseRule.f ruleB
  simp only [inS, Option.bind_some]
  by_cases h1 : (0 ≤ a ∧ a ≤ 500) <;> by_cases h2 : (0 ≤ b ∧ b ≤ 500) <;> by_cases h3 : (0 ≤ c ∧ c ≤ 500) <;> simp [h1, h2, h3]
theorem ruleI (a b c d : Int) : impl_IsCaseRule.f a b c d = some (ruleB a b c d) := by
  unfold impl_IsCaseRule.f ruleB
  simp only [inI, Option.bind_some]
  by_cases h1 : (0 ≤ a ∧ a ≤ 500) <;> by_cases h2 : (0 ≤ b ∧ b ≤ 500) <;> by_cases h3 : (0 ≤ c ∧ c ≤ 500) <;> simp [h1, h2, h3]
theorem rule_of {a b c d : Int} (h : ruleB a b c d = true) : 0 ≤ a ∧ a ≤ 500 ∧ 0 ≤ b ∧ b ≤ 500 ∧ 0 ≤ c ∧ c ≤ 500 ∧ 1 ≤ d ∧ d ≤ 500 := by
  unfold ruleB at h
  simp at h
  omega

theorem wrapIn {x : Int} (h0 : -9223372036854775808 ≤ x) (h1 : x ≤ 9223372036854775807) : wrap64 x = x := by
  unfold wrap64; omega

def caseT (a b c s j t d : Int) : Int × Int × Int × Int × Int := (a + s - j, b + 2 * s, c + 2 * d, 2 * (a + s - j) + 2 * j + (c + 2 * d) + 2 * t, b + 2 * s + 2 * t)
theorem case_calc {a b c s j t d : Int} (hb : blockB a b c = true) (hr : ruleB s j t d = true) : spec_l17Case.f a b c s j t d = some (caseT a b c s j t d) := by
  have h1 := block_of hb
  have h2 := rule_of hr
  unfold spec_l17Case.f caseT spec_l17Case.In
  rw [if_pos (by omega)]
def caseV (a b c s j t d : Int) : Int × Int × Int × Int × Int × Int :=
  if blockB a b c = true ∧ ruleB s j t d = true then (if a + s - j < 1 then (0, 0, 0, 0, 0, 5) else (a + s - j, b + 2 * s, c + 2 * d, 2 * (a + s - j) + 2 * j + (c + 2 * d) + 2 * t, b + 2 * s + 2 * t, 0)) else (0, 0, 0, 0, 0, 1)
theorem caseI (a b c s j t d : Int) : impl_CaseOf.f a b c s j t d = some (caseV a b c s j t d) := rfl
theorem caseV_ok {a b c s j t d : Int} (h : (caseV a b c s j t d).2.2.2.2.2 = 0) : blockB a b c = true ∧ ruleB s j t d = true ∧ 1 ≤ a + s - j ∧ caseV a b c s j t d = (a + s - j, b + 2 * s, c + 2 * d, 2 * (a + s - j) + 2 * j + (c + 2 * d) + 2 * t, b + 2 * s + 2 * t, 0) := by
  unfold caseV at *
  split at h
  · rename_i h1
    split at h
    · cases h
    · rename_i h2
      rw [if_pos h1, if_neg h2]
      exact ⟨h1.1, h1.2, by omega, rfl⟩
  · cases h

theorem caseS (k : Nat) (a b c s j t d : Int) : spec_CaseOf.f (k + 1) a b c s j t d = some (caseV a b c s j t d) := by
  unfold spec_CaseOf.f caseV
  simp only [blockS, ruleS, Option.bind_some, spec_CaseOf.j0]
  cases hb : blockB a b c
  · simp
  · cases hr : ruleB s j t d
    · simp
    · simp only [case_calc hb hr, Option.bind_some, caseT]
      by_cases h : a + s - j < 1 <;> simp [h]

theorem case_pos {a b c s j t d : Int} (h : (caseV a b c s j t d).2.2.2.2.2 = 0) : 1 ≤ (caseV a b c s j t d).1 ∧ 1 ≤ (caseV a b c s j t d).2.1 ∧ 1 ≤ (caseV a b c s j t d).2.2.2.1 ∧ 1 ≤ (caseV a b c s j t d).2.2.2.2.1 := by
  obtain ⟨hb, hr, h1, he⟩ := caseV_ok h
  have := block_of hb
  have := rule_of hr
  rw [he]
  simp only
  omega

def pieceB (a b : Int) : Bool := decide (1 ≤ a ∧ a ≤ 20000) && decide (1 ≤ b ∧ b ≤ 20000)
theorem pieceS (a b : Int) : spec_IsPiece.f a b = some (pieceB a b) := by
  unfold spec_IsPiece.f pieceB
  simp only [inS, Option.bind_some]
  by_cases h1 : (1 ≤ a ∧ a ≤ 20000) <;> simp [h1]
theorem pieceI (a b : Int) : impl_IsPiece.f a b = some (pieceB a b) := by
  unfold impl_IsPiece.f pieceB
  simp only [inI, Option.bind_some]
  by_cases h1 : (1 ≤ a ∧ a ≤ 20000) <;> simp [h1]
theorem piece_of {a b : Int} (h : pieceB a b = true) : 1 ≤ a ∧ a ≤ 20000 ∧ 1 ≤ b ∧ b ≤ 20000 := by
  unfold pieceB at h
  simp at h
  omega

def boardsV (a b c s j t d p q : Int) : Int × Int :=
  if pieceB p q = true then (if (caseV a b c s j t d).2.2.2.2.2 = 0 then (mx (wrap64 ((wrap64 (Int.tdiv p (caseV a b c s j t d).1)) * (wrap64 (Int.tdiv q (caseV a b c s j t d).2.1)))) (wrap64 ((wrap64 (Int.tdiv p (caseV a b c s j t d).2.1)) * (wrap64 (Int.tdiv q (caseV a b c s j t d).1)))), 0) else (0, (caseV a b c s j t d).2.2.2.2.2)) else (0, 1)
theorem boardsS (k : Nat) (a b c s j t d p q : Int) : spec_BoardsPerSheet.f (k + 1) a b c s j t d p q = some (boardsV a b c s j t d p q) := by
  unfold spec_BoardsPerSheet.f boardsV
  simp only [pieceS, caseS, Option.bind_some]
  cases pieceB p q
  · simp
  · by_cases h : (caseV a b c s j t d).2.2.2.2.2 = 0
    · have hp := case_pos h
      rw [if_pos rfl, if_pos rfl, if_pos h, if_pos h, if_neg (by omega), if_neg (by omega)]
    · rw [if_pos rfl, if_pos rfl, if_neg h, if_neg h]
theorem boardsI (a b c s j t d p q : Int) : impl_BoardsPerSheet.f a b c s j t d p q = some (boardsV a b c s j t d p q) := by
  unfold impl_BoardsPerSheet.f boardsV impl_piecesIn.f
  simp only [pieceI, caseI, Option.bind_some]
  cases pieceB p q
  · simp
  · by_cases h : (caseV a b c s j t d).2.2.2.2.2 = 0
    · have hp := case_pos h
      rw [if_pos rfl, if_pos rfl, if_pos h, if_pos h, if_neg (by omega), if_neg (by omega), if_neg (by omega), if_neg (by omega)]
      rfl
    · rw [if_pos rfl, if_pos rfl, if_neg h, if_neg h]

theorem FnExactBoardsPerSheet : laws_FnExactBoardsPerSheet.Pure := by
  intro a b c s j t d p q _ _ _ _ _ _ _ _ _
  refine ⟨1, ?_⟩
  unfold laws_FnExactBoardsPerSheet.f laws_toBlock.f laws_toCaseRule.f laws_toPiece.f
  simp only [boardsS, boardsI, Option.bind_some, if_true]

end Go.Proofs.Ytleeadjdepikeaa.Pure
