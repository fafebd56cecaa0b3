/- For every string of at most 4096 bytes the drawn block, rule and sheet make the program and the reference agree on boards, cloth, glue and block, and the boards and the cases fit on the sheet. -/
import Derived.Test.YtleeadjdepikeaaSayFnBoards
namespace Go.Proofs.Ytleeadjdepikeaa.Pure
open Go.RowKit Go.Proofs.Ytleeadjdepikeaa.PFnBoards Go.Proofs.YtleeadjdepikeaaW.PrintWords Go.Proofs.YtleeadjdepikeaaW.PrintLast
set_option linter.unusedVariables false
set_option linter.unusedSimpArgs false
-- BEGIN
theorem inS (a b c : Int) : spec_l01In.f a b c = some (decide (b ≤ a ∧ a ≤ c)) := by
  unfold spec_l01In.f
  by_cases h : b ≤ a <;> simp [h]

theorem inI (a b c : Int) : impl_inRange.f a b c = some (decide (b ≤ a ∧ a ≤ c)) := by
  unfold impl_inRange.f
  by_cases h : b ≤ a <;> simp [h]

def blockB (a b c : Int) : Bool := decide (1 ≤ a ∧ a ≤ 20000) && (decide (1 ≤ b ∧ b ≤ 20000) && decide (1 ≤ c ∧ c ≤ 2000))
theorem blockS (a b c : Int) : spec_IsBlock.f a b c = some (blockB a b c) := by
  unfold spec_IsBlock.f blockB
  simp only [inS, Option.bind_some]
  by_cases h1 : (1 ≤ a ∧ a ≤ 20000) <;> by_cases h2 : (1 ≤ b ∧ b ≤ 20000) <;> simp [h1, h2]
theorem blockI (a b c : Int) : impl_IsBlock.f a b c = some (blockB a b c) := by
  unfold impl_IsBlock.f blockB
  simp only [inI, Option.bind_some]
  by_cases h1 : (1 ≤ a ∧ a ≤ 20000) <;> by_cases h2 : (1 ≤ b ∧ b ≤ 20000) <;> simp [h1, h2]
theorem block_of {a b c : Int} (h : blockB a b c = true) : 1 ≤ a ∧ a ≤ 20000 ∧ 1 ≤ b ∧ b ≤ 20000 ∧ 1 ≤ c ∧ c ≤ 2000 := by
  unfold blockB at h
  simp at h
  omega

def ruleB (a b c d : Int) : Bool := decide (0 ≤ a ∧ a ≤ 500) && (decide (0 ≤ b ∧ b ≤ 500) && (decide (0 ≤ c ∧ c ≤ 500) && decide (1 ≤ d ∧ d ≤ 500)))
theorem ruleS (a b c d : Int) : spec_IsCaseRule.f a b c d = some (ruleB a b c d) := by
  unfold spec_IsCaseRule.f ruleB
  simp only [inS, Option.bind_some]
  by_cases h1 : (0 ≤ a ∧ a ≤ 500) <;> by_cases h2 : (0 ≤ b ∧ b ≤ 500) <;> by_cases h3 : (0 ≤ c ∧ c ≤ 500) <;> simp [h1, h2, h3]
theorem ruleI (a b c d : Int) : impl_IsCaseRule.f a b c d = some (ruleB a b c d) := by
  unfold impl_IsCaseRule.f ruleB
  simp only [inI, Option.bind_some]
  by_cases h1 : (0 ≤ a ∧ a ≤ 500) <;> by_cases h2 : (0 ≤ b ∧ b ≤ 500) <;> by_cases h3 : (0 ≤ c ∧ c ≤ 500) <;> simp [h1, h2, h3]
theorem rule_of {a b c d : Int} (h : ruleB a b c d = true) : 0 ≤ a ∧ a ≤ 500 ∧ 0 ≤ b ∧ b ≤ 500 ∧ 0 ≤ c ∧ c ≤ 500 ∧ 1 ≤ d ∧ d ≤ 500 := by
  unfold ruleB at h
  simp at h
  omega

theorem wrapIn {x : Int} (h0 : -9223372036854775808 ≤ x) (h1 : x ≤ 9223372036854775807) : wrap64 x = x := by
  unfold wrap64; omega

def caseT (a b c s j t d : Int) : Int × Int × Int × Int × Int := (a + s - j, b + 2 * s, c + 2 * d, 2 * (a + s - j) + 2 * j + (c + 2 * d) + 2 * t, b + 2 * s + 2 * t)
theorem case_calc {a b c s j t d : Int} (hb : blockB a b c = true) (hr : ruleB s j t d = true) : spec_l17Case.f a b c s j t d = some (caseT a b c s j t d) := by
  have h1 := block_of hb
  have h2 := rule_of hr
  unfold spec_l17Case.f caseT spec_l17Case.In
  rw [if_pos (by omega)]
def caseV (a b c s j t d : Int) : Int × Int × Int × Int × Int × Int :=
  if blockB a b c = true ∧ ruleB s j t d = true then (if a + s - j < 1 then (0, 0, 0, 0, 0, 5) else (a + s - j, b + 2 * s, c + 2 * d, 2 * (a + s - j) + 2 * j + (c + 2 * d) + 2 * t, b + 2 * s + 2 * t, 0)) else (0, 0, 0, 0, 0, 1)
theorem caseI (a b c s j t d : Int) : impl_CaseOf.f a b c s j t d = some (caseV a b c s j t d) := rfl
theorem caseV_ok {a b c s j t d : Int} (h : (caseV a b c s j t d).2.2.2.2.2 = 0) : blockB a b c = true ∧ ruleB s j t d = true ∧ 1 ≤ a + s - j ∧ caseV a b c s j t d = (a + s - j, b + 2 * s, c + 2 * d, 2 * (a + s - j) + 2 * j + (c + 2 * d) + 2 * t, b + 2 * s + 2 * t, 0) := by
  unfold caseV at *
  split at h
  · rename_i h1
    split at h
    · cases h
    · rename_i h2
      rw [if_pos h1, if_neg h2]
      exact ⟨h1.1, h1.2, by omega, rfl⟩
  · cases h

theorem caseS (k : Nat) (a b c s j t d : Int) : spec_CaseOf.f (k + 1) a b c s j t d = some (caseV a b c s j t d) := by
  unfold spec_CaseOf.f caseV
  simp only [blockS, ruleS, Option.bind_some, spec_CaseOf.j0]
  cases hb : blockB a b c
  · simp
  · cases hr : ruleB s j t d
    · simp
    · simp only [case_calc hb hr, Option.bind_some, caseT]
      by_cases h : a + s - j < 1 <;> simp [h]

theorem case_pos {a b c s j t d : Int} (h : (caseV a b c s j t d).2.2.2.2.2 = 0) : 1 ≤ (caseV a b c s j t d).1 ∧ 1 ≤ (caseV a b c s j t d).2.1 ∧ 1 ≤ (caseV a b c s j t d).2.2.2.1 ∧ 1 ≤ (caseV a b c s j t d).2.2.2.2.1 := by
  obtain ⟨hb, hr, h1, he⟩ := caseV_ok h
  have := block_of hb
  have := rule_of hr
  rw [he]
  simp only
  omega

def pieceB (a b : Int) : Bool := decide (1 ≤ a ∧ a ≤ 20000) && decide (1 ≤ b ∧ b ≤ 20000)
theorem pieceS (a b : Int) : spec_IsPiece.f a b = some (pieceB a b) := by
  unfold spec_IsPiece.f pieceB
  simp only [inS, Option.bind_some]
  by_cases h1 : (1 ≤ a ∧ a ≤ 20000) <;> simp [h1]
theorem pieceI (a b : Int) : impl_IsPiece.f a b = some (pieceB a b) := by
  unfold impl_IsPiece.f pieceB
  simp only [inI, Option.bind_some]
  by_cases h1 : (1 ≤ a ∧ a ≤ 20000) <;> simp [h1]
theorem piece_of {a b : Int} (h : pieceB a b = true) : 1 ≤ a ∧ a ≤ 20000 ∧ 1 ≤ b ∧ b ≤ 20000 := by
  unfold pieceB at h
  simp at h
  omega

def boardsV (a b c s j t d p q : Int) : Int × Int :=
  if pieceB p q = true then (if (caseV a b c s j t d).2.2.2.2.2 = 0 then (mx (wrap64 ((wrap64 (Int.tdiv p (caseV a b c s j t d).1)) * (wrap64 (Int.tdiv q (caseV a b c s j t d).2.1)))) (wrap64 ((wrap64 (Int.tdiv p (caseV a b c s j t d).2.1)) * (wrap64 (Int.tdiv q (caseV a b c s j t d).1)))), 0) else (0, (caseV a b c s j t d).2.2.2.2.2)) else (0, 1)
theorem boardsS (k : Nat) (a b c s j t d p q : Int) : spec_BoardsPerSheet.f (k + 1) a b c s j t d p q = some (boardsV a b c s j t d p q) := by
  unfold spec_BoardsPerSheet.f boardsV
  simp only [pieceS, caseS, Option.bind_some]
  cases pieceB p q
  · simp
  · by_cases h : (caseV a b c s j t d).2.2.2.2.2 = 0
    · have hp := case_pos h
      rw [if_pos rfl, if_pos rfl, if_pos h, if_pos h, if_neg (by omega), if_neg (by omega)]
    · rw [if_pos rfl, if_pos rfl, if_neg h, if_neg h]
theorem boardsI (a b c s j t d p q : Int) : impl_BoardsPerSheet.f a b c s j t d p q = some (boardsV a b c s j t d p q) := by
  unfold impl_BoardsPerSheet.f boardsV impl_piecesIn.f
  simp only [pieceI, caseI, Option.bind_some]
  cases pieceB p q
  · simp
  · by_cases h : (caseV a b c s j t d).2.2.2.2.2 = 0
    · have hp := case_pos h
      rw [if_pos rfl, if_pos rfl, if_pos h, if_pos h, if_neg (by omega), if_neg (by omega), if_neg (by omega), if_neg (by omega)]
      rfl
    · rw [if_pos rfl, if_pos rfl, if_neg h, if_neg h]

def clothV (a b c s j t d p q : Int) : Int × Int :=
  if pieceB p q = true then (if (caseV a b c s j t d).2.2.2.2.2 = 0 then (wrap64 ((wrap64 (Int.tdiv p (caseV a b c s j t d).2.2.2.1)) * (wrap64 (Int.tdiv q (caseV a b c s j t d).2.2.2.2.1))), 0) else (0, (caseV a b c s j t d).2.2.2.2.2)) else (0, 1)
theorem clothS (k : Nat) (a b c s j t d p q : Int) : spec_CasesPerCloth.f (k + 1) a b c s j t d p q = some (clothV a b c s j t d p q) := by
  unfold spec_CasesPerCloth.f clothV
  simp only [pieceS, caseS, Option.bind_some]
  cases pieceB p q
  · simp
  · by_cases h : (caseV a b c s j t d).2.2.2.2.2 = 0
    · have hp := case_pos h
      rw [if_pos rfl, if_pos rfl, if_pos h, if_pos h, if_neg (by omega), if_neg (by omega)]
    · rw [if_pos rfl, if_pos rfl, if_neg h, if_neg h]
theorem clothI (a b c s j t d p q : Int) : impl_CasesPerCloth.f a b c s j t d p q = some (clothV a b c s j t d p q) := by
  unfold impl_CasesPerCloth.f clothV impl_piecesIn.f
  simp only [pieceI, caseI, Option.bind_some]
  cases pieceB p q
  · simp
  · by_cases h : (caseV a b c s j t d).2.2.2.2.2 = 0
    · have hp := case_pos h
      rw [if_pos rfl, if_pos rfl, if_pos h, if_pos h, if_neg (by omega), if_neg (by omega)]
      rfl
    · rw [if_pos rfl, if_pos rfl, if_neg h, if_neg h]

def trimB (a b c d : Int) : Bool := decide (1 ≤ a ∧ a ≤ 20000) && (decide (1 ≤ b ∧ b ≤ 20000) && (decide (0 ≤ c ∧ c ≤ 20000) && decide (0 ≤ d ∧ d ≤ 20000)))
theorem trimS (a b c d : Int) : spec_IsTrim.f a b c d = some (trimB a b c d) := by
  unfold spec_IsTrim.f trimB
  simp only [inS, Option.bind_some]
  by_cases h1 : (1 ≤ a ∧ a ≤ 20000) <;> by_cases h2 : (1 ≤ b ∧ b ≤ 20000) <;> by_cases h3 : (0 ≤ c ∧ c ≤ 20000) <;> simp [h1, h2, h3]
theorem trimI (a b c d : Int) : impl_IsTrim.f a b c d = some (trimB a b c d) := by
  unfold impl_IsTrim.f trimB
  simp only [inI, Option.bind_some]
  by_cases h1 : (1 ≤ a ∧ a ≤ 20000) <;> by_cases h2 : (1 ≤ b ∧ b ≤ 20000) <;> by_cases h3 : (0 ≤ c ∧ c ≤ 20000) <;> simp [h1, h2, h3]

def spineV (p t : Int) : Int × Int := if (1 ≤ p ∧ p ≤ 4096) ∧ (1 ≤ t ∧ t ≤ 2000) then (((p + 1) / 2 * t + 99) / 100, 0) else (0, 2)
theorem spine_prod {p t : Int} (hp : 1 ≤ p ∧ p ≤ 4096) (ht : 1 ≤ t ∧ t ≤ 2000) : 1 ≤ (p + 1) / 2 * t ∧ (p + 1) / 2 * t ≤ 4096000 := by
  have h1 : 1 ≤ (p + 1) / 2 := by omega
  have h2 : (p + 1) / 2 ≤ 2048 := by omega
  have h3 := Int.mul_le_mul h1 ht.1 (by omega) (by omega)
  have h4 := Int.mul_le_mul h2 ht.2 (by omega) (by omega)
  omega
theorem spineS (k : Nat) (p t : Int) : spec_SpineWidth.f (k + 1) p t 0 = some (spineV p t) := by
  unfold spec_SpineWidth.f spineV spec_l07Fits.f
  simp only [inS, Option.bind_some, spec_SpineWidth.j0, spec_l07Block.f, spec_l01Ceil.f]
  by_cases hp : 1 ≤ p ∧ p ≤ 4096
  · by_cases ht : 1 ≤ t ∧ t ≤ 2000
    · have h := spine_prod hp ht
      rw [wrapIn (x := p + 1) (by omega) (by omega), Int.tdiv_eq_ediv_of_nonneg (a := p + 1) (by omega), wrapIn (x := (p + 1) / 2) (by omega) (by omega)]
      generalize hq : (p + 1) / 2 * t = q at h
      rw [wrapIn (x := q) (by omega) (by omega), Int.add_zero, wrapIn (x := q) (by omega) (by omega), wrapIn (x := q + 100) (by omega) (by omega), wrapIn (x := q + 100 - 1) (by omega) (by omega), Int.tdiv_eq_ediv_of_nonneg (a := q + 100 - 1) (by omega), wrapIn (x := (q + 100 - 1) / 100) (by omega) (by omega)]
      simp [hp, ht]
      omega
    · simp [hp, ht]
  · simp [hp]
theorem spineI (p t : Int) : impl_SpineWidth.f p t 0 = some (spineV p t) := by
  unfold impl_SpineWidth.f spineV impl_isPages.f impl_isThickness.f
  simp only [inI, Option.bind_some, impl_block.f]
  by_cases hp : 1 ≤ p ∧ p ≤ 4096
  · by_cases ht : 1 ≤ t ∧ t ≤ 2000
    · have h := spine_prod hp ht
      rw [wrapIn (x := p + 1) (by omega) (by omega), Int.tdiv_eq_ediv_of_nonneg (a := p + 1) (by omega), wrapIn (x := (p + 1) / 2) (by omega) (by omega)]
      generalize hq : (p + 1) / 2 * t = q at h
      rw [wrapIn (x := q) (by omega) (by omega), Int.add_zero, wrapIn (x := q) (by omega) (by omega), wrapIn (x := q + 99) (by omega) (by omega), Int.tdiv_eq_ediv_of_nonneg (a := q + 99) (by omega), wrapIn (x := (q + 99) / 100) (by omega) (by omega)]
      simp [hp, ht]
    · simp [hp, ht]
  · simp [hp]

def blockOfV (a b c d p t : Int) : Int × Int × Int × Int :=
  if trimB a b c d = true then (if (spineV p t).2 = 0 then (if blockB a b (spineV p t).1 = true then (a, b, (spineV p t).1, 0) else (0, 0, 0, 3)) else (0, 0, 0, (spineV p t).2)) else (0, 0, 0, 1)
theorem blockOfS (k : Nat) (a b c d p t : Int) : spec_BlockOf.f (k + 1) a b c d p t = some (blockOfV a b c d p t) := by
  unfold spec_BlockOf.f blockOfV
  simp only [trimS, spineS, blockS, Option.bind_some]
  cases trimB a b c d <;> cases blockB a b (spineV p t).1 <;> simp <;> split <;> rfl
theorem blockOfI (a b c d p t : Int) : impl_BlockOf.f a b c d p t = some (blockOfV a b c d p t) := by
  unfold impl_BlockOf.f blockOfV
  simp only [trimI, spineI, blockI, Option.bind_some]
  cases trimB a b c d <;> cases blockB a b (spineV p t).1 <;> simp <;> split <;> rfl

theorem fit {p q x y : Int} (hp : 1 ≤ p ∧ p ≤ 20000) (hq : 1 ≤ q ∧ q ≤ 20000) (hx : 1 ≤ x) (hy : 1 ≤ y) :
    0 ≤ wrap64 ((wrap64 (Int.tdiv p x)) * (wrap64 (Int.tdiv q y))) ∧ wrap64 ((wrap64 (Int.tdiv p x)) * (wrap64 (Int.tdiv q y))) ≤ 400000000 ∧ wrap64 ((wrap64 (Int.tdiv p x)) * (wrap64 (Int.tdiv q y))) * x * y ≤ p * q := by
  have e1 : Int.tdiv p x = p / x := Int.tdiv_eq_ediv_of_nonneg (by omega)
  have e2 : Int.tdiv q y = q / y := Int.tdiv_eq_ediv_of_nonneg (by omega)
  have a0 : 0 ≤ p / x := Int.ediv_nonneg (by omega) (by omega)
  have b0 : 0 ≤ q / y := Int.ediv_nonneg (by omega) (by omega)
  have a1 : p / x ≤ p := Int.ediv_le_self x (by omega)
  have b1 : q / y ≤ q := Int.ediv_le_self y (by omega)
  have a2 : p / x * x ≤ p := Int.ediv_mul_le p (by omega)
  have b2 : q / y * y ≤ q := Int.ediv_mul_le q (by omega)
  have m0 : 0 ≤ p / x * (q / y) := Int.mul_nonneg a0 b0
  have m1 : p / x * (q / y) ≤ 20000 * 20000 := Int.mul_le_mul (by omega) (by omega) b0 (by omega)
  rw [e1, e2, wrapIn (x := p / x) (by omega) (by omega), wrapIn (x := q / y) (by omega) (by omega), wrapIn (by omega) (by omega)]
  refine ⟨m0, by omega, ?_⟩
  have e : p / x * (q / y) * x * y = (p / x * x) * (q / y * y) := by
    rw [Int.mul_assoc (p / x), Int.mul_assoc (p / x), Int.mul_assoc (p / x)]
    congr 1
    rw [Int.mul_assoc, Int.mul_left_comm]
  rw [e]
  exact Int.mul_le_mul a2 b2 (Int.mul_nonneg b0 (by omega)) (by omega)
theorem fit_wrap {n x y p q : Int} (h0 : 0 ≤ n) (h1 : n ≤ 400000000) (hx : 1 ≤ x ∧ x ≤ 60000) (hy : 1 ≤ y) (hp : 1 ≤ p ∧ p ≤ 20000) (hq : 1 ≤ q ∧ q ≤ 20000) (h : n * x * y ≤ p * q) :
    wrap64 ((wrap64 (n * x)) * y) ≤ wrap64 (p * q) := by
  have m0 : 0 ≤ n * x := Int.mul_nonneg h0 (by omega)
  have m1 : n * x ≤ 400000000 * 60000 := Int.mul_le_mul h1 hx.2 (by omega) (by omega)
  have m2 : 0 ≤ n * x * y := Int.mul_nonneg m0 (by omega)
  have m3 : p * q ≤ 20000 * 20000 := Int.mul_le_mul hp.2 hq.2 (by omega) (by omega)
  have m4 : 1 * 1 ≤ p * q := Int.mul_le_mul hp.1 hq.1 (by omega) (by omega)
  rw [wrapIn (x := n * x) (by omega) (by omega), wrapIn (x := n * x * y) (by omega) (by omega), wrapIn (x := p * q) (by omega) (by omega)]
  exact h
theorem mx_le {a b : Int} : mx a b = a ∨ mx a b = b := by
  unfold mx
  split <;> simp
theorem boards_fit {a b c s j t d p q : Int} (h : (boardsV a b c s j t d p q).2 = 0) :
    (caseV a b c s j t d).2.2.2.2.2 = 0 ∧ wrap64 ((wrap64 ((boardsV a b c s j t d p q).1 * (caseV a b c s j t d).1)) * (caseV a b c s j t d).2.1) ≤ wrap64 (p * q)
    ∧ wrap64 ((wrap64 ((clothV a b c s j t d p q).1 * (caseV a b c s j t d).2.2.2.1)) * (caseV a b c s j t d).2.2.2.2.1) ≤ wrap64 (p * q) := by
  unfold boardsV at h ⊢
  unfold clothV
  by_cases hp : pieceB p q = true
  · simp only [hp, if_true] at h ⊢
    by_cases hc : (caseV a b c s j t d).2.2.2.2.2 = 0
    · simp only [hc, if_true] at h ⊢
      obtain ⟨k1, k2, k3, k4⟩ := caseV_ok hc
      have h1 := block_of k1
      have h2 := rule_of k2
      have h3 := piece_of hp
      simp only [k4]
      have A := fit (x := a + s - j) (y := b + 2 * s) ⟨h3.1, h3.2.1⟩ ⟨h3.2.2.1, h3.2.2.2⟩ (by omega) (by omega)
      have A' := fit (x := b + 2 * s) (y := a + s - j) ⟨h3.1, h3.2.1⟩ ⟨h3.2.2.1, h3.2.2.2⟩ (by omega) (by omega)
      have C := fit (x := 2 * (a + s - j) + 2 * j + (c + 2 * d) + 2 * t) (y := b + 2 * s + 2 * t) ⟨h3.1, h3.2.1⟩ ⟨h3.2.2.1, h3.2.2.2⟩ (by omega) (by omega)
      refine ⟨trivial, ?_, fit_wrap C.1 C.2.1 (by omega) (by omega) (by omega) (by omega) C.2.2⟩
      rcases @mx_le (wrap64 ((wrap64 (Int.tdiv p (a + s - j))) * (wrap64 (Int.tdiv q (b + 2 * s))))) (wrap64 ((wrap64 (Int.tdiv p (b + 2 * s))) * (wrap64 (Int.tdiv q (a + s - j))))) with e | e
      · rw [e]
        exact fit_wrap A.1 A.2.1 (by omega) (by omega) (by omega) (by omega) A.2.2
      · rw [e]
        refine fit_wrap A'.1 A'.2.1 (by omega) (by omega) (by omega) (by omega) ?_
        rw [Int.mul_assoc, Int.mul_comm (a + s - j), ← Int.mul_assoc]
        exact A'.2.2
    · simp only [hc, if_false] at h
      try exact absurd h hc
  · simp [hp] at h
theorem boards_code (a b c s j t d p q : Int) : (clothV a b c s j t d p q).2 = (boardsV a b c s j t d p q).2 := by
  unfold boardsV clothV
  split
  · split <;> rfl
  · rfl
theorem blockOf_code {a b c d p t : Int} (h : (blockOfV a b c d p t).2.2.2 = 0) : (spineV p t).2 = 0 ∧ (blockOfV a b c d p t).2.2.1 = (spineV p t).1 ∧ (blockOfV a b c d p t).1 = a ∧ (blockOfV a b c d p t).2.1 = b := by
  unfold blockOfV at *
  by_cases h1 : trimB a b c d = true
  · by_cases h2 : (spineV p t).2 = 0
    · by_cases h3 : blockB a b (spineV p t).1 = true
      · simp [h1, h2, h3]
      · simp [h1, h2, h3] at h
    · simp [h1, h2] at h
  · simp [h1] at h

/-- A proposition as a bool. -/
noncomputable def B (p : Prop) : Bool := @decide p (Classical.propDecidable p)
theorem B_iff {p : Prop} : B p = true ↔ p := by unfold B; exact @decide_eq_true_iff p (Classical.propDecidable p)
theorem B_true {p : Prop} (h : p) : B p = true := B_iff.2 h
theorem B_false {p : Prop} (h : ¬ p) : B p = false := by cases e : B p with | false => rfl | true => exact absurd (B_iff.1 e) h
theorem B_congr {p q : Prop} (h : p ↔ q) : B p = B q := by rw [propext h]
theorem B_dec (p : Prop) [Decidable p] : B p = decide p := by by_cases h : p <;> simp [h, B_true, B_false]
theorem B_and (p q : Prop) : (B p && B q) = B (p ∧ q) := by
  by_cases hp : p <;> by_cases hq : q <;> simp [B_true, B_false, hp, hq]
theorem B_not (p : Prop) : (!B p) = B (¬ p) := by by_cases hp : p <;> simp [B_true, B_false, hp]
theorem evSucc {α : Type} {g : Nat → Option α} {r : α} (h : Ev (fun k => g (k + 1)) r) : Ev g r := Ev.step (fun _ => rfl) h
theorem evNow {α : Type} {g : Nat → Option α} {r : α} (h : ∀ k, g k = some r) : Ev g r := ⟨0, fun k _ => h k⟩
theorem evCount {σ α : Type} (F : Nat → σ → Int → Option α) (i0 n : Nat) (S : Nat → σ) (r : α)
    (hstep : ∀ i, i0 ≤ i → i < n → Ev (fun k => F k (S (i + 1)) ((i + 1 : Nat) : Int)) r → Ev (fun k => F k (S i) (i : Int)) r) (hend : Ev (fun k => F k (S n) (n : Int)) r) (hle : i0 ≤ n) : Ev (fun k => F k (S i0) (i0 : Int)) r := by
  have key : ∀ d i, i0 ≤ i → i + d = n → Ev (fun k => F k (S i) (i : Int)) r := by
    intro d
    induction d with
    | zero =>
      intro i _ hi
      have h0 : i = n := by omega
      subst h0
      exact hend
    | succ d ih => intro i h0 hi; exact hstep i h0 (by omega) (ih (i + 1) (by omega) (by omega))
  exact key (n - i0) i0 (Nat.le_refl _) (by omega)
/-- A loop that leaves at the first place where G fails. -/
theorem evAll (F : Nat → Int → Option Bool) (i0 n : Nat) (G : Nat → Prop)
    (hstep : ∀ i, i0 ≤ i → i < n → G i → ∀ r, Ev (fun k => F k ((i + 1 : Nat) : Int)) r → Ev (fun k => F k (i : Int)) r) (hbad : ∀ i, i0 ≤ i → i < n → ¬ G i → Ev (fun k => F k (i : Int)) false) (e : Bool) (hend : Ev (fun k => F k (n : Int)) e) (hle : i0 ≤ n) :
    Ev (fun k => F k (i0 : Int)) (B (∀ j, i0 ≤ j → j < n → G j) && e) := by
  have key : ∀ d i, i0 ≤ i → i + d = n → Ev (fun k => F k (i : Int)) (B (∀ j, i ≤ j → j < n → G j) && e) := by
    intro d
    induction d with
    | zero =>
      intro i _ hi
      have h0 : i = n := by omega
      subst h0
      rw [B_true (fun j h1 h2 => absurd h2 (by omega)), Bool.true_and]
      exact hend
    | succ d ih =>
      intro i h0 hi
      by_cases hg : G i
      · have h1 : B (∀ j, i ≤ j → j < n → G j) = B (∀ j, i + 1 ≤ j → j < n → G j) := B_congr ⟨fun h j a b => h j (by omega) b, fun h j a b => by
          by_cases e : j = i
          · subst e; exact hg
          · exact h j (by omega) b⟩
        rw [h1]
        exact hstep i h0 (by omega) hg _ (ih (i + 1) (by omega) (by omega))
      · rw [B_false (fun h => hg (h i (Nat.le_refl _) (by omega))), Bool.false_and]
        exact hbad i h0 (by omega) hg
  exact key (n - i0) i0 (Nat.le_refl _) (by omega)
theorem wrapNat {i : Nat} (h : i < 4611686018427387904) : wrap64 ((i : Int) + 1) = ((i + 1 : Nat) : Int) := by
  unfold wrap64; omega
theorem wrapPred {i : Nat} (h0 : 1 ≤ i) (h : i < 4611686018427387904) : wrap64 ((i : Int) - 1) = ((i - 1 : Nat) : Int) := by
  unfold wrap64; omega
theorem rdN (xs : List Int) (i : Nat) (h : i < xs.length) : rd xs (i : Int) = xs[i] := by
  simp [rd, List.getD_eq_getElem?_getD, List.getElem?_eq_getElem h]
theorem fillStep {α : Type} (xs : List α) (z : α) (i : Nat) (h : i < xs.length) : (xs.take i ++ List.replicate (xs.length - i) z).set i xs[i] = xs.take (i + 1) ++ List.replicate (xs.length - (i + 1)) z := by
  have h1 : xs.length - i = (xs.length - (i + 1)) + 1 := by omega
  rw [h1, List.replicate_succ, List.set_append_right _ _ (by rw [List.length_take]; omega)]
  rw [List.length_take, Nat.min_eq_left (by omega), Nat.sub_self, List.set_cons_zero, List.take_succ_eq_append_getElem h, List.append_assoc]
  rfl
theorem fillLen {α : Type} (xs : List α) (z : α) (i : Nat) (h : i ≤ xs.length) : (xs.take i ++ List.replicate (xs.length - i) z).length = xs.length := by
  simp; omega

structure OkS (l : List Int) (a s : Int) : Prop where
  bytes : ∀ x ∈ l, 0 ≤ x ∧ x ≤ 255
  len : l.length ≤ 4096
  a0 : 0 ≤ a
  a1 : a ≤ l.length
  s0 : 0 ≤ s
  s1 : s < 2147483647
theorem rd_byte {l : List Int} (h : ∀ x ∈ l, 0 ≤ x ∧ x ≤ 255) (i : Int) : 0 ≤ rd l i ∧ rd l i ≤ 255 := spec_l01Next.byte h i
theorem next_ok {l : List Int} {a s : Int} (h : OkS l a s) (n : Int) :
    ∃ r a' s', spec_l01Next.f l a s n = some (r, a', s') ∧ OkS l a' s' ∧ (1 ≤ n → 0 ≤ r ∧ r < n) ∧ (n ≤ 1 → r = 0) := by
  have hs := h.s0
  have hs1 := h.s1
  have ha0 := h.a0
  have ha1 := h.a1
  have hl := h.len
  have hb := rd_byte h.bytes a
  refine ⟨(spec_l01Next.V l a s n).1, (spec_l01Next.V l a s n).2.1, (spec_l01Next.V l a s n).2.2, ?_, ?_⟩
  · unfold spec_l01Next.f
    rw [if_pos ⟨h.bytes, by omega, ⟨ha0, ha1⟩, hs, hs1⟩]
  · unfold spec_l01Next.V
    have hS0 : 0 ≤ (s * 48271 + 61) % 2147483647 := by omega
    have hS1 : (s * 48271 + 61) % 2147483647 < 2147483647 := by omega
    have modr : ∀ x : Int, 1 < n → 0 ≤ x % n ∧ x % n < n := fun x hn => ⟨Int.emod_nonneg _ (by omega), Int.emod_lt_of_pos _ (by omega)⟩
    by_cases hn : n ≤ 1
    · rw [if_pos hn]
      exact ⟨h, fun _ => ⟨by simp, by simp; omega⟩, fun _ => rfl⟩
    · rw [if_neg hn]
      by_cases c1 : a < (l.length : Int)
      · rw [if_pos c1]
        have ok1 : OkS l (a + 1) ((s * 48271 + 61) % 2147483647) := ⟨h.bytes, h.len, by omega, by omega, hS0, hS1⟩
        by_cases c2 : n ≤ 256 ∧ (a + 1) % 2 = 0
        · rw [if_pos c2]
          exact ⟨ok1, fun _ => modr _ (by omega), fun h1 => absurd h1 hn⟩
        · rw [if_neg c2]
          exact ⟨ok1, fun _ => modr _ (by omega), fun h1 => absurd h1 hn⟩
      · rw [if_neg c1]
        exact ⟨⟨h.bytes, h.len, ha0, ha1, hS0, hS1⟩, fun _ => modr _ (by omega), fun h1 => absurd h1 hn⟩
theorem from_loop (l : List Int) (hb : ∀ x ∈ l, 0 ≤ x ∧ x ≤ 255) (_hl : l.length ≤ 4096) (d : Nat) : ∀ (i : Nat) (s : Int), i + d = l.length → 0 ≤ s → s < 2147483647 → ∃ r, Ev (fun k => spec_l01From.l0 k l (i : Int) l 0 s) (l, 0, r) ∧ 0 ≤ r ∧ r < 2147483647 := by
  induction d with
  | zero =>
    intro i s hi h0 h1
    refine ⟨s, evSucc ?_, h0, h1⟩
    simp only [spec_l01From.l0, show ¬ ((i : Int) < (l.length : Int)) by omega, if_false]
    exact Ev.now _
  | succ d ih =>
    intro i s hi h0 h1
    by_cases h64 : (i : Int) < 64
    · have hr := rd_byte hb (i : Int)
      have he : Int.tmod (wrap64 ((wrap64 (s * 71)) + (wrap64 (rd l (i : Int))))) 2147483647 = (s * 71 + rd l (i : Int)) % 2147483647 := by
        rw [wrapIn (x := s * 71) (by omega) (by omega), wrapIn (x := rd l (i : Int)) (by omega) (by omega), wrapIn (by omega) (by omega), Int.tmod_eq_emod_of_nonneg (by omega)]
      obtain ⟨r, hr1, hr2, hr3⟩ := ih (i + 1) ((s * 71 + rd l (i : Int)) % 2147483647) (by omega) (by omega) (by omega)
      refine ⟨r, evSucc ?_, hr2, hr3⟩
      simp only [spec_l01From.l0, show (i : Int) < (l.length : Int) by omega, h64, show (0 : Int) ≤ (i : Int) by omega, if_true, he, wrapNat (show i < 4611686018427387904 by omega)]
      exact hr1
    · refine ⟨s, evSucc ?_, h0, h1⟩
      simp only [spec_l01From.l0, show (i : Int) < (l.length : Int) by omega, h64, if_true, if_false]
      exact Ev.now _
theorem from_ok (l : List Int) (hw : ∀ x ∈ l, (Lit.int .u8 x).wf = true) (hl : l.length ≤ 4096) : ∃ s, Ev (fun k => spec_l01From.f k l) (l, 0, s) ∧ OkS l 0 s := by
  have hb : ∀ x ∈ l, 0 ≤ x ∧ x ≤ 255 := fun x hx => by
    have := hw x hx
    simp [Lit.wf, IntKind.min, IntKind.max, IntKind.signed, IntKind.bits] at this
    omega
  obtain ⟨r, h1, h2, h3⟩ := from_loop l hb hl l.length 0 88007 (by omega) (by omega) (by omega)
  refine ⟨r, ?_, ⟨hb, hl, by omega, by omega, h2, h3⟩⟩
  unfold spec_l01From.f
  exact h1

theorem pick_ok {l : List Int} {a s : Int} (h : OkS l a s) (xs : List Int) (h0 : 0 < xs.length) :
    ∃ r a' s', spec_l01Pick.f l a s xs = some (r, a', s') ∧ OkS l a' s' ∧ r ∈ xs := by
  obtain ⟨r, a', s', h1, h2, h3, _⟩ := next_ok h (xs.length : Int)
  obtain ⟨h4, h5⟩ := h3 (by omega)
  refine ⟨rd xs r, a', s', ?_, h2, ?_⟩
  · unfold spec_l01Pick.f
    rw [h1]
    simp only [Option.bind_some]
    rw [if_pos h4, if_pos h5]
  · unfold rd
    rw [List.getD_eq_getElem?_getD, List.getElem?_eq_getElem (show r.toNat < xs.length by omega)]
    exact List.getElem_mem _

theorem drawBlock {l : List Int} {a s : Int} (h : OkS l a s) : ∃ x y z a' s', spec_l17DrawBlock.f l a s = some (x, y, z, a', s') ∧ OkS l a' s' := by
  unfold spec_l17DrawBlock.f
  obtain ⟨r1, a1, s1, h1, k1, _⟩ := next_ok h 1500
  simp only [h1, Option.bind_some]
  obtain ⟨r2, a2, s2, h2, k2, _⟩ := next_ok k1 2000
  simp only [h2, Option.bind_some]
  obtain ⟨r3, a3, s3, h3, k3, _⟩ := next_ok k2 400
  simp only [h3, Option.bind_some]
  obtain ⟨r4, a4, s4, h4, k4, _⟩ := next_ok k3 30
  simp only [h4, Option.bind_some]
  by_cases c1 : r4 = 0
  · obtain ⟨r5, a5, s5, h5, k5, _⟩ := pick_ok k4 [0, 1, 30, 20000, 20001] (by decide)
    simp only [c1, if_true, h5, Option.bind_some]
    exact ⟨_, _, _, _, _, rfl, k5⟩
  · by_cases c2 : r4 = 1
    · obtain ⟨r5, a5, s5, h5, k5, _⟩ := pick_ok k4 [0, 1, 2000, 2001] (by decide)
      simp only [c2, show ¬ ((1 : Int) = 0) by decide, if_true, if_false, h5, Option.bind_some]
      exact ⟨_, _, _, _, _, rfl, k5⟩
    · simp only [c1, c2, if_false]
      exact ⟨_, _, _, _, _, rfl, k4⟩

theorem drawRule {l : List Int} {a s : Int} (h : OkS l a s) : ∃ x y z t a' s', spec_l17DrawRule.f l a s = some (x, y, z, t, a', s') ∧ OkS l a' s' := by
  unfold spec_l17DrawRule.f
  obtain ⟨r1, a1, s1, h1, k1, _⟩ := next_ok h 20
  simp only [h1, Option.bind_some]
  obtain ⟨r2, a2, s2, h2, k2, _⟩ := next_ok k1 30
  simp only [h2, Option.bind_some]
  obtain ⟨r3, a3, s3, h3, k3, _⟩ := next_ok k2 30
  simp only [h3, Option.bind_some]
  obtain ⟨r4, a4, s4, h4, k4, _⟩ := next_ok k3 15
  simp only [h4, Option.bind_some]
  obtain ⟨r5, a5, s5, h5, k5, _⟩ := next_ok k4 30
  simp only [h5, Option.bind_some]
  by_cases c1 : r5 = 0
  · obtain ⟨r6, a6, s6, h6, k6, _⟩ := pick_ok k5 [-1, 0, 500, 501] (by decide)
    simp only [c1, if_true, h6, Option.bind_some]
    exact ⟨_, _, _, _, _, _, rfl, k6⟩
  · by_cases c2 : r5 = 1
    · obtain ⟨r6, a6, s6, h6, k6, _⟩ := pick_ok k5 [0, 1, 500, 501] (by decide)
      simp only [c2, show ¬ ((1 : Int) = 0) by decide, if_true, if_false, h6, Option.bind_some]
      exact ⟨_, _, _, _, _, _, rfl, k6⟩
    · simp only [c1, c2, if_false]
      exact ⟨_, _, _, _, _, _, rfl, k5⟩

theorem drawSheet {l : List Int} {a s : Int} (h : OkS l a s) : ∃ x y a' s', spec_l17DrawSheet.f l a s = some (x, y, a', s') ∧ OkS l a' s' := by
  unfold spec_l17DrawSheet.f
  obtain ⟨r1, a1, s1, h1, k1, _⟩ := next_ok h 24
  simp only [h1, Option.bind_some]
  by_cases c1 : r1 = 0
  · obtain ⟨r2, a2, s2, h2, k2, _⟩ := pick_ok k1 [0, 1, 20000, 20001] (by decide)
    simp only [c1, if_true, h2, Option.bind_some]
    exact ⟨_, _, _, _, rfl, k2⟩
  · obtain ⟨r2, a2, s2, h2, k2, _⟩ := next_ok k1 12000
    simp only [c1, if_false, h2, Option.bind_some]
    obtain ⟨r3, a3, s3, h3, k3, _⟩ := next_ok k2 12000
    simp only [h3, Option.bind_some]
    exact ⟨_, _, _, _, rfl, k3⟩

theorem drawTrim {l : List Int} {a s : Int} (h : OkS l a s) : ∃ x y z t a' s', spec_l08DrawTrim.f l a s = some (x, y, z, t, a', s') ∧ OkS l a' s' := by
  unfold spec_l08DrawTrim.f
  obtain ⟨r1, a1, s1, h1, k1, _⟩ := next_ok h 1400
  simp only [h1, Option.bind_some]
  obtain ⟨r2, a2, s2, h2, k2, _⟩ := next_ok k1 1900
  simp only [h2, Option.bind_some]
  obtain ⟨r3, a3, s3, h3, k3, _⟩ := pick_ok k2 [0, 30, 50] (by decide)
  simp only [h3, Option.bind_some]
  obtain ⟨r4, a4, s4, h4, k4, _⟩ := pick_ok k3 [0, 60, 100] (by decide)
  simp only [h4, Option.bind_some]
  obtain ⟨r5, a5, s5, h5, k5, _⟩ := next_ok k4 40
  simp only [h5, Option.bind_some]
  by_cases c1 : r5 = 0
  · obtain ⟨r6, a6, s6, h6, k6, _⟩ := pick_ok k5 [0, 1, 20000, 20001] (by decide)
    simp only [c1, if_true, h6, Option.bind_some]
    exact ⟨_, _, _, _, _, _, rfl, k6⟩
  · by_cases c2 : r5 = 1
    · obtain ⟨r6, a6, s6, h6, k6, _⟩ := pick_ok k5 [-1, 20000, 20001] (by decide)
      simp only [c2, show ¬ ((1 : Int) = 0) by decide, if_true, if_false, h6, Option.bind_some]
      exact ⟨_, _, _, _, _, _, rfl, k6⟩
    · by_cases c3 : r5 = 2
      · obtain ⟨r6, a6, s6, h6, k6, _⟩ := pick_ok k5 [-1, 20000, 20001] (by decide)
        simp only [c3, show ¬ ((2 : Int) = 0) by decide, show ¬ ((2 : Int) = 1) by decide, if_true, if_false, h6, Option.bind_some]
        exact ⟨_, _, _, _, _, _, rfl, k6⟩
      · simp only [c1, c2, c3, if_false]
        exact ⟨_, _, _, _, _, _, rfl, k5⟩

theorem drawPages {l : List Int} {a s : Int} (h : OkS l a s) : ∃ x a' s', spec_l06DrawPages.f l a s = some (x, a', s') ∧ OkS l a' s' := by
  unfold spec_l06DrawPages.f
  obtain ⟨r1, a1, s1, h1, k1, _⟩ := next_ok h 24
  simp only [h1, Option.bind_some]
  by_cases c1 : r1 = 0
  · obtain ⟨r2, a2, s2, h2, k2, _⟩ := pick_ok k1 [0, -1, 4096, 4097] (by decide)
    simp only [c1, if_true, h2, Option.bind_some]
    exact ⟨_, _, _, rfl, k2⟩
  · obtain ⟨r2, a2, s2, h2, k2, _⟩ := next_ok k1 300
    simp only [c1, if_false, h2, Option.bind_some]
    exact ⟨_, _, _, rfl, k2⟩
theorem drawThickness {l : List Int} {a s : Int} (h : OkS l a s) : ∃ x a' s', spec_l07DrawThickness.f l a s = some (x, a', s') ∧ OkS l a' s' := by
  unfold spec_l07DrawThickness.f
  obtain ⟨r1, a1, s1, h1, k1, _⟩ := next_ok h 24
  simp only [h1, Option.bind_some]
  by_cases c1 : r1 = 0
  · obtain ⟨r2, a2, s2, h2, k2, _⟩ := pick_ok k1 [0, 1, 2000, 2001] (by decide)
    simp only [c1, if_true, h2, Option.bind_some]
    exact ⟨_, _, _, rfl, k2⟩
  · obtain ⟨r2, a2, s2, h2, k2, _⟩ := next_ok k1 200
    simp only [c1, if_false, h2, Option.bind_some]
    exact ⟨_, _, _, rfl, k2⟩

theorem drawB (l : List Int) (hw : ∀ x ∈ l, (Lit.int .u8 x).wf = true) (hl : l.length ≤ 4096) : ∃ a b c s j t d p q, Ev (fun k => spec_DrawBoardsPerSheet.f k l) (a, b, c, s, j, t, d, p, q) := by
  obtain ⟨s0, ⟨k0, h0⟩, o0⟩ := from_ok l hw hl
  obtain ⟨x1, y1, z1, a1, s1, h1, o1⟩ := drawBlock o0
  obtain ⟨x2, y2, z2, t2, a2, s2, h2, o2⟩ := drawRule o1
  obtain ⟨x3, y3, a3, s3, h3, o3⟩ := drawSheet o2
  refine ⟨x1, y1, z1, x2, y2, z2, t2, x3, y3, k0, fun k hk => ?_⟩
  show spec_DrawBoardsPerSheet.f k l = _
  unfold spec_DrawBoardsPerSheet.f spec_DrawCasesPerCloth.f
  have := h0 k hk
  simp only [this, h1, h2, h3, Option.bind_some]
theorem drawG (l : List Int) (hw : ∀ x ∈ l, (Lit.int .u8 x).wf = true) (hl : l.length ≤ 4096) : ∃ a b c, Ev (fun k => spec_DrawGlueArea.f k l) (a, b, c) := by
  obtain ⟨s0, ⟨k0, h0⟩, o0⟩ := from_ok l hw hl
  obtain ⟨x1, y1, z1, a1, s1, h1, o1⟩ := drawBlock o0
  refine ⟨x1, y1, z1, k0, fun k hk => ?_⟩
  show spec_DrawGlueArea.f k l = _
  unfold spec_DrawGlueArea.f
  have := h0 k hk
  simp only [this, h1, Option.bind_some]
theorem drawO (l : List Int) (hw : ∀ x ∈ l, (Lit.int .u8 x).wf = true) (hl : l.length ≤ 4096) : ∃ a b c d p t, Ev (fun k => spec_DrawBlockOf.f k l) (a, b, c, d, p, t) := by
  obtain ⟨s0, ⟨k0, h0⟩, o0⟩ := from_ok l hw hl
  obtain ⟨x1, y1, z1, t1, a1, s1, h1, o1⟩ := drawTrim o0
  obtain ⟨x2, a2, s2, h2, o2⟩ := drawPages o1
  obtain ⟨x3, a3, s3, h3, o3⟩ := drawThickness o2
  refine ⟨x1, y1, z1, t1, x2, x3, k0, fun k hk => ?_⟩
  show spec_DrawBlockOf.f k l = _
  unfold spec_DrawBlockOf.f
  have := h0 k hk
  simp only [this, h1, h2, h3, Option.bind_some]
theorem glueE (a b c : Int) : impl_GlueArea.f a b c = spec_GlueArea.f a b c := by
  unfold spec_GlueArea.f impl_GlueArea.f
  simp only [blockS, blockI, Option.bind_some]
  try (cases blockB a b c <;> simp)
theorem glueD (a b c : Int) : ∃ r, spec_GlueArea.f a b c = some r := by
  unfold spec_GlueArea.f
  simp only [blockS, Option.bind_some]
  cases blockB a b c <;> simp
theorem j1_true {k : Nat} {a b c s j t d p q : Int} : laws_FnBoards.j1 (k + 1) (boardsV a b c s j t d p q).1 (boardsV a b c s j t d p q).2 (clothV a b c s j t d p q).1 false a b c s j t d p q = some true := by
  by_cases h : (boardsV a b c s j t d p q).2 = 0
  · have f := boards_fit h
    simp only [laws_FnBoards.j1, h, caseI, Option.bind_some, f.1, if_pos f.2.1, decide_eq_true f.2.2, if_true, Bool.false_eq_true, if_false]
  · simp [laws_FnBoards.j1, h]
theorem FnBoards : laws_FnBoards.Pure := by
  intro l _ _ hw
  unfold laws_FnBoards.f laws_big.f
  by_cases hl : l.length ≤ 4096
  · obtain ⟨a, b, c, s, j, t, d, p, q, kB, hB⟩ := drawB l hw hl
    obtain ⟨ga, gb, gc, kG, hG⟩ := drawG l hw hl
    obtain ⟨oa, ob, oc, od, op, ot, kO, hO⟩ := drawO l hw hl
    obtain ⟨g, hg⟩ := glueD ga gb gc
    refine ⟨kB + kG + kO + 2, ?_⟩
    have hB := hB (kB + kG + kO + 2) (by omega)
    have hG := hG (kB + kG + kO + 2) (by omega)
    have hO := hO (kB + kG + kO + 2) (by omega)
    have hlt : ¬ ((l.length : Int) > 4096) := by omega
    simp only [hlt, decide_false, Bool.false_eq_true, if_false, Option.bind_some, hB, hG, hO, boardsI, boardsS, clothI, clothS, glueE, hg, blockOfI, blockOfS, if_true, boards_code, beq_self_eq_true, Bool.not_true, Bool.or_false, bne_self_eq_false]
    show laws_FnBoards.j0 ((kB + kG + kO + 1) + 1) _ _ _ _ _ _ _ _ _ _ _ _ _ _ _ _ _ _ _ _ _ _ _ = _
    simp only [laws_FnBoards.j0, Bool.false_eq_true, if_false]
    by_cases hc : (blockOfV oa ob oc od op ot).2.2.2 = 0
    · obtain ⟨e1, e2, e3, e4⟩ := blockOf_code hc
      simp only [hc, if_true, spineI, Option.bind_some, e1, e2, e3, e4, bne_self_eq_false]
      exact j1_true
    · simp only [hc, if_false]
      have := @j1_true (kB + kG + kO) a b c s j t d p q
      simp only [laws_FnBoards.j1, Bool.false_eq_true, if_false] at this
      exact this
  · refine ⟨0, ?_⟩
    have hgt : (l.length : Int) > 4096 := by omega
    simp only [hgt, decide_true, Option.bind_some, if_true]

end Go.Proofs.Ytleeadjdepikeaa.Pure
