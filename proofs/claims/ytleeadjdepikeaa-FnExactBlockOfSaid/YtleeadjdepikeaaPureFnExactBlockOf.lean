/- The program and the reference make the same block of a trim, pages and a thickness, for every six int64. -/
import Derived.Test.YtleeadjdepikeaaSayFnExactBlockOf
namespace Go.Proofs.Ytleeadjdepikeaa.Pure
open Go.RowKit Go.Proofs.Ytleeadjdepikeaa.PFnExactBlockOf Go.Proofs.YtleeadjdepikeaaW.PrintWords Go.Proofs.YtleeadjdepikeaaW.PrintLast
-- BEGIN
theorem inS (a b c : Int) : spec_l01In.f a b c = some (decide (b ≤ a ∧ a ≤ c)) := by
  unfold spec_l01In.f
  by_cases h : b ≤ a <;> simp [h]

theorem inI (a b c : Int) : impl_inRange.f a b c = some (decide (b ≤ a ∧ a ≤ c)) := by
  unfold impl_inRange.f
  by_cases h : b ≤ a <;> simp [h]

def trimB (a b c d : Int) : Bool := decide (1 ≤ a ∧ a ≤ 20000) && (decide (1 ≤ b ∧ b ≤ 20000) && (decide (0 ≤ c ∧ c ≤ 20000) && decide (0 ≤ d ∧ d ≤ 20000)))
theorem trimS (a b c d : Int) : spec_IsTrim.f a b c d = some (trimB a b c d) := by
  unfold spec_IsTrim.f trimB
  simp only [inS, Option.bind_some]
  by_cases h1 : (1 ≤ a ∧ a ≤ 20000) <;> by_cases h2 : (1 ≤ b ∧ b ≤ 20000) <;> by_cases h3 : (0 ≤ c ∧ c ≤ 20000) <;> simp [h1, h2, h3]
theorem trimI (a b c d : Int) : impl_IsTrim.f a b c d = some (trimB a b c d) := by
  unfold impl_IsTrim.f trimB
  simp only [inI, Option.bind_some]
  by_cases h1 : (1 ≤ a ∧ a ≤ 20000) <;> by_cases h2 : (1 ≤ b ∧ b ≤ 20000) <;> by_cases h3 : (0 ≤ c ∧ c ≤ 20000) <;> simp [h1, h2, h3]

theorem wrapIn {x : Int} (h0 : -9223372036854775808 ≤ x) (h1 : x ≤ 9223372036854775807) : wrap64 x = x := by
  unfold wrap64; omega

def spineV (p t : Int) : Int × Int := if (1 ≤ p ∧ p ≤ 4096) ∧ (1 ≤ t ∧ t ≤ 2000) then (((p + 1) / 2 * t + 99) / 100, 0) else (0, 2)
theorem spine_prod {p t : Int} (hp : 1 ≤ p ∧ p ≤ 4096) (ht : 1 ≤ t ∧ t ≤ 2000) : 1 ≤ (p + 1) / 2 * t ∧ (p + 1) / 2 * t ≤ 4096000 := by
  have h1 : 1 ≤ (p + 1) / 2 := by omega
  have h2 : (p + 1) / 2 ≤ 2048 := by omega
  have h3 := Int.mul_le_mul h1 ht.1 (by omega) (by omega)
  have h4 := Int.mul_le_mul h2 ht.2 (by omega) (by omega)
  omega
theorem spineS (k : Nat) (p t : Int) : spec_SpineWidth.f (k + 1) p t 0 = some (spineV p t) := by
  unfold spec_SpineWidth.f spineV spec_l07Fits.f
  simp only [inS, Option.bind_some, spec_SpineWidth.j0, spec_l07Block.f, spec_l01Ceil.f]
  by_cases hp : 1 ≤ p ∧ p ≤ 4096
  · by_cases ht : 1 ≤ t ∧ t ≤ 2000
    · have h := spine_prod hp ht
      rw [wrapIn (x := p + 1) (by omega) (by omega), Int.tdiv_eq_ediv_of_nonneg (a := p + 1) (by omega), wrapIn (x := (p + 1) / 2) (by omega) (by omega)]
      generalize hq : (p + 1) / 2 * t = q at h
      rw [wrapIn (x := q) (by omega) (by omega), Int.add_zero, wrapIn (x := q) (by omega) (by omega), wrapIn (x := q + 100) (by omega) (by omega), wrapIn (x := q + 100 - 1) (by omega) (by omega), Int.tdiv_eq_ediv_of_nonneg (a := q + 100 - 1) (by omega), wrapIn (x := (q + 100 - 1) / 100) (by omega) (by omega)]
      simp [hp, ht]
      omega
    · simp [hp, ht]
  · simp [hp]
theorem spineI (p t : Int) : impl_SpineWidth.f p t 0 = some (spineV p t) := by
  unfold impl_SpineWidth.f spineV impl_isPages.f impl_isThickness.f
  simp only [inI, Option.bind_some, impl_block.f]
  by_cases hp : 1 ≤ p ∧ p ≤ 4096
  · by_cases ht : 1 ≤ t ∧ t ≤ 2000
    · have h := spine_prod hp ht
      rw [wrapIn (x := p + 1) (by omega) (by omega), Int.tdiv_eq_ediv_of_nonneg (a := p + 1) (by omega), wrapIn (x := (p + 1) / 2) (by omega) (by omega)]
      generalize hq : (p + 1) / 2 * t = q at h
      rw [wrapIn (x := q) (by omega) (by omega), Int.add_zero, wrapIn (x := q) (by omega) (by omega), wrapIn (x := q + 99) (by omega) (by omega), Int.tdiv_eq_ediv_of_nonneg (a := q + 99) (by omega), wrapIn (x := (q + 99) / 100) (by omega) (by omega)]
      simp [hp, ht]
    · simp [hp, ht]
  · simp [hp]

def blockB (a b c : Int) : Bool := decide (1 ≤ a ∧ a ≤ 20000) && (decide (1 ≤ b ∧ b ≤ 20000) && decide (1 ≤ c ∧ c ≤ 2000))
theorem blockS (a b c : Int) : spec_IsBlock.f a b c = some (blockB a b c) := by
  unfold spec_IsBlock.f blockB
  simp only [inS, Option.bind_some]
  by_cases h1 : (1 ≤ a ∧ a ≤ 20000) <;> by_cases h2 : (1 ≤ b ∧ b ≤ 20000) <;> simp [h1, h2]
theorem blockI (a b c : Int) : impl_IsBlock.f a b c = some (blockB a b c) := by
  unfold impl_IsBlock.f blockB
  simp only [inI, Option.bind_some]
  by_cases h1 : (1 ≤ a ∧ a ≤ 20000) <;> by_cases h2 : (1 ≤ b ∧ b ≤ 20000) <;> simp [h1, h2]
theorem block_of {a b c : Int} (h : blockB a b c = true) : 1 ≤ a ∧ a ≤ 20000 ∧ 1 ≤ b ∧ b ≤ 20000 ∧ 1 ≤ c ∧ c ≤ 2000 := by
  unfold blockB at h
  simp at h
  omega

def blockOfV (a b c d p t : Int) : Int × Int × Int × Int :=
  if trimB a b c d = true then (if (spineV p t).2 = 0 then (if blockB a b (spineV p t).1 = true then (a, b, (spineV p t).1, 0) else (0, 0, 0, 3)) else (0, 0, 0, (spineV p t).2)) else (0, 0, 0, 1)
theorem blockOfS (k : Nat) (a b c d p t : Int) : spec_BlockOf.f (k + 1) a b c d p t = some (blockOfV a b c d p t) := by
  unfold spec_BlockOf.f blockOfV
  simp only [trimS, spineS, blockS, Option.bind_some]
  cases trimB a b c d <;> cases blockB a b (spineV p t).1 <;> simp <;> split <;> rfl
theorem blockOfI (a b c d p t : Int) : impl_BlockOf.f a b c d p t = some (blockOfV a b c d p t) := by
  unfold impl_BlockOf.f blockOfV
  simp only [trimI, spineI, blockI, Option.bind_some]
  cases trimB a b c d <;> cases blockB a b (spineV p t).1 <;> simp <;> split <;> rfl

theorem FnExactBlockOf : laws_FnExactBlockOf.Pure := by
  intro a b c d p t _ _ _ _ _ _
  refine ⟨1, ?_⟩
  unfold laws_FnExactBlockOf.f laws_toTrim.f laws_eqBlock.f
  simp only [blockOfS, blockOfI, Option.bind_some, if_true]

end Go.Proofs.Ytleeadjdepikeaa.Pure
