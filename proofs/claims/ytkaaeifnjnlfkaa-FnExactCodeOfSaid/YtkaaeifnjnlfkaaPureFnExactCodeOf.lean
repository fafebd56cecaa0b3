/- The program and the reference make the same code of a job and a signature, for every pair of int64. -/
import Derived.Test.YtkaaeifnjnlfkaaPFnExactCodeOfx1
namespace Go.Proofs.Ytkaaeifnjnlfkaa.Pure
open Go.RowKit Go.Proofs.Ytkaaeifnjnlfkaa.PFnExactCodeOf Go.Proofs.YtkaaeifnjnlfkaaW.PrintWords Go.Proofs.YtkaaeifnjnlfkaaW.PrintLast
-- BEGIN
theorem inS (a b c : Int) : spec_l01In.f a b c = some (decide (b ≤ a ∧ a ≤ c)) := by
  unfold spec_l01In.f
  by_cases h : b ≤ a <;> simp [h]

theorem inI (a b c : Int) : impl_inRange.f a b c = some (decide (b ≤ a ∧ a ≤ c)) := by
  unfold impl_inRange.f
  by_cases h : b ≤ a <;> simp [h]

theorem wrapIn {x : Int} (h0 : -9223372036854775808 ≤ x) (h1 : x ≤ 9223372036854775807) : wrap64 x = x := by
  unfold wrap64; omega

def chk (B : Int) : Int := if (98 - B % 97) % 97 = 0 then 97 else (98 - B % 97) % 97
theorem chk_range (B : Int) : 1 ≤ chk B ∧ chk B ≤ 97 := by
  unfold chk; split <;> omega
theorem chk_hit (B : Int) (h : chk B < 97) : (B + chk B) % 97 = 1 := by
  unfold chk at *; split at h <;> rename_i h0
  · omega
  · rw [if_neg h0]; omega
theorem chk_miss (B x : Int) (h0 : 1 ≤ x) (h : x < chk B) : (B + x) % 97 ≠ 1 := by
  unfold chk at h; split at h <;> omega
theorem make_loop (B : Int) (hB0 : 0 ≤ B) (hB1 : B ≤ 10000000) (d : Nat) : ∀ (k : Nat) (x : Int), 1 ≤ x → x ≤ chk B → chk B - x = d → d < k → spec_l15Make.l0 k B x = some (B + chk B) := by
  have hr := chk_range B
  induction d with
  | zero =>
    intro k x h1 h2 hd hk
    obtain ⟨k, rfl⟩ : ∃ m, k = m + 1 := ⟨k - 1, by omega⟩
    have hx : x = chk B := by omega
    subst hx
    simp only [spec_l15Make.l0, spec_l15Remainder.f]
    by_cases h97 : chk B < 97
    · have hh := chk_hit B h97
      rw [if_pos h97]
      simp only [Option.bind_some]
      rw [wrapIn (by omega) (by omega), Int.tmod_eq_emod_of_nonneg (by omega), if_pos hh]
    · rw [if_neg h97, wrapIn (by omega) (by omega)]
      congr 1; omega
  | succ d ih =>
    intro k x h1 h2 hd hk
    obtain ⟨k, rfl⟩ : ∃ m, k = m + 1 := ⟨k - 1, by omega⟩
    have hm := chk_miss B x h1 (by omega)
    simp only [spec_l15Make.l0, spec_l15Remainder.f]
    rw [if_pos (by omega)]
    simp only [Option.bind_some]
    rw [wrapIn (by omega) (by omega), Int.tmod_eq_emod_of_nonneg (by omega), if_neg hm, wrapIn (by omega) (by omega)]
    exact ih k (x + 1) (by omega) (by omega) (by omega) (by omega)
def codeV (a b : Int) : Int × Int := if (0 ≤ a ∧ a ≤ 999) ∧ (0 ≤ b ∧ b ≤ 99) then (a * 10000 + b * 100 + chk (a * 10000 + b * 100), 0) else (0, 2)
theorem codeOfS (a b : Int) : spec_CodeOf.f 100 a b = some (codeV a b) := by
  unfold spec_CodeOf.f codeV
  simp only [inS, Option.bind_some, decide_eq_true_eq]
  by_cases ha : 0 ≤ a ∧ a ≤ 999
  · by_cases hb : 0 ≤ b ∧ b ≤ 99
    · have hr := chk_range (a * 10000 + b * 100)
      rw [if_pos ha, if_pos hb, if_pos ⟨ha, hb⟩]
      unfold spec_l15Make.f
      rw [wrapIn (x := a * 100) (by omega) (by omega), wrapIn (x := a * 100 + b) (by omega) (by omega), wrapIn (by omega) (by omega), show (a * 100 + b) * 100 = a * 10000 + b * 100 by omega]
      rw [make_loop (a * 10000 + b * 100) (by omega) (by omega) (chk (a * 10000 + b * 100) - 1).toNat 100 1 (by omega) (by omega) (by omega) (by omega)]
      rfl
    · rw [if_pos ha, if_neg hb, if_neg (fun h => hb h.2)]
  · rw [if_neg ha, if_neg (fun h => ha h.1)]
theorem codeOfI (a b : Int) : impl_CodeOf.f 100 a b = some (codeV a b) := by
  unfold impl_CodeOf.f codeV
  simp only [inI, Option.bind_some, decide_eq_true_eq]
  by_cases ha : 0 ≤ a ∧ a ≤ 999
  · by_cases hb : 0 ≤ b ∧ b ≤ 99
    · rw [if_pos ha, if_pos ⟨ha, hb⟩]
      simp only [impl_CodeOf.j0]
      rw [if_neg (by simp [hb])]
      rw [wrapIn (x := a * 10000) (by omega) (by omega), wrapIn (x := b * 100) (by omega) (by omega), wrapIn (x := a * 10000 + b * 100) (by omega) (by omega)]
      rw [Int.tmod_eq_emod_of_nonneg (a := a * 10000 + b * 100) (by omega), wrapIn (x := 98 - (a * 10000 + b * 100) % 97) (by omega) (by omega), Int.tmod_eq_emod_of_nonneg (a := 98 - (a * 10000 + b * 100) % 97) (by omega)]
      unfold chk
      by_cases h0 : (98 - (a * 10000 + b * 100) % 97) % 97 = 0
      · rw [if_pos h0, if_pos h0, wrapIn (by omega) (by omega)]
      · rw [if_neg h0, if_neg h0, wrapIn (by omega) (by omega)]
    · rw [if_pos ha, if_neg (fun h => hb h.2)]
      simp only [impl_CodeOf.j0]
      rw [if_pos (by simp [hb])]
  · rw [if_neg ha, if_neg (fun h => ha h.1)]
    simp [impl_CodeOf.j0]

theorem FnExactCodeOf : laws_FnExactCodeOf.Pure := by
  intro a b _ _
  refine ⟨100, ?_⟩
  unfold laws_FnExactCodeOf.f
  rw [codeOfS, codeOfI]
  simp only [Option.bind_some, if_true]

end Go.Proofs.Ytkaaeifnjnlfkaa.Pure
