/- What remains to be shown of the law FnExactBestJobOrder, over numbers and lists, and the call that follows from it. Written by a program of this session. -/
import Derived.Test.YtpndkekgoadjkaaPFnExactBestJobOrderx7
namespace Go.Proofs.Ytpndkekgoadjkaa.PFnExactBestJobOrder
open Go.RowKit Go.Proofs.YtpndkekgoadjkaaW.PrintWords Go.Proofs.YtpndkekgoadjkaaW.PrintLast Go.Proofs.YtpndkekgoadjkaaW.PrintMore
set_option linter.unusedVariables false

def Q62 (x : S62) : Prop := True ∧ (Lit.int .i64 x.f1).wf = true ∧ True
/-- The one pure statement of laws_FnExactBestJobOrder. -/
def laws_FnExactBestJobOrder.Pure : Prop := ∀ (l0 : (List (List S62))), l0.length ≤ maxLen → l0.length * 24 ≤ 140737488351232 → (∀ x ∈ l0, (x.length ≤ maxLen ∧ ∀ y ∈ x, Q62 y)) → ∃ k, laws_FnExactBestJobOrder.f k l0 = some true
theorem laws_FnExactBestJobOrder.walk (P : laws_FnExactBestJobOrder.Pure) (A0 : Option Addr) (c0 : Nat) (l0 : (List (List S62))) (w : World) (hr0 : Kd.C (Kd.slice 62 k62) w A0 l0.length l0) (hc0 : l0.length ≤ c0) (hm0 : l0.length ≤ maxLen) (hs0 : l0.length * 24 ≤ 140737488351232) (hq0 : (∀ x ∈ l0, (x.length ≤ maxLen ∧ ∀ y ∈ x, Q62 y))) :
    Calls Try.prog 7 #[.slice A0 l0.length c0] w fun e w' => e = .returned (.bool true) ∧ Below w.heap.size w w' := by
  obtain ⟨k, h⟩ := P l0 hm0 hs0 hq0
  refine (laws_FnExactBestJobOrder.calls k A0 c0 l0 true w hr0 hc0 ⟨rfl⟩ h).mono ?_
  rintro e w' ⟨rfl, hd⟩
  exact ⟨rfl, hd⟩
end Go.Proofs.Ytpndkekgoadjkaa.PFnExactBestJobOrder
