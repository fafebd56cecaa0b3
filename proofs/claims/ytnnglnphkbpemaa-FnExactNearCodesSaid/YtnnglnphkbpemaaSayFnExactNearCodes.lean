/- What remains to be shown of the law FnExactNearCodes, over numbers and lists, and the call that follows from it. Written by a program of this session. -/
import Derived.Test.YtnnglnphkbpemaaPFnExactNearCodesx5
namespace Go.Proofs.Ytnnglnphkbpemaa.PFnExactNearCodes
open Go.RowKit Go.Proofs.YtnnglnphkbpemaaW.PrintWords Go.Proofs.YtnnglnphkbpemaaW.PrintLast Go.Proofs.YtnnglnphkbpemaaW.PrintMore
set_option linter.unusedVariables false

/-- The one pure statement of laws_FnExactNearCodes. -/
def laws_FnExactNearCodes.Pure : Prop := ∀ (a0 : Int), (Lit.int .i64 a0).wf = true → ∃ k, laws_FnExactNearCodes.f k a0 = some true
theorem laws_FnExactNearCodes.walk (P : laws_FnExactNearCodes.Pure) (a0 : Int) (w : World)  (w0 : (Lit.int .i64 a0).wf = true) :
    Calls Try.prog 5 #[.int .i64 a0] w fun e w' => e = .returned (.bool true) ∧ Below w.heap.size w w' := by
  obtain ⟨k, h⟩ := P a0 w0
  refine (laws_FnExactNearCodes.calls k a0 true w  ⟨rfl⟩ h).mono ?_
  rintro e w' ⟨rfl, hd⟩
  exact ⟨rfl, hd⟩
end Go.Proofs.Ytnnglnphkbpemaa.PFnExactNearCodes
