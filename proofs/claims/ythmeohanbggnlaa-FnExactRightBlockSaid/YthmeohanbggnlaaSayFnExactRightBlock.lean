/- What remains to be shown of the law FnExactRightBlock, over numbers and lists, and the call that follows from it. Written by a program of this session. -/
import Derived.Test.YthmeohanbggnlaaPFnExactRightBlockx2
namespace Go.Proofs.Ythmeohanbggnlaa.PFnExactRightBlock
open Go.RowKit Go.Proofs.YthmeohanbggnlaaW.PrintWords Go.Proofs.YthmeohanbggnlaaW.PrintLast Go.Proofs.YthmeohanbggnlaaW.PrintMore
set_option linter.unusedVariables false

/-- The one pure statement of laws_FnExactRightBlock. -/
def laws_FnExactRightBlock.Pure : Prop := ∀ (a0 : Int), (Lit.int .i64 a0).wf = true → ∃ k, laws_FnExactRightBlock.f k a0 = some true
theorem laws_FnExactRightBlock.walk (P : laws_FnExactRightBlock.Pure) (a0 : Int) (w : World)  (w0 : (Lit.int .i64 a0).wf = true) :
    Calls Try.prog 3 #[.int .i64 a0] w fun e w' => e = .returned (.bool true) ∧ Below w.heap.size w w' := by
  obtain ⟨k, h⟩ := P a0 w0
  refine (laws_FnExactRightBlock.calls k a0 true w  ⟨rfl⟩ h).mono ?_
  rintro e w' ⟨rfl, hd⟩
  exact ⟨rfl, hd⟩
end Go.Proofs.Ythmeohanbggnlaa.PFnExactRightBlock
