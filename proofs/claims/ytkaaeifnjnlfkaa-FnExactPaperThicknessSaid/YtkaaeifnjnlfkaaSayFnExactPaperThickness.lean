/- What remains to be shown of the law FnExactPaperThickness, over numbers and lists, and the call that follows from it. Written by a program of this session. -/
import Derived.Test.YtkaaeifnjnlfkaaPFnExactPaperThicknessx1
namespace Go.Proofs.Ytkaaeifnjnlfkaa.PFnExactPaperThickness
open Go.RowKit Go.Proofs.YtkaaeifnjnlfkaaW.PrintWords Go.Proofs.YtkaaeifnjnlfkaaW.PrintLast Go.Proofs.YtkaaeifnjnlfkaaW.PrintMore
set_option linter.unusedVariables false

/-- The one pure statement of laws_FnExactPaperThickness. -/
def laws_FnExactPaperThickness.Pure : Prop := ∀ (a0_0 : Int) (a0_1 : Int), (Lit.int .i64 a0_0).wf = true → (Lit.int .i64 a0_1).wf = true → laws_FnExactPaperThickness.f a0_0 a0_1 = some true
theorem laws_FnExactPaperThickness.walk (P : laws_FnExactPaperThickness.Pure) (a0_0 : Int) (a0_1 : Int) (w : World)  (w0_0 : (Lit.int .i64 a0_0).wf = true) (w0_1 : (Lit.int .i64 a0_1).wf = true) :
    Calls Try.prog 8 #[.agg #[.int .i64 a0_0, .int .i64 a0_1]] w fun e w' => e = .returned (.bool true) ∧ Below w.heap.size w w' := by
  have h := P a0_0 a0_1 w0_0 w0_1
  refine (laws_FnExactPaperThickness.calls a0_0 a0_1 true w  h).mono ?_
  rintro e w' ⟨rfl, hd⟩
  exact ⟨rfl, hd⟩
end Go.Proofs.Ytkaaeifnjnlfkaa.PFnExactPaperThickness
