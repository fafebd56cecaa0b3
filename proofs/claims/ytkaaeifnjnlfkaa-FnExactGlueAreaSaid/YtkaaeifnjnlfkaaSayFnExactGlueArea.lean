/- What remains to be shown of the law FnExactGlueArea, over numbers and lists, and the call that follows from it. Written by a program of this session. -/
import Derived.Test.YtkaaeifnjnlfkaaPFnExactGlueAreax1
namespace Go.Proofs.Ytkaaeifnjnlfkaa.PFnExactGlueArea
open Go.RowKit Go.Proofs.YtkaaeifnjnlfkaaW.PrintWords Go.Proofs.YtkaaeifnjnlfkaaW.PrintLast Go.Proofs.YtkaaeifnjnlfkaaW.PrintMore
set_option linter.unusedVariables false

/-- The one pure statement of laws_FnExactGlueArea. -/
def laws_FnExactGlueArea.Pure : Prop := ∀ (a0_0 : Int) (a0_1 : Int) (a0_2 : Int), (Lit.int .i64 a0_0).wf = true → (Lit.int .i64 a0_1).wf = true → (Lit.int .i64 a0_2).wf = true → laws_FnExactGlueArea.f a0_0 a0_1 a0_2 = some true
theorem laws_FnExactGlueArea.walk (P : laws_FnExactGlueArea.Pure) (a0_0 : Int) (a0_1 : Int) (a0_2 : Int) (w : World)  (w0_0 : (Lit.int .i64 a0_0).wf = true) (w0_1 : (Lit.int .i64 a0_1).wf = true) (w0_2 : (Lit.int .i64 a0_2).wf = true) :
    Calls Try.prog 9 #[.agg #[.int .i64 a0_0, .int .i64 a0_1, .int .i64 a0_2]] w fun e w' => e = .returned (.bool true) ∧ Below w.heap.size w w' := by
  have h := P a0_0 a0_1 a0_2 w0_0 w0_1 w0_2
  refine (laws_FnExactGlueArea.calls a0_0 a0_1 a0_2 true w  h).mono ?_
  rintro e w' ⟨rfl, hd⟩
  exact ⟨rfl, hd⟩
end Go.Proofs.Ytkaaeifnjnlfkaa.PFnExactGlueArea
