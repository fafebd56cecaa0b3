/- What remains to be shown of the law FnExactSheetWeight, over numbers and lists, and the call that follows from it. Written by a program of this session. -/
import Derived.Test.YtkaaeifnjnlfkaaPFnExactSheetWeightx2
namespace Go.Proofs.Ytkaaeifnjnlfkaa.PFnExactSheetWeight
open Go.RowKit Go.Proofs.YtkaaeifnjnlfkaaW.PrintWords Go.Proofs.YtkaaeifnjnlfkaaW.PrintLast Go.Proofs.YtkaaeifnjnlfkaaW.PrintMore
set_option linter.unusedVariables false

/-- The one pure statement of laws_FnExactSheetWeight. -/
def laws_FnExactSheetWeight.Pure : Prop := ∀ (a0_0 : Int) (a0_1 : Int) (a1_0 : Int) (a1_1 : Int), (Lit.int .i64 a0_0).wf = true → (Lit.int .i64 a0_1).wf = true → (Lit.int .i64 a1_0).wf = true → (Lit.int .i64 a1_1).wf = true → laws_FnExactSheetWeight.f a0_0 a0_1 a1_0 a1_1 = some true
theorem laws_FnExactSheetWeight.walk (P : laws_FnExactSheetWeight.Pure) (a0_0 : Int) (a0_1 : Int) (a1_0 : Int) (a1_1 : Int) (w : World)  (w0_0 : (Lit.int .i64 a0_0).wf = true) (w0_1 : (Lit.int .i64 a0_1).wf = true) (w1_0 : (Lit.int .i64 a1_0).wf = true) (w1_1 : (Lit.int .i64 a1_1).wf = true) :
    Calls Try.prog 12 #[.agg #[.int .i64 a0_0, .int .i64 a0_1], .agg #[.int .i64 a1_0, .int .i64 a1_1]] w fun e w' => e = .returned (.bool true) ∧ Below w.heap.size w w' := by
  have h := P a0_0 a0_1 a1_0 a1_1 w0_0 w0_1 w1_0 w1_1
  refine (laws_FnExactSheetWeight.calls a0_0 a0_1 a1_0 a1_1 true w  h).mono ?_
  rintro e w' ⟨rfl, hd⟩
  exact ⟨rfl, hd⟩
end Go.Proofs.Ytkaaeifnjnlfkaa.PFnExactSheetWeight
