/- What remains to be shown of the law FnExactIsCaseRule, over numbers and lists, and the call that follows from it. Written by a program of this session. -/
import Derived.Test.YtkaaeifnjnlfkaaPFnExactIsCaseRulex1
namespace Go.Proofs.Ytkaaeifnjnlfkaa.PFnExactIsCaseRule
open Go.RowKit Go.Proofs.YtkaaeifnjnlfkaaW.PrintWords Go.Proofs.YtkaaeifnjnlfkaaW.PrintLast Go.Proofs.YtkaaeifnjnlfkaaW.PrintMore
set_option linter.unusedVariables false

/-- The one pure statement of laws_FnExactIsCaseRule. -/
def laws_FnExactIsCaseRule.Pure : Prop := ∀ (a0_0 : Int) (a0_1 : Int) (a0_2 : Int) (a0_3 : Int), (Lit.int .i64 a0_0).wf = true → (Lit.int .i64 a0_1).wf = true → (Lit.int .i64 a0_2).wf = true → (Lit.int .i64 a0_3).wf = true → laws_FnExactIsCaseRule.f a0_0 a0_1 a0_2 a0_3 = some true
theorem laws_FnExactIsCaseRule.walk (P : laws_FnExactIsCaseRule.Pure) (a0_0 : Int) (a0_1 : Int) (a0_2 : Int) (a0_3 : Int) (w : World)  (w0_0 : (Lit.int .i64 a0_0).wf = true) (w0_1 : (Lit.int .i64 a0_1).wf = true) (w0_2 : (Lit.int .i64 a0_2).wf = true) (w0_3 : (Lit.int .i64 a0_3).wf = true) :
    Calls Try.prog 6 #[.agg #[.int .i64 a0_0, .int .i64 a0_1, .int .i64 a0_2, .int .i64 a0_3]] w fun e w' => e = .returned (.bool true) ∧ Below w.heap.size w w' := by
  have h := P a0_0 a0_1 a0_2 a0_3 w0_0 w0_1 w0_2 w0_3
  refine (laws_FnExactIsCaseRule.calls a0_0 a0_1 a0_2 a0_3 true w  h).mono ?_
  rintro e w' ⟨rfl, hd⟩
  exact ⟨rfl, hd⟩
end Go.Proofs.Ytkaaeifnjnlfkaa.PFnExactIsCaseRule
