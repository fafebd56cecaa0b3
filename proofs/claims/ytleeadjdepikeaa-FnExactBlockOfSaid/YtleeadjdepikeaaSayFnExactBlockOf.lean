/- What remains to be shown of the law FnExactBlockOf, over numbers and lists, and the call that follows from it. Written by a program of this session. -/
import Derived.Test.YtleeadjdepikeaaPFnExactBlockOfx2
namespace Go.Proofs.Ytleeadjdepikeaa.PFnExactBlockOf
open Go.RowKit Go.Proofs.YtleeadjdepikeaaW.PrintWords Go.Proofs.YtleeadjdepikeaaW.PrintLast Go.Proofs.YtleeadjdepikeaaW.PrintMore
set_option linter.unusedVariables false

/-- The one pure statement of laws_FnExactBlockOf. -/
def laws_FnExactBlockOf.Pure : Prop := ∀ (a0_0 : Int) (a0_1 : Int) (a0_2 : Int) (a0_3 : Int) (a1 : Int) (a2 : Int), (Lit.int .i64 a0_0).wf = true → (Lit.int .i64 a0_1).wf = true → (Lit.int .i64 a0_2).wf = true → (Lit.int .i64 a0_3).wf = true → (Lit.int .i64 a1).wf = true → (Lit.int .i64 a2).wf = true → ∃ k, laws_FnExactBlockOf.f k a0_0 a0_1 a0_2 a0_3 a1 a2 = some true
theorem laws_FnExactBlockOf.walk (P : laws_FnExactBlockOf.Pure) (a0_0 : Int) (a0_1 : Int) (a0_2 : Int) (a0_3 : Int) (a1 : Int) (a2 : Int) (w : World)  (w0_0 : (Lit.int .i64 a0_0).wf = true) (w0_1 : (Lit.int .i64 a0_1).wf = true) (w0_2 : (Lit.int .i64 a0_2).wf = true) (w0_3 : (Lit.int .i64 a0_3).wf = true) (w1 : (Lit.int .i64 a1).wf = true) (w2 : (Lit.int .i64 a2).wf = true) :
    Calls Try.prog 4 #[.agg #[.int .i64 a0_0, .int .i64 a0_1, .int .i64 a0_2, .int .i64 a0_3], .int .i64 a1, .int .i64 a2] w fun e w' => e = .returned (.bool true) ∧ Below w.heap.size w w' := by
  obtain ⟨k, h⟩ := P a0_0 a0_1 a0_2 a0_3 a1 a2 w0_0 w0_1 w0_2 w0_3 w1 w2
  refine (laws_FnExactBlockOf.calls k a0_0 a0_1 a0_2 a0_3 a1 a2 true w  ⟨rfl⟩ h).mono ?_
  rintro e w' ⟨rfl, hd⟩
  exact ⟨rfl, hd⟩
end Go.Proofs.Ytleeadjdepikeaa.PFnExactBlockOf
