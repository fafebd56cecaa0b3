/- What remains to be shown of the law FnExactStackWeight, over numbers and lists, and the call that follows from it. Written by a program of this session. -/
import Derived.Test.YtkaaeifnjnlfkaaPFnExactStackWeightx2
namespace Go.Proofs.Ytkaaeifnjnlfkaa.PFnExactStackWeight
open Go.RowKit Go.Proofs.YtkaaeifnjnlfkaaW.PrintWords Go.Proofs.YtkaaeifnjnlfkaaW.PrintLast Go.Proofs.YtkaaeifnjnlfkaaW.PrintMore
set_option linter.unusedVariables false

/-- The one pure statement of laws_FnExactStackWeight. -/
def laws_FnExactStackWeight.Pure : Prop := ∀ (a0_0 : Int) (a0_1 : Int) (a1_0 : Int) (a1_1 : Int) (a2 : Int), (Lit.int .i64 a0_0).wf = true → (Lit.int .i64 a0_1).wf = true → (Lit.int .i64 a1_0).wf = true → (Lit.int .i64 a1_1).wf = true → (Lit.int .i64 a2).wf = true → ∃ k, laws_FnExactStackWeight.f k a0_0 a0_1 a1_0 a1_1 a2 = some true
theorem laws_FnExactStackWeight.walk (P : laws_FnExactStackWeight.Pure) (a0_0 : Int) (a0_1 : Int) (a1_0 : Int) (a1_1 : Int) (a2 : Int) (w : World)  (w0_0 : (Lit.int .i64 a0_0).wf = true) (w0_1 : (Lit.int .i64 a0_1).wf = true) (w1_0 : (Lit.int .i64 a1_0).wf = true) (w1_1 : (Lit.int .i64 a1_1).wf = true) (w2 : (Lit.int .i64 a2).wf = true) :
    Calls Try.prog 13 #[.agg #[.int .i64 a0_0, .int .i64 a0_1], .agg #[.int .i64 a1_0, .int .i64 a1_1], .int .i64 a2] w fun e w' => e = .returned (.bool true) ∧ Below w.heap.size w w' := by
  obtain ⟨k, h⟩ := P a0_0 a0_1 a1_0 a1_1 a2 w0_0 w0_1 w1_0 w1_1 w2
  refine (laws_FnExactStackWeight.calls k a0_0 a0_1 a1_0 a1_1 a2 true w  h).mono ?_
  rintro e w' ⟨rfl, hd⟩
  exact ⟨rfl, hd⟩
end Go.Proofs.Ytkaaeifnjnlfkaa.PFnExactStackWeight
