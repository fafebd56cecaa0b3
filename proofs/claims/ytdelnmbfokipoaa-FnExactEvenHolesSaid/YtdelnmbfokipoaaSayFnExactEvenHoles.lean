/- What remains to be shown of the law FnExactEvenHoles, over numbers and lists, and the call that follows from it. Written by a program of this session. -/
import Derived.Test.YtdelnmbfokipoaaPFnExactEvenHolesx3
namespace Go.Proofs.Ytdelnmbfokipoaa.PFnExactEvenHoles
open Go.RowKit Go.Proofs.YtdelnmbfokipoaaW.PrintWords Go.Proofs.YtdelnmbfokipoaaW.PrintLast Go.Proofs.YtdelnmbfokipoaaW.PrintMore
set_option linter.unusedVariables false

/-- The one pure statement of laws_FnExactEvenHoles. -/
def laws_FnExactEvenHoles.Pure : Prop := ∀ (a0 : Int) (a1 : Int) (a2 : Int), (Lit.int .i64 a0).wf = true → (Lit.int .i64 a1).wf = true → (Lit.int .i64 a2).wf = true → ∃ k, laws_FnExactEvenHoles.f k a0 a1 a2 = some true
theorem laws_FnExactEvenHoles.walk (P : laws_FnExactEvenHoles.Pure) (a0 : Int) (a1 : Int) (a2 : Int) (w : World)  (w0 : (Lit.int .i64 a0).wf = true) (w1 : (Lit.int .i64 a1).wf = true) (w2 : (Lit.int .i64 a2).wf = true) :
    Calls Try.prog 5 #[.int .i64 a0, .int .i64 a1, .int .i64 a2] w fun e w' => e = .returned (.bool true) ∧ Below w.heap.size w w' := by
  obtain ⟨k, h⟩ := P a0 a1 a2 w0 w1 w2
  refine (laws_FnExactEvenHoles.calls k a0 a1 a2 true w  ⟨rfl⟩ h).mono ?_
  rintro e w' ⟨rfl, hd⟩
  exact ⟨rfl, hd⟩
end Go.Proofs.Ytdelnmbfokipoaa.PFnExactEvenHoles
