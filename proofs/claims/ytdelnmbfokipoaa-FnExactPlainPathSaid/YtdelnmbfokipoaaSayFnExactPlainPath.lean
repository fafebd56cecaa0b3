/- What remains to be shown of the law FnExactPlainPath, over numbers and lists, and the call that follows from it. Written by a program of this session. -/
import Derived.Test.YtdelnmbfokipoaaPFnExactPlainPathx3
namespace Go.Proofs.Ytdelnmbfokipoaa.PFnExactPlainPath
open Go.RowKit Go.Proofs.YtdelnmbfokipoaaW.PrintWords Go.Proofs.YtdelnmbfokipoaaW.PrintLast Go.Proofs.YtdelnmbfokipoaaW.PrintMore
set_option linter.unusedVariables false

/-- The one pure statement of laws_FnExactPlainPath. -/
def laws_FnExactPlainPath.Pure : Prop := ∀ (a0 : Int) (a1 : Int), (Lit.int .i64 a0).wf = true → (Lit.int .i64 a1).wf = true → ∃ k, laws_FnExactPlainPath.f k a0 a1 = some true
theorem laws_FnExactPlainPath.walk (P : laws_FnExactPlainPath.Pure) (a0 : Int) (a1 : Int) (w : World)  (w0 : (Lit.int .i64 a0).wf = true) (w1 : (Lit.int .i64 a1).wf = true) :
    Calls Try.prog 3 #[.int .i64 a0, .int .i64 a1] w fun e w' => e = .returned (.bool true) ∧ Below w.heap.size w w' := by
  obtain ⟨k, h⟩ := P a0 a1 w0 w1
  refine (laws_FnExactPlainPath.calls k a0 a1 true w  ⟨rfl⟩ h).mono ?_
  rintro e w' ⟨rfl, hd⟩
  exact ⟨rfl, hd⟩
end Go.Proofs.Ytdelnmbfokipoaa.PFnExactPlainPath
