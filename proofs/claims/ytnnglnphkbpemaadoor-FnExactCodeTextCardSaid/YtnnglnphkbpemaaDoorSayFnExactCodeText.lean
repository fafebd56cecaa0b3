/- What remains to be shown of the law FnExactCodeText, over numbers and lists, and the call that follows from it. Written by a program of this session. -/
import Derived.Test.YtnnglnphkbpemaaDoorPFnExactCodeTextx2
namespace Go.Proofs.YtnnglnphkbpemaaDoor.PFnExactCodeText
open Go.RowKit Go.Proofs.YtnnglnphkbpemaaDoorW.PrintWords Go.Proofs.YtnnglnphkbpemaaDoorW.PrintLast Go.Proofs.YtnnglnphkbpemaaDoorW.PrintMore
set_option linter.unusedVariables false

/-- The one pure statement of laws_FnExactCodeText. -/
def laws_FnExactCodeText.Pure : Prop := ∀ (a0 : Int), (Lit.int .i64 a0).wf = true → ∃ k, laws_FnExactCodeText.f k a0 = some true
theorem laws_FnExactCodeText.walk (P : laws_FnExactCodeText.Pure) (a0 : Int) (w : World) (hT_ : TabL w)  (w0 : (Lit.int .i64 a0).wf = true) :
    Calls Tryd.prog 3 #[.int .i64 a0] w fun e w' => e = .returned (.bool true) ∧ Below w.heap.size w w' := by
  obtain ⟨k, h⟩ := P a0 w0
  refine (laws_FnExactCodeText.calls k a0 true w hT_  ⟨rfl⟩ h).mono ?_
  rintro e w' ⟨rfl, hd⟩
  exact ⟨rfl, hd⟩
end Go.Proofs.YtnnglnphkbpemaaDoor.PFnExactCodeText
