/- What remains to be shown of the law FnExactReadCode, over numbers and lists, and the call that follows from it. Written by a program of this session. -/
import Derived.Test.YtnnglnphkbpemaaDoorPFnExactReadCodex3
namespace Go.Proofs.YtnnglnphkbpemaaDoor.PFnExactReadCode
open Go.RowKit Go.Proofs.YtnnglnphkbpemaaDoorW.PrintWords Go.Proofs.YtnnglnphkbpemaaDoorW.PrintLast Go.Proofs.YtnnglnphkbpemaaDoorW.PrintMore
set_option linter.unusedVariables false

/-- The one pure statement of laws_FnExactReadCode. -/
def laws_FnExactReadCode.Pure : Prop := ∀ (a0 : ByteArray), a0.size ≤ 140737488351232 → ∃ k, laws_FnExactReadCode.f k a0 = some true
theorem laws_FnExactReadCode.walk (P : laws_FnExactReadCode.Pure) (a0 : ByteArray) (w : World) (hT_ : TabL w)  (w0 : a0.size ≤ 140737488351232) :
    Calls Tryd.prog 4 #[.string a0] w fun e w' => e = .returned (.bool true) ∧ Below w.heap.size w w' := by
  obtain ⟨k, h⟩ := P a0 w0
  refine (laws_FnExactReadCode.calls k a0 true w hT_  ⟨rfl⟩ h).mono ?_
  rintro e w' ⟨rfl, hd⟩
  exact ⟨rfl, hd⟩
end Go.Proofs.YtnnglnphkbpemaaDoor.PFnExactReadCode
