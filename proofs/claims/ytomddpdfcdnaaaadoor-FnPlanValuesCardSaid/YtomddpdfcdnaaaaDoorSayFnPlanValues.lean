/- What remains to be shown of the law FnPlanValues, over numbers and lists, and the call that follows from it. Written by a program of this session. -/
import Derived.Test.YtomddpdfcdnaaaaDoorPFnPlanValuesx13
namespace Go.Proofs.YtomddpdfcdnaaaaDoor.PFnPlanValues
open Go.RowKit Go.Proofs.YtomddpdfcdnaaaaDoorW.PrintWords Go.Proofs.YtomddpdfcdnaaaaDoorW.PrintLast Go.Proofs.YtomddpdfcdnaaaaDoorW.PrintMore
set_option linter.unusedVariables false

/-- The one pure statement of laws_FnPlanValues. -/
def laws_FnPlanValues.Pure : Prop := ∀ (l0 : (List Int)), l0.length ≤ maxLen → l0.length * 1 ≤ 140737488351232 → (∀ x ∈ l0, (Lit.int .u8 x).wf = true) → ∃ k, laws_FnPlanValues.f k l0 = some true
theorem laws_FnPlanValues.walk (P : laws_FnPlanValues.Pure) (A0 : Option Addr) (c0 : Nat) (l0 : (List Int)) (w : World) (hT_ : TabL w) (hr0 : Kd.C (Kd.int .u8) w A0 l0.length l0) (hc0 : l0.length ≤ c0) (hm0 : l0.length ≤ maxLen) (hs0 : l0.length * 1 ≤ 140737488351232) (hq0 : (∀ x ∈ l0, (Lit.int .u8 x).wf = true)) :
    Calls Tryd.prog 8 #[.slice A0 l0.length c0] w fun e w' => e = .returned (.bool true) ∧ Below w.heap.size w w' := by
  obtain ⟨k, h⟩ := P l0 hm0 hs0 hq0
  refine (laws_FnPlanValues.calls k A0 c0 l0 true w hT_ hr0 hc0 ⟨rfl⟩ h).mono ?_
  rintro e w' ⟨rfl, hd⟩
  exact ⟨rfl, hd⟩
end Go.Proofs.YtomddpdfcdnaaaaDoor.PFnPlanValues
