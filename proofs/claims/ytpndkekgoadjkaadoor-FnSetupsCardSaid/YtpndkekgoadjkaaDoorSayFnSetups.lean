/- What remains to be shown of the law FnSetups, over numbers and lists, and the call that follows from it. Written by a program of this session. -/
import Derived.Test.YtpndkekgoadjkaaDoorPFnSetupsx12
namespace Go.Proofs.YtpndkekgoadjkaaDoor.PFnSetups
open Go.RowKit Go.Proofs.YtpndkekgoadjkaaDoorW.PrintWords Go.Proofs.YtpndkekgoadjkaaDoorW.PrintLast Go.Proofs.YtpndkekgoadjkaaDoorW.PrintMore
set_option linter.unusedVariables false

/-- The one pure statement of laws_FnSetups. -/
def laws_FnSetups.Pure : Prop := ∀ (l0 : (List Int)), l0.length ≤ maxLen → l0.length * 1 ≤ 140737488351232 → (∀ x ∈ l0, (Lit.int .u8 x).wf = true) → ∃ k, laws_FnSetups.f k l0 = some true
theorem laws_FnSetups.walk (P : laws_FnSetups.Pure) (A0 : Option Addr) (c0 : Nat) (l0 : (List Int)) (w : World)  (hr0 : Kd.C (Kd.int .u8) w A0 l0.length l0) (hc0 : l0.length ≤ c0) (hm0 : l0.length ≤ maxLen) (hs0 : l0.length * 1 ≤ 140737488351232) (hq0 : (∀ x ∈ l0, (Lit.int .u8 x).wf = true)) :
    Calls Tryd.prog 5 #[.slice A0 l0.length c0] w fun e w' => e = .returned (.bool true) ∧ Below w.heap.size w w' := by
  obtain ⟨k, h⟩ := P l0 hm0 hs0 hq0
  refine (laws_FnSetups.calls k A0 c0 l0 true w hr0 hc0 ⟨rfl⟩ h).mono ?_
  rintro e w' ⟨rfl, hd⟩
  exact ⟨rfl, hd⟩
end Go.Proofs.YtpndkekgoadjkaaDoor.PFnSetups
