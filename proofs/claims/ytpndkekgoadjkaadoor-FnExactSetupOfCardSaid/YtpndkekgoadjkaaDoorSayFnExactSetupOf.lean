/- What remains to be shown of the law FnExactSetupOf, over numbers and lists, and the call that follows from it. Written by a program of this session. -/
import Derived.Test.YtpndkekgoadjkaaDoorPFnExactSetupOfx6
namespace Go.Proofs.YtpndkekgoadjkaaDoor.PFnExactSetupOf
open Go.RowKit Go.Proofs.YtpndkekgoadjkaaDoorW.PrintWords Go.Proofs.YtpndkekgoadjkaaDoorW.PrintLast Go.Proofs.YtpndkekgoadjkaaDoorW.PrintMore
set_option linter.unusedVariables false

/-- The one pure statement of laws_FnExactSetupOf. -/
def laws_FnExactSetupOf.Pure : Prop := ∀ (a0 : Int) (a1 : Int) (a2_0 : Int) (a2_1 : Int) (a3 : ByteArray), (Lit.int .i64 a0).wf = true → (Lit.int .i64 a1).wf = true → (Lit.int .i64 a2_0).wf = true → (Lit.int .i64 a2_1).wf = true → a3.size ≤ 140737488351232 → ∃ k, laws_FnExactSetupOf.f k a0 a1 a2_0 a2_1 a3 = some true
theorem laws_FnExactSetupOf.walk (P : laws_FnExactSetupOf.Pure) (a0 : Int) (a1 : Int) (a2_0 : Int) (a2_1 : Int) (a3 : ByteArray) (w : World)   (w0 : (Lit.int .i64 a0).wf = true) (w1 : (Lit.int .i64 a1).wf = true) (w2_0 : (Lit.int .i64 a2_0).wf = true) (w2_1 : (Lit.int .i64 a2_1).wf = true) (w3 : a3.size ≤ 140737488351232) :
    Calls Tryd.prog 4 #[.int .i64 a0, .int .i64 a1, .agg #[.int .i64 a2_0, .int .i64 a2_1], .string a3] w fun e w' => e = .returned (.bool true) ∧ Below w.heap.size w w' := by
  obtain ⟨k, h⟩ := P a0 a1 a2_0 a2_1 a3 w0 w1 w2_0 w2_1 w3
  refine (laws_FnExactSetupOf.calls k a0 a1 a2_0 a2_1 a3 true w  ⟨rfl⟩ h).mono ?_
  rintro e w' ⟨rfl, hd⟩
  exact ⟨rfl, hd⟩
end Go.Proofs.YtpndkekgoadjkaaDoor.PFnExactSetupOf
