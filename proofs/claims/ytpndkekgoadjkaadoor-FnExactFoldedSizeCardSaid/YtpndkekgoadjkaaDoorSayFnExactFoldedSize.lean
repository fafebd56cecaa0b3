/- What remains to be shown of the law FnExactFoldedSize, over numbers and lists, and the call that follows from it. Written by a program of this session. -/
import Derived.Test.YtpndkekgoadjkaaDoorPFnExactFoldedSizex4
namespace Go.Proofs.YtpndkekgoadjkaaDoor.PFnExactFoldedSize
open Go.RowKit Go.Proofs.YtpndkekgoadjkaaDoorW.PrintWords Go.Proofs.YtpndkekgoadjkaaDoorW.PrintLast Go.Proofs.YtpndkekgoadjkaaDoorW.PrintMore
set_option linter.unusedVariables false

/-- The one pure statement of laws_FnExactFoldedSize. -/
def laws_FnExactFoldedSize.Pure : Prop := ∀ (a0 : Int) (a1 : Int) (a2_0 : Int) (a2_1 : Int) (a3 : ByteArray) (a4 : Int), (Lit.int .i64 a0).wf = true → (Lit.int .i64 a1).wf = true → (Lit.int .i64 a2_0).wf = true → (Lit.int .i64 a2_1).wf = true → a3.size ≤ 140737488351232 → (Lit.int .i64 a4).wf = true → ∃ k, laws_FnExactFoldedSize.f k a0 a1 a2_0 a2_1 a3 a4 = some true
theorem laws_FnExactFoldedSize.walk (P : laws_FnExactFoldedSize.Pure) (a0 : Int) (a1 : Int) (a2_0 : Int) (a2_1 : Int) (a3 : ByteArray) (a4 : Int) (w : World)   (w0 : (Lit.int .i64 a0).wf = true) (w1 : (Lit.int .i64 a1).wf = true) (w2_0 : (Lit.int .i64 a2_0).wf = true) (w2_1 : (Lit.int .i64 a2_1).wf = true) (w3 : a3.size ≤ 140737488351232) (w4 : (Lit.int .i64 a4).wf = true) :
    Calls Tryd.prog 3 #[.int .i64 a0, .int .i64 a1, .agg #[.int .i64 a2_0, .int .i64 a2_1], .string a3, .int .i64 a4] w fun e w' => e = .returned (.bool true) ∧ Below w.heap.size w w' := by
  obtain ⟨k, h⟩ := P a0 a1 a2_0 a2_1 a3 a4 w0 w1 w2_0 w2_1 w3 w4
  refine (laws_FnExactFoldedSize.calls k a0 a1 a2_0 a2_1 a3 a4 true w  ⟨rfl⟩ h).mono ?_
  rintro e w' ⟨rfl, hd⟩
  exact ⟨rfl, hd⟩
end Go.Proofs.YtpndkekgoadjkaaDoor.PFnExactFoldedSize
