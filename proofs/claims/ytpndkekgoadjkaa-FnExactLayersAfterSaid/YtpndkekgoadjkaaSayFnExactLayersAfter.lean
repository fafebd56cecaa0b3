/- What remains to be shown of the law FnExactLayersAfter, over numbers and lists, and the call that follows from it. Written by a program of this session. -/
import Derived.Test.YtpndkekgoadjkaaPFnExactLayersAfterx2
namespace Go.Proofs.Ytpndkekgoadjkaa.PFnExactLayersAfter
open Go.RowKit Go.Proofs.YtpndkekgoadjkaaW.PrintWords Go.Proofs.YtpndkekgoadjkaaW.PrintLast Go.Proofs.YtpndkekgoadjkaaW.PrintMore
set_option linter.unusedVariables false

def Q62 (x : S62) : Prop := True ∧ (Lit.int .i64 x.f1).wf = true ∧ True
/-- The one pure statement of laws_FnExactLayersAfter. -/
def laws_FnExactLayersAfter.Pure : Prop := ∀ (l0 : (List S62)) (a1 : Int), l0.length ≤ maxLen → l0.length * 24 ≤ 140737488351232 → (∀ x ∈ l0, Q62 x) → (Lit.int .i64 a1).wf = true → ∃ k, laws_FnExactLayersAfter.f k l0 a1 = some true
theorem laws_FnExactLayersAfter.walk (P : laws_FnExactLayersAfter.Pure) (A0 : Option Addr) (c0 : Nat) (l0 : (List S62)) (a1 : Int) (w : World) (hr0 : Kd.C k62 w A0 l0.length l0) (hc0 : l0.length ≤ c0) (hm0 : l0.length ≤ maxLen) (hs0 : l0.length * 24 ≤ 140737488351232) (hq0 : (∀ x ∈ l0, Q62 x)) (w1 : (Lit.int .i64 a1).wf = true) :
    Calls Try.prog 3 #[.slice A0 l0.length c0, .int .i64 a1] w fun e w' => e = .returned (.bool true) ∧ Below w.heap.size w w' := by
  obtain ⟨k, h⟩ := P l0 a1 hm0 hs0 hq0 w1
  refine (laws_FnExactLayersAfter.calls k A0 c0 l0 a1 true w hr0 hc0 ⟨rfl⟩ h).mono ?_
  rintro e w' ⟨rfl, hd⟩
  exact ⟨rfl, hd⟩
end Go.Proofs.Ytpndkekgoadjkaa.PFnExactLayersAfter
