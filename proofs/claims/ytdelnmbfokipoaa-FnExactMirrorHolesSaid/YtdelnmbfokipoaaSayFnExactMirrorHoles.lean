/- What remains to be shown of the law FnExactMirrorHoles, over numbers and lists, and the call that follows from it. Written by a program of this session. -/
import Derived.Test.YtdelnmbfokipoaaPFnExactMirrorHolesx3
namespace Go.Proofs.Ytdelnmbfokipoaa.PFnExactMirrorHoles
open Go.RowKit Go.Proofs.YtdelnmbfokipoaaW.PrintWords Go.Proofs.YtdelnmbfokipoaaW.PrintLast Go.Proofs.YtdelnmbfokipoaaW.PrintMore
set_option linter.unusedVariables false

/-- The one pure statement of laws_FnExactMirrorHoles. -/
def laws_FnExactMirrorHoles.Pure : Prop := ∀ (l0 : (List Int)) (a1 : Int), l0.length ≤ maxLen → l0.length * 8 ≤ 140737488351232 → (∀ x ∈ l0, (Lit.int .i64 x).wf = true) → (Lit.int .i64 a1).wf = true → ∃ k, laws_FnExactMirrorHoles.f k l0 a1 = some true
theorem laws_FnExactMirrorHoles.walk (P : laws_FnExactMirrorHoles.Pure) (A0 : Option Addr) (c0 : Nat) (l0 : (List Int)) (a1 : Int) (w : World) (hr0 : Kd.C (Kd.int .i64) w A0 l0.length l0) (hc0 : l0.length ≤ c0) (hm0 : l0.length ≤ maxLen) (hs0 : l0.length * 8 ≤ 140737488351232) (hq0 : (∀ x ∈ l0, (Lit.int .i64 x).wf = true)) (w1 : (Lit.int .i64 a1).wf = true) :
    Calls Try.prog 7 #[.slice A0 l0.length c0, .int .i64 a1] w fun e w' => e = .returned (.bool true) ∧ Below w.heap.size w w' := by
  obtain ⟨k, h⟩ := P l0 a1 hm0 hs0 hq0 w1
  refine (laws_FnExactMirrorHoles.calls k A0 c0 l0 a1 true w hr0 hc0 ⟨rfl⟩ h).mono ?_
  rintro e w' ⟨rfl, hd⟩
  exact ⟨rfl, hd⟩
end Go.Proofs.Ytdelnmbfokipoaa.PFnExactMirrorHoles
