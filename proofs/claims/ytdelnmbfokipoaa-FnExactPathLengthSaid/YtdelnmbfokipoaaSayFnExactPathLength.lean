/- What remains to be shown of the law FnExactPathLength, over numbers and lists, and the call that follows from it. Written by a program of this session. -/
import Derived.Test.YtdelnmbfokipoaaPFnExactPathLengthx6
namespace Go.Proofs.Ytdelnmbfokipoaa.PFnExactPathLength
open Go.RowKit Go.Proofs.YtdelnmbfokipoaaW.PrintWords Go.Proofs.YtdelnmbfokipoaaW.PrintLast Go.Proofs.YtdelnmbfokipoaaW.PrintMore
set_option linter.unusedVariables false

def Q67 (x : S67) : Prop := (Lit.int .i64 x.f0).wf = true ∧ (Lit.int .i64 x.f1).wf = true ∧ True
/-- The one pure statement of laws_FnExactPathLength. -/
def laws_FnExactPathLength.Pure : Prop := ∀ (l0 : (List Int)) (a1 : Int) (l2 : (List S67)) (a3 : Int), l0.length ≤ maxLen → l0.length * 8 ≤ 140737488351232 → (∀ x ∈ l0, (Lit.int .i64 x).wf = true) → (Lit.int .i64 a1).wf = true → l2.length ≤ maxLen → l2.length * 24 ≤ 140737488351232 → (∀ x ∈ l2, Q67 x) → (Lit.int .i64 a3).wf = true → ∃ k, laws_FnExactPathLength.f k l0 a1 l2 a3 = some true
theorem laws_FnExactPathLength.walk (P : laws_FnExactPathLength.Pure) (A0 : Option Addr) (c0 : Nat) (l0 : (List Int)) (a1 : Int) (A2 : Option Addr) (c2 : Nat) (l2 : (List S67)) (a3 : Int) (w : World) (hr0 : Kd.C (Kd.int .i64) w A0 l0.length l0) (hc0 : l0.length ≤ c0) (hr2 : Kd.C k67 w A2 l2.length l2) (hc2 : l2.length ≤ c2) (hm0 : l0.length ≤ maxLen) (hs0 : l0.length * 8 ≤ 140737488351232) (hq0 : (∀ x ∈ l0, (Lit.int .i64 x).wf = true)) (w1 : (Lit.int .i64 a1).wf = true) (hm2 : l2.length ≤ maxLen) (hs2 : l2.length * 24 ≤ 140737488351232) (hq2 : (∀ x ∈ l2, Q67 x)) (w3 : (Lit.int .i64 a3).wf = true) :
    Calls Try.prog 9 #[.slice A0 l0.length c0, .int .i64 a1, .slice A2 l2.length c2, .int .i64 a3] w fun e w' => e = .returned (.bool true) ∧ Below w.heap.size w w' := by
  obtain ⟨k, h⟩ := P l0 a1 l2 a3 hm0 hs0 hq0 w1 hm2 hs2 hq2 w3
  refine (laws_FnExactPathLength.calls k A0 c0 l0 a1 A2 c2 l2 a3 true w hr0 hc0 hr2 hc2 ⟨rfl⟩ h).mono ?_
  rintro e w' ⟨rfl, hd⟩
  exact ⟨rfl, hd⟩
end Go.Proofs.Ytdelnmbfokipoaa.PFnExactPathLength
