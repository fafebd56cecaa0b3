/- What remains to be shown of the law FnExactBestPlan, over numbers and lists, and the call that follows from it. Written by a program of this session. -/
import Derived.Test.YtomddpdfcdnaaaaDoorPFnExactBestPlanx6
namespace Go.Proofs.YtomddpdfcdnaaaaDoor.PFnExactBestPlan
open Go.RowKit Go.Proofs.YtomddpdfcdnaaaaDoorW.PrintWords Go.Proofs.YtomddpdfcdnaaaaDoorW.PrintLast Go.Proofs.YtomddpdfcdnaaaaDoorW.PrintMore
set_option linter.unusedVariables false

def Q54 (x : S54) : Prop := (Lit.int .i64 x.f0).wf = true ∧ (Lit.int .i64 x.f1).wf = true ∧ (Lit.int .i64 x.f2).wf = true
/-- The one pure statement of laws_FnExactBestPlan. -/
def laws_FnExactBestPlan.Pure : Prop := ∀ (a0 : Int) (a1 : Int) (l2 : (List S54)), (Lit.int .i64 a0).wf = true → (Lit.int .i64 a1).wf = true → l2.length ≤ maxLen → l2.length * 24 ≤ 140737488351232 → (∀ x ∈ l2, Q54 x) → ∃ k, laws_FnExactBestPlan.f k a0 a1 l2 = some true
theorem laws_FnExactBestPlan.walk (P : laws_FnExactBestPlan.Pure) (a0 : Int) (a1 : Int) (A2 : Option Addr) (c2 : Nat) (l2 : (List S54)) (w : World) (hT_ : TabL w) (hr2 : Kd.C k54 w A2 l2.length l2) (hc2 : l2.length ≤ c2) (w0 : (Lit.int .i64 a0).wf = true) (w1 : (Lit.int .i64 a1).wf = true) (hm2 : l2.length ≤ maxLen) (hs2 : l2.length * 24 ≤ 140737488351232) (hq2 : (∀ x ∈ l2, Q54 x)) :
    Calls Tryd.prog 4 #[.int .i64 a0, .int .i64 a1, .slice A2 l2.length c2] w fun e w' => e = .returned (.bool true) ∧ Below w.heap.size w w' := by
  obtain ⟨k, h⟩ := P a0 a1 l2 w0 w1 hm2 hs2 hq2
  refine (laws_FnExactBestPlan.calls k a0 a1 A2 c2 l2 true w hT_ hr2 hc2 ⟨rfl⟩ h).mono ?_
  rintro e w' ⟨rfl, hd⟩
  exact ⟨rfl, hd⟩
end Go.Proofs.YtomddpdfcdnaaaaDoor.PFnExactBestPlan
