/- What remains to be shown of the law FnExactCountFaults, over numbers and lists, and the call that follows from it. Written by a program of this session. -/
import Derived.Test.YthmeohanbggnlaaPFnExactCountFaultsx6
namespace Go.Proofs.Ythmeohanbggnlaa.PFnExactCountFaults
open Go.RowKit Go.Proofs.YthmeohanbggnlaaW.PrintWords Go.Proofs.YthmeohanbggnlaaW.PrintLast Go.Proofs.YthmeohanbggnlaaW.PrintMore
set_option linter.unusedVariables false

/-- The one pure statement of laws_FnExactCountFaults. -/
def laws_FnExactCountFaults.Pure : Prop := ∀ (a0 : Int) (l1 : (List Int)), (Lit.int .i64 a0).wf = true → l1.length ≤ maxLen → l1.length * 8 ≤ 140737488351232 → (∀ x ∈ l1, (Lit.int .i64 x).wf = true) → ∃ k, laws_FnExactCountFaults.f k a0 l1 = some true
theorem laws_FnExactCountFaults.walk (P : laws_FnExactCountFaults.Pure) (a0 : Int) (A1 : Option Addr) (c1 : Nat) (l1 : (List Int)) (w : World)  (hr1 : Kd.C (Kd.int .i64) w A1 l1.length l1) (hc1 : l1.length ≤ c1) (w0 : (Lit.int .i64 a0).wf = true) (hm1 : l1.length ≤ maxLen) (hs1 : l1.length * 8 ≤ 140737488351232) (hq1 : (∀ x ∈ l1, (Lit.int .i64 x).wf = true)) :
    Calls Try.prog 7 #[.int .i64 a0, .slice A1 l1.length c1] w fun e w' => e = .returned (.bool true) ∧ Below w.heap.size w w' := by
  obtain ⟨k, h⟩ := P a0 l1 w0 hm1 hs1 hq1
  refine (laws_FnExactCountFaults.calls k a0 A1 c1 l1 true w hr1 hc1 ⟨rfl⟩ h).mono ?_
  rintro e w' ⟨rfl, hd⟩
  exact ⟨rfl, hd⟩
end Go.Proofs.Ythmeohanbggnlaa.PFnExactCountFaults
