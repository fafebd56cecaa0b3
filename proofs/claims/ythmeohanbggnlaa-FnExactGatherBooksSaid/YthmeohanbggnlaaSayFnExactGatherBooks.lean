/- What remains to be shown of the law FnExactGatherBooks, over numbers and lists, and the call that follows from it. Written by a program of this session. -/
import Derived.Test.YthmeohanbggnlaaPFnExactGatherBooksx7
namespace Go.Proofs.Ythmeohanbggnlaa.PFnExactGatherBooks
open Go.RowKit Go.Proofs.YthmeohanbggnlaaW.PrintWords Go.Proofs.YthmeohanbggnlaaW.PrintLast Go.Proofs.YthmeohanbggnlaaW.PrintMore
set_option linter.unusedVariables false

def Q64 (x : S64) : Prop := (Lit.int .i64 x.f0).wf = true ∧ (Lit.int .i64 x.f1).wf = true ∧ (Lit.int .i64 x.f2).wf = true ∧ (Lit.int .i64 x.f3).wf = true
/-- The one pure statement of laws_FnExactGatherBooks. -/
def laws_FnExactGatherBooks.Pure : Prop := ∀ (a0 : Int) (a1 : Int) (l2 : (List S64)), (Lit.int .i64 a0).wf = true → (Lit.int .i64 a1).wf = true → l2.length ≤ maxLen → l2.length * 32 ≤ 140737488351232 → (∀ x ∈ l2, Q64 x) → ∃ k, laws_FnExactGatherBooks.f k a0 a1 l2 = some true
theorem laws_FnExactGatherBooks.walk (P : laws_FnExactGatherBooks.Pure) (a0 : Int) (a1 : Int) (A2 : Option Addr) (c2 : Nat) (l2 : (List S64)) (w : World) (hr2 : Kd.C k64 w A2 l2.length l2) (hc2 : l2.length ≤ c2) (w0 : (Lit.int .i64 a0).wf = true) (w1 : (Lit.int .i64 a1).wf = true) (hm2 : l2.length ≤ maxLen) (hs2 : l2.length * 32 ≤ 140737488351232) (hq2 : (∀ x ∈ l2, Q64 x)) :
    Calls Try.prog 9 #[.int .i64 a0, .int .i64 a1, .slice A2 l2.length c2] w fun e w' => e = .returned (.bool true) ∧ Below w.heap.size w w' := by
  obtain ⟨k, h⟩ := P a0 a1 l2 w0 w1 hm2 hs2 hq2
  refine (laws_FnExactGatherBooks.calls k a0 a1 A2 c2 l2 true w hr2 hc2 ⟨rfl⟩ h).mono ?_
  rintro e w' ⟨rfl, hd⟩
  exact ⟨rfl, hd⟩
end Go.Proofs.Ythmeohanbggnlaa.PFnExactGatherBooks
