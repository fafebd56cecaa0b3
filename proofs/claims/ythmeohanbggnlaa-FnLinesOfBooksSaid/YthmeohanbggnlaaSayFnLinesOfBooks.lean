/- What remains to be shown of the law FnLinesOfBooks, over numbers and lists, and the call that follows from it. Written by a program of this session. -/
import Derived.Test.YthmeohanbggnlaaPFnLinesOfBooksx10
namespace Go.Proofs.Ythmeohanbggnlaa.PFnLinesOfBooks
open Go.RowKit Go.Proofs.YthmeohanbggnlaaW.PrintWords Go.Proofs.YthmeohanbggnlaaW.PrintLast Go.Proofs.YthmeohanbggnlaaW.PrintMore
set_option linter.unusedVariables false

/-- The one pure statement of laws_FnLinesOfBooks. -/
def laws_FnLinesOfBooks.Pure : Prop := ∀ (l0 : (List Int)), l0.length ≤ maxLen → l0.length * 1 ≤ 140737488351232 → (∀ x ∈ l0, (Lit.int .u8 x).wf = true) → ∃ k, laws_FnLinesOfBooks.f k l0 = some true
theorem laws_FnLinesOfBooks.walk (P : laws_FnLinesOfBooks.Pure) (A0 : Option Addr) (c0 : Nat) (l0 : (List Int)) (w : World) (hr0 : Kd.C (Kd.int .u8) w A0 l0.length l0) (hc0 : l0.length ≤ c0) (hm0 : l0.length ≤ maxLen) (hs0 : l0.length * 1 ≤ 140737488351232) (hq0 : (∀ x ∈ l0, (Lit.int .u8 x).wf = true)) :
    Calls Try.prog 11 #[.slice A0 l0.length c0] w fun e w' => e = .returned (.bool true) ∧ Below w.heap.size w w' := by
  obtain ⟨k, h⟩ := P l0 hm0 hs0 hq0
  refine (laws_FnLinesOfBooks.calls k A0 c0 l0 true w hr0 hc0 ⟨rfl⟩ h).mono ?_
  rintro e w' ⟨rfl, hd⟩
  exact ⟨rfl, hd⟩
end Go.Proofs.Ythmeohanbggnlaa.PFnLinesOfBooks
