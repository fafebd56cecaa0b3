/- What remains to be shown of the law FnExactEffortOf, over numbers and lists, and the call that follows from it. Written by a program of this session. -/
import Derived.Test.YtpndkekgoadjkaaPFnExactEffortOfx6
namespace Go.Proofs.Ytpndkekgoadjkaa.PFnExactEffortOf
open Go.RowKit Go.Proofs.YtpndkekgoadjkaaW.PrintWords Go.Proofs.YtpndkekgoadjkaaW.PrintLast Go.Proofs.YtpndkekgoadjkaaW.PrintMore
set_option linter.unusedVariables false

def Q62 (x : S62) : Prop := True ∧ (Lit.int .i64 x.f1).wf = true ∧ True
/-- The one pure statement of laws_FnExactEffortOf. -/
def laws_FnExactEffortOf.Pure : Prop := ∀ (l0 : (List (List S62))) (l1 : (List Int)), l0.length ≤ maxLen → l0.length * 24 ≤ 140737488351232 → (∀ x ∈ l0, (x.length ≤ maxLen ∧ ∀ y ∈ x, Q62 y)) → l1.length ≤ maxLen → l1.length * 8 ≤ 140737488351232 → (∀ x ∈ l1, (Lit.int .i64 x).wf = true) → ∃ k, laws_FnExactEffortOf.f k l0 l1 = some true
theorem laws_FnExactEffortOf.walk (P : laws_FnExactEffortOf.Pure) (A0 : Option Addr) (c0 : Nat) (l0 : (List (List S62))) (A1 : Option Addr) (c1 : Nat) (l1 : (List Int)) (w : World) (hr0 : Kd.C (Kd.slice 62 k62) w A0 l0.length l0) (hc0 : l0.length ≤ c0) (hr1 : Kd.C (Kd.int .i64) w A1 l1.length l1) (hc1 : l1.length ≤ c1) (hm0 : l0.length ≤ maxLen) (hs0 : l0.length * 24 ≤ 140737488351232) (hq0 : (∀ x ∈ l0, (x.length ≤ maxLen ∧ ∀ y ∈ x, Q62 y))) (hm1 : l1.length ≤ maxLen) (hs1 : l1.length * 8 ≤ 140737488351232) (hq1 : (∀ x ∈ l1, (Lit.int .i64 x).wf = true)) :
    Calls Try.prog 6 #[.slice A0 l0.length c0, .slice A1 l1.length c1] w fun e w' => e = .returned (.bool true) ∧ Below w.heap.size w w' := by
  obtain ⟨k, h⟩ := P l0 l1 hm0 hs0 hq0 hm1 hs1 hq1
  refine (laws_FnExactEffortOf.calls k A0 c0 l0 A1 c1 l1 true w hr0 hc0 hr1 hc1 ⟨rfl⟩ h).mono ?_
  rintro e w' ⟨rfl, hd⟩
  exact ⟨rfl, hd⟩
end Go.Proofs.Ytpndkekgoadjkaa.PFnExactEffortOf
