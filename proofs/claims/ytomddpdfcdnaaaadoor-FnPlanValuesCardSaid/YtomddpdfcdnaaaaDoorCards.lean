/-
  DERIVED. GIVEN WITH THE SEED: THE CARDS: each row of YtomddpdfcdnaaaaDoorRows.lean that lists a variable, with what it lists TIED to the program's text (the seventh form; the later family's looks); each row that meets fmt, with fmt's text TOLD by the authors' own Lean function (tested against real Go, not proved from fmt's source: count such statements apart). THE CARD IS WHAT COUNTS. Prove the row's statement (the work); the ties are given (YtomddpdfcdnaaaaDoorTie.lean); close each card by the builder's one call (the guide's Derived/Test/ToyasCard.lean, 'card_holds'). Laid BY PROGRAM, IN A SANDBOX (cutbox-door.mjs). By AI agents, Wed Nov 11 2026. No macro, syntax, notation, axiom, sorry.
-/
import Derived.Test.YtomddpdfcdnaaaaDoorRows
import GoSem.ClaimSeven
namespace Go.Proofs.YtomddpdfcdnaaaaDoor
namespace Rows

/-- THE TIED CARD OF 'laws.FnExactPlanCounts'. -/
def fnExactPlanCountsCard : Claim7 := { stood := { row := fnExactPlanCountsRow, standIns := [], harness := (true, "e09ebb48584c6f457f852a8e6bdab216aef84c5048de040fe410864dabf8453e"), looks := true }, kinds := [], alts := [], laidByText := true, laidKinds := [.data, .data, .data, .sentinel, .sentinel], laidTests := true, laidLooks := .later }
def FnExactPlanCountsCardSaid : Prop := Claim7.holds Tryd.pinned (.plain (OpenSpec.ofChange fnExactPlanCountsSpec)) fnExactPlanCountsCard

/-- THE TIED CARD OF 'laws.FnExactBestPlan'. -/
def fnExactBestPlanCard : Claim7 := { stood := { row := fnExactBestPlanRow, standIns := [], harness := (true, "e09ebb48584c6f457f852a8e6bdab216aef84c5048de040fe410864dabf8453e"), looks := true }, kinds := [], alts := [], laidByText := true, laidKinds := [.data, .data, .data], laidTests := true, laidLooks := .later }
def FnExactBestPlanCardSaid : Prop := Claim7.holds Tryd.pinned (.plain (OpenSpec.ofChange fnExactBestPlanSpec)) fnExactBestPlanCard

/-- THE TIED CARD OF 'laws.FnExactPlanValue'. -/
def fnExactPlanValueCard : Claim7 := { stood := { row := fnExactPlanValueRow, standIns := [], harness := (true, "e09ebb48584c6f457f852a8e6bdab216aef84c5048de040fe410864dabf8453e"), looks := true }, kinds := [], alts := [], laidByText := true, laidKinds := [.data, .data, .data, .sentinel, .sentinel], laidTests := true, laidLooks := .later }
def FnExactPlanValueCardSaid : Prop := Claim7.holds Tryd.pinned (.plain (OpenSpec.ofChange fnExactPlanValueSpec)) fnExactPlanValueCard

/-- THE TIED CARD OF 'laws.FnExactPlanWaste'. -/
def fnExactPlanWasteCard : Claim7 := { stood := { row := fnExactPlanWasteRow, standIns := [], harness := (true, "e09ebb48584c6f457f852a8e6bdab216aef84c5048de040fe410864dabf8453e"), looks := true }, kinds := [], alts := [], laidByText := true, laidKinds := [.data, .data, .data, .sentinel, .sentinel], laidTests := true, laidLooks := .later }
def FnExactPlanWasteCardSaid : Prop := Claim7.holds Tryd.pinned (.plain (OpenSpec.ofChange fnExactPlanWasteSpec)) fnExactPlanWasteCard

/-- THE TIED CARD OF 'laws.FnBestPlans'. -/
def fnBestPlansCard : Claim7 := { stood := { row := fnBestPlansRow, standIns := [], harness := (true, "e09ebb48584c6f457f852a8e6bdab216aef84c5048de040fe410864dabf8453e"), looks := true }, kinds := [], alts := [], laidByText := true, laidKinds := [.data, .data, .data, .sentinel, .sentinel], laidTests := true, laidLooks := .later }
def FnBestPlansCardSaid : Prop := Claim7.holds Tryd.pinned (.plain (OpenSpec.ofChange fnBestPlansSpec)) fnBestPlansCard

/-- THE TIED CARD OF 'laws.FnPlanValues'. -/
def fnPlanValuesCard : Claim7 := { stood := { row := fnPlanValuesRow, standIns := [], harness := (true, "e09ebb48584c6f457f852a8e6bdab216aef84c5048de040fe410864dabf8453e"), looks := true }, kinds := [], alts := [], laidByText := true, laidKinds := [.data, .data, .data, .sentinel, .sentinel], laidTests := true, laidLooks := .later }
def FnPlanValuesCardSaid : Prop := Claim7.holds Tryd.pinned (.plain (OpenSpec.ofChange fnPlanValuesSpec)) fnPlanValuesCard

/-- THE SECOND FORM's CARD OF 'laws.FnExactPlanCounts'. -/
def fnExactPlanCountsUptoCard : Claim7 := { stood := { row := fnExactPlanCountsUptoRow, standIns := [], harness := (true, "e09ebb48584c6f457f852a8e6bdab216aef84c5048de040fe410864dabf8453e"), looks := true }, kinds := [], alts := [], laidByText := true, laidKinds := [.data, .data, .data, .sentinel, .sentinel], laidTests := true, laidLooks := .later }
def FnExactPlanCountsUptoCardSaid : Prop := Claim7.holds Tryd.pinned (.plain (OpenSpec.upto fnExactPlanCountsSpec)) fnExactPlanCountsUptoCard

/-- THE SECOND FORM's CARD OF 'laws.FnExactBestPlan'. -/
def fnExactBestPlanUptoCard : Claim7 := { stood := { row := fnExactBestPlanUptoRow, standIns := [], harness := (true, "e09ebb48584c6f457f852a8e6bdab216aef84c5048de040fe410864dabf8453e"), looks := true }, kinds := [], alts := [], laidByText := true, laidKinds := [.data, .data, .data], laidTests := true, laidLooks := .later }
def FnExactBestPlanUptoCardSaid : Prop := Claim7.holds Tryd.pinned (.plain (OpenSpec.upto fnExactBestPlanSpec)) fnExactBestPlanUptoCard

/-- THE SECOND FORM's CARD OF 'laws.FnExactPlanValue'. -/
def fnExactPlanValueUptoCard : Claim7 := { stood := { row := fnExactPlanValueUptoRow, standIns := [], harness := (true, "e09ebb48584c6f457f852a8e6bdab216aef84c5048de040fe410864dabf8453e"), looks := true }, kinds := [], alts := [], laidByText := true, laidKinds := [.data, .data, .data, .sentinel, .sentinel], laidTests := true, laidLooks := .later }
def FnExactPlanValueUptoCardSaid : Prop := Claim7.holds Tryd.pinned (.plain (OpenSpec.upto fnExactPlanValueSpec)) fnExactPlanValueUptoCard

/-- THE SECOND FORM's CARD OF 'laws.FnExactPlanWaste'. -/
def fnExactPlanWasteUptoCard : Claim7 := { stood := { row := fnExactPlanWasteUptoRow, standIns := [], harness := (true, "e09ebb48584c6f457f852a8e6bdab216aef84c5048de040fe410864dabf8453e"), looks := true }, kinds := [], alts := [], laidByText := true, laidKinds := [.data, .data, .data, .sentinel, .sentinel], laidTests := true, laidLooks := .later }
def FnExactPlanWasteUptoCardSaid : Prop := Claim7.holds Tryd.pinned (.plain (OpenSpec.upto fnExactPlanWasteSpec)) fnExactPlanWasteUptoCard

/-- THE SECOND FORM's CARD OF 'laws.FnBestPlans'. -/
def fnBestPlansUptoCard : Claim7 := { stood := { row := fnBestPlansUptoRow, standIns := [], harness := (true, "e09ebb48584c6f457f852a8e6bdab216aef84c5048de040fe410864dabf8453e"), looks := true }, kinds := [], alts := [], laidByText := true, laidKinds := [.data, .data, .data, .sentinel, .sentinel], laidTests := true, laidLooks := .later }
def FnBestPlansUptoCardSaid : Prop := Claim7.holds Tryd.pinned (.plain (OpenSpec.upto fnBestPlansSpec)) fnBestPlansUptoCard

/-- THE SECOND FORM's CARD OF 'laws.FnPlanValues'. -/
def fnPlanValuesUptoCard : Claim7 := { stood := { row := fnPlanValuesUptoRow, standIns := [], harness := (true, "e09ebb48584c6f457f852a8e6bdab216aef84c5048de040fe410864dabf8453e"), looks := true }, kinds := [], alts := [], laidByText := true, laidKinds := [.data, .data, .data, .sentinel, .sentinel], laidTests := true, laidLooks := .later }
def FnPlanValuesUptoCardSaid : Prop := Claim7.holds Tryd.pinned (.plain (OpenSpec.upto fnPlanValuesSpec)) fnPlanValuesUptoCard
end Rows
end Go.Proofs.YtomddpdfcdnaaaaDoor
