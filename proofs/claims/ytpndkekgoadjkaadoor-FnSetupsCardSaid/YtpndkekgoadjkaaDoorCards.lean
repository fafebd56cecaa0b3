/-
  DERIVED. GIVEN WITH THE SEED: THE CARDS: each row of YtpndkekgoadjkaaDoorRows.lean that lists a variable, with what it lists TIED to the program's text (the seventh form; the later family's looks); each row that meets fmt, with fmt's text TOLD by the authors' own Lean function (tested against real Go, not proved from fmt's source: count such statements apart). THE CARD IS WHAT COUNTS. Prove the row's statement (the work); the ties are given (YtpndkekgoadjkaaDoorTie.lean); close each card by the builder's one call (the guide's Derived/Test/ToyasCard.lean, 'card_holds'). Laid BY PROGRAM, IN A SANDBOX (cutbox-door.mjs). By AI agents, Wed Nov 11 2026. No macro, syntax, notation, axiom, sorry.
-/
import Derived.Test.YtpndkekgoadjkaaDoorRows
import GoSem.ClaimSeven
namespace Go.Proofs.YtpndkekgoadjkaaDoor
namespace Rows

/-- THE TIED CARD OF 'laws.FnExactFoldedSize'. -/
def fnExactFoldedSizeCard : Claim7 := { stood := { row := fnExactFoldedSizeRow, standIns := [], harness := (true, "aada8c2f7d603ad16151a9ce64a51d87e7d40bf5fd937bfcd59a9b415f676d5d"), looks := false }, kinds := [], alts := [], laidByText := true, laidKinds := [.data, .pinned], laidTests := true, laidLooks := .later }
def FnExactFoldedSizeCardSaid : Prop := Claim7.holds Tryd.pinned (.plain (OpenSpec.ofChange fnExactFoldedSizeSpec)) fnExactFoldedSizeCard

/-- THE TIED CARD OF 'laws.FnExactSetupOf'. -/
def fnExactSetupOfCard : Claim7 := { stood := { row := fnExactSetupOfRow, standIns := [], harness := (true, "aada8c2f7d603ad16151a9ce64a51d87e7d40bf5fd937bfcd59a9b415f676d5d"), looks := false }, kinds := [], alts := [], laidByText := true, laidKinds := [.data, .pinned], laidTests := true, laidLooks := .later }
def FnExactSetupOfCardSaid : Prop := Claim7.holds Tryd.pinned (.plain (OpenSpec.ofChange fnExactSetupOfSpec)) fnExactSetupOfCard

/-- THE TIED CARD OF 'laws.FnSetups'. -/
def fnSetupsCard : Claim7 := { stood := { row := fnSetupsRow, standIns := [], harness := (true, "aada8c2f7d603ad16151a9ce64a51d87e7d40bf5fd937bfcd59a9b415f676d5d"), looks := false }, kinds := [], alts := [], laidByText := true, laidKinds := [.data, .pinned], laidTests := true, laidLooks := .later }
def FnSetupsCardSaid : Prop := Claim7.holds Tryd.pinned (.plain (OpenSpec.ofChange fnSetupsSpec)) fnSetupsCard

/-- THE SECOND FORM's CARD OF 'laws.FnExactFoldedSize'. -/
def fnExactFoldedSizeUptoCard : Claim7 := { stood := { row := fnExactFoldedSizeUptoRow, standIns := [], harness := (true, "aada8c2f7d603ad16151a9ce64a51d87e7d40bf5fd937bfcd59a9b415f676d5d"), looks := false }, kinds := [], alts := [], laidByText := true, laidKinds := [.data, .pinned], laidTests := true, laidLooks := .later }
def FnExactFoldedSizeUptoCardSaid : Prop := Claim7.holds Tryd.pinned (.plain (OpenSpec.upto fnExactFoldedSizeSpec)) fnExactFoldedSizeUptoCard

/-- THE SECOND FORM's CARD OF 'laws.FnExactSetupOf'. -/
def fnExactSetupOfUptoCard : Claim7 := { stood := { row := fnExactSetupOfUptoRow, standIns := [], harness := (true, "aada8c2f7d603ad16151a9ce64a51d87e7d40bf5fd937bfcd59a9b415f676d5d"), looks := false }, kinds := [], alts := [], laidByText := true, laidKinds := [.data, .pinned], laidTests := true, laidLooks := .later }
def FnExactSetupOfUptoCardSaid : Prop := Claim7.holds Tryd.pinned (.plain (OpenSpec.upto fnExactSetupOfSpec)) fnExactSetupOfUptoCard

/-- THE SECOND FORM's CARD OF 'laws.FnSetups'. -/
def fnSetupsUptoCard : Claim7 := { stood := { row := fnSetupsUptoRow, standIns := [], harness := (true, "aada8c2f7d603ad16151a9ce64a51d87e7d40bf5fd937bfcd59a9b415f676d5d"), looks := false }, kinds := [], alts := [], laidByText := true, laidKinds := [.data, .pinned], laidTests := true, laidLooks := .later }
def FnSetupsUptoCardSaid : Prop := Claim7.holds Tryd.pinned (.plain (OpenSpec.upto fnSetupsSpec)) fnSetupsUptoCard
end Rows
end Go.Proofs.YtpndkekgoadjkaaDoor
