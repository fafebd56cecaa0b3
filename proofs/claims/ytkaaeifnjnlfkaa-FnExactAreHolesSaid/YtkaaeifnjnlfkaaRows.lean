/-
  No cell of these rows narrows 'for every input' (looked for: loops, veiled, ifaces, maps, wideKeys, modest, calm, conditions, laid).
  DERIVED. THE GIVEN ROWS OF THIS SEAT. 12 by the template 'for every input the law returns true; each argument reads behind the call as it read before'; 0 by the template 'total and deterministic' (their statements: YtkaaeifnjnlfkaaTotals.lean).
  GIVEN WITH THE SEED: the statements are not yours to turn. If you find one false, say at which input.
  Laid BY PROGRAM, IN A SANDBOX (cutbox-rows.mjs): the forced cells as the released guide's own fill.sh prints them over the translation 285b705c527a21cd… (all of the seat's roots in one cut). By AI agents, Wed Nov 11 2026. No macro, syntax, notation, axiom, sorry.
-/
import Derived.Test.YtkaaeifnjnlfkaaChecked
import GoSem.Claim
import GoSem.ClaimJoined
import GoSem.ClaimMapViews
import Derived.JoinedTies
import Derived.KernelRfl
namespace Go.Proofs.Ytkaaeifnjnlfkaa
/- THE CELL 'sum', in the pinned program and in every row, IS THE sha256 OF THE DUMP (.gsa) THAT YtkaaeifnjnlfkaaProg.lean LOADS. Nothing in Lean hashes anything: it is a label: what it is worth is what the hold of that sum in a sandbox is worth. -/
noncomputable def Try.pinned : Pinned := { name := "ytkaaeifnjnlfkaa", sum := "285b705c527a21cdabe60204cd22228385b76bb155f0b659c86a5558556e7c8c", checked := Try.checked }
namespace Rows
def none {H : Type} : Left H := { results := [], args := [] }

/-- 'laws.FnExactIsCode': WHATEVER THE INPUT: true; the input reads as it did. -/
def fnExactIsCodeSpec : ChangeSpec := { name := "fnExactIsCode", fn := fun _ => fun
  | [d] => { results := [.lit (.bool true)], args := [d] }
  | _ => none }
def fnExactIsCodeRow : OpenClaim := { program := "ytkaaeifnjnlfkaa", sum := "285b705c527a21cdabe60204cd22228385b76bb155f0b659c86a5558556e7c8c", func := "loop.example/g00944/laws.FnExactIsCode", spec := "fnExactIsCode", apart := false }
def FnExactIsCodeSaid : Prop := fnExactIsCodeRow.holds Try.pinned (OpenSpec.ofChange fnExactIsCodeSpec)

/-- ITS FALSE NEIGHBOUR: 'it returns false'. Refute it at one input. -/
def fnExactIsCodeWrong : ChangeSpec := { name := "fnExactIsCode", fn := fun _ => fun
  | [d] => { results := [.lit (.bool false)], args := [d] }
  | _ => none }
def FnExactIsCodeWrongFalsely : Prop := fnExactIsCodeRow.holds Try.pinned (OpenSpec.ofChange fnExactIsCodeWrong)

/-- 'laws.FnExactIsPaper': WHATEVER THE INPUT: true; the input reads as it did. -/
def fnExactIsPaperSpec : ChangeSpec := { name := "fnExactIsPaper", fn := fun _ => fun
  | [d] => { results := [.lit (.bool true)], args := [d] }
  | _ => none }
def fnExactIsPaperRow : OpenClaim := { program := "ytkaaeifnjnlfkaa", sum := "285b705c527a21cdabe60204cd22228385b76bb155f0b659c86a5558556e7c8c", func := "loop.example/g00944/laws.FnExactIsPaper", spec := "fnExactIsPaper", apart := false }
def FnExactIsPaperSaid : Prop := fnExactIsPaperRow.holds Try.pinned (OpenSpec.ofChange fnExactIsPaperSpec)

/-- ITS FALSE NEIGHBOUR: 'it returns false'. Refute it at one input. -/
def fnExactIsPaperWrong : ChangeSpec := { name := "fnExactIsPaper", fn := fun _ => fun
  | [d] => { results := [.lit (.bool false)], args := [d] }
  | _ => none }
def FnExactIsPaperWrongFalsely : Prop := fnExactIsPaperRow.holds Try.pinned (OpenSpec.ofChange fnExactIsPaperWrong)

/-- 'laws.FnExactIsBlock': WHATEVER THE INPUT: true; the input reads as it did. -/
def fnExactIsBlockSpec : ChangeSpec := { name := "fnExactIsBlock", fn := fun _ => fun
  | [d] => { results := [.lit (.bool true)], args := [d] }
  | _ => none }
def fnExactIsBlockRow : OpenClaim := { program := "ytkaaeifnjnlfkaa", sum := "285b705c527a21cdabe60204cd22228385b76bb155f0b659c86a5558556e7c8c", func := "loop.example/g00944/laws.FnExactIsBlock", spec := "fnExactIsBlock", apart := false }
def FnExactIsBlockSaid : Prop := fnExactIsBlockRow.holds Try.pinned (OpenSpec.ofChange fnExactIsBlockSpec)

/-- ITS FALSE NEIGHBOUR: 'it returns false'. Refute it at one input. -/
def fnExactIsBlockWrong : ChangeSpec := { name := "fnExactIsBlock", fn := fun _ => fun
  | [d] => { results := [.lit (.bool false)], args := [d] }
  | _ => none }
def FnExactIsBlockWrongFalsely : Prop := fnExactIsBlockRow.holds Try.pinned (OpenSpec.ofChange fnExactIsBlockWrong)

/-- 'laws.FnExactIsCaseRule': WHATEVER THE INPUT: true; the input reads as it did. -/
def fnExactIsCaseRuleSpec : ChangeSpec := { name := "fnExactIsCaseRule", fn := fun _ => fun
  | [d] => { results := [.lit (.bool true)], args := [d] }
  | _ => none }
def fnExactIsCaseRuleRow : OpenClaim := { program := "ytkaaeifnjnlfkaa", sum := "285b705c527a21cdabe60204cd22228385b76bb155f0b659c86a5558556e7c8c", func := "loop.example/g00944/laws.FnExactIsCaseRule", spec := "fnExactIsCaseRule", apart := false }
def FnExactIsCaseRuleSaid : Prop := fnExactIsCaseRuleRow.holds Try.pinned (OpenSpec.ofChange fnExactIsCaseRuleSpec)

/-- ITS FALSE NEIGHBOUR: 'it returns false'. Refute it at one input. -/
def fnExactIsCaseRuleWrong : ChangeSpec := { name := "fnExactIsCaseRule", fn := fun _ => fun
  | [d] => { results := [.lit (.bool false)], args := [d] }
  | _ => none }
def FnExactIsCaseRuleWrongFalsely : Prop := fnExactIsCaseRuleRow.holds Try.pinned (OpenSpec.ofChange fnExactIsCaseRuleWrong)

/-- 'laws.FnExactPartsOfCode': WHATEVER THE INPUT: true; the input reads as it did. -/
def fnExactPartsOfCodeSpec : ChangeSpec := { name := "fnExactPartsOfCode", fn := fun _ => fun
  | [d] => { results := [.lit (.bool true)], args := [d] }
  | _ => none }
def fnExactPartsOfCodeRow : OpenClaim := { program := "ytkaaeifnjnlfkaa", sum := "285b705c527a21cdabe60204cd22228385b76bb155f0b659c86a5558556e7c8c", func := "loop.example/g00944/laws.FnExactPartsOfCode", spec := "fnExactPartsOfCode", apart := false }
def FnExactPartsOfCodeSaid : Prop := fnExactPartsOfCodeRow.holds Try.pinned (OpenSpec.ofChange fnExactPartsOfCodeSpec)

/-- ITS FALSE NEIGHBOUR: 'it returns false'. Refute it at one input. -/
def fnExactPartsOfCodeWrong : ChangeSpec := { name := "fnExactPartsOfCode", fn := fun _ => fun
  | [d] => { results := [.lit (.bool false)], args := [d] }
  | _ => none }
def FnExactPartsOfCodeWrongFalsely : Prop := fnExactPartsOfCodeRow.holds Try.pinned (OpenSpec.ofChange fnExactPartsOfCodeWrong)

/-- 'laws.FnExactPaperThickness': WHATEVER THE INPUT: true; the input reads as it did. -/
def fnExactPaperThicknessSpec : ChangeSpec := { name := "fnExactPaperThickness", fn := fun _ => fun
  | [d] => { results := [.lit (.bool true)], args := [d] }
  | _ => none }
def fnExactPaperThicknessRow : OpenClaim := { program := "ytkaaeifnjnlfkaa", sum := "285b705c527a21cdabe60204cd22228385b76bb155f0b659c86a5558556e7c8c", func := "loop.example/g00944/laws.FnExactPaperThickness", spec := "fnExactPaperThickness", apart := false }
def FnExactPaperThicknessSaid : Prop := fnExactPaperThicknessRow.holds Try.pinned (OpenSpec.ofChange fnExactPaperThicknessSpec)

/-- ITS FALSE NEIGHBOUR: 'it returns false'. Refute it at one input. -/
def fnExactPaperThicknessWrong : ChangeSpec := { name := "fnExactPaperThickness", fn := fun _ => fun
  | [d] => { results := [.lit (.bool false)], args := [d] }
  | _ => none }
def FnExactPaperThicknessWrongFalsely : Prop := fnExactPaperThicknessRow.holds Try.pinned (OpenSpec.ofChange fnExactPaperThicknessWrong)

/-- 'laws.FnExactGlueArea': WHATEVER THE INPUT: true; the input reads as it did. -/
def fnExactGlueAreaSpec : ChangeSpec := { name := "fnExactGlueArea", fn := fun _ => fun
  | [d] => { results := [.lit (.bool true)], args := [d] }
  | _ => none }
def fnExactGlueAreaRow : OpenClaim := { program := "ytkaaeifnjnlfkaa", sum := "285b705c527a21cdabe60204cd22228385b76bb155f0b659c86a5558556e7c8c", func := "loop.example/g00944/laws.FnExactGlueArea", spec := "fnExactGlueArea", apart := false }
def FnExactGlueAreaSaid : Prop := fnExactGlueAreaRow.holds Try.pinned (OpenSpec.ofChange fnExactGlueAreaSpec)

/-- ITS FALSE NEIGHBOUR: 'it returns false'. Refute it at one input. -/
def fnExactGlueAreaWrong : ChangeSpec := { name := "fnExactGlueArea", fn := fun _ => fun
  | [d] => { results := [.lit (.bool false)], args := [d] }
  | _ => none }
def FnExactGlueAreaWrongFalsely : Prop := fnExactGlueAreaRow.holds Try.pinned (OpenSpec.ofChange fnExactGlueAreaWrong)

/-- 'laws.FnExactCodeOf': WHATEVER THE INPUT: true; the input reads as it did. -/
def fnExactCodeOfSpec : ChangeSpec := { name := "fnExactCodeOf", fn := fun _ => fun
  | [d1, d2] => { results := [.lit (.bool true)], args := [d1, d2] }
  | _ => none }
def fnExactCodeOfRow : OpenClaim := { program := "ytkaaeifnjnlfkaa", sum := "285b705c527a21cdabe60204cd22228385b76bb155f0b659c86a5558556e7c8c", func := "loop.example/g00944/laws.FnExactCodeOf", spec := "fnExactCodeOf", apart := false }
def FnExactCodeOfSaid : Prop := fnExactCodeOfRow.holds Try.pinned (OpenSpec.ofChange fnExactCodeOfSpec)

/-- ITS FALSE NEIGHBOUR: 'it returns false'. Refute it at one input. -/
def fnExactCodeOfWrong : ChangeSpec := { name := "fnExactCodeOf", fn := fun _ => fun
  | [d1, d2] => { results := [.lit (.bool false)], args := [d1, d2] }
  | _ => none }
def FnExactCodeOfWrongFalsely : Prop := fnExactCodeOfRow.holds Try.pinned (OpenSpec.ofChange fnExactCodeOfWrong)

/-- 'laws.FnExactSheetsInHeight': WHATEVER THE INPUT: true; the input reads as it did. -/
def fnExactSheetsInHeightSpec : ChangeSpec := { name := "fnExactSheetsInHeight", fn := fun _ => fun
  | [d1, d2] => { results := [.lit (.bool true)], args := [d1, d2] }
  | _ => none }
def fnExactSheetsInHeightRow : OpenClaim := { program := "ytkaaeifnjnlfkaa", sum := "285b705c527a21cdabe60204cd22228385b76bb155f0b659c86a5558556e7c8c", func := "loop.example/g00944/laws.FnExactSheetsInHeight", spec := "fnExactSheetsInHeight", apart := false }
def FnExactSheetsInHeightSaid : Prop := fnExactSheetsInHeightRow.holds Try.pinned (OpenSpec.ofChange fnExactSheetsInHeightSpec)

/-- ITS FALSE NEIGHBOUR: 'it returns false'. Refute it at one input. -/
def fnExactSheetsInHeightWrong : ChangeSpec := { name := "fnExactSheetsInHeight", fn := fun _ => fun
  | [d1, d2] => { results := [.lit (.bool false)], args := [d1, d2] }
  | _ => none }
def FnExactSheetsInHeightWrongFalsely : Prop := fnExactSheetsInHeightRow.holds Try.pinned (OpenSpec.ofChange fnExactSheetsInHeightWrong)

/-- 'laws.FnExactSheetWeight': WHATEVER THE INPUT: true; the input reads as it did. -/
def fnExactSheetWeightSpec : ChangeSpec := { name := "fnExactSheetWeight", fn := fun _ => fun
  | [d1, d2] => { results := [.lit (.bool true)], args := [d1, d2] }
  | _ => none }
def fnExactSheetWeightRow : OpenClaim := { program := "ytkaaeifnjnlfkaa", sum := "285b705c527a21cdabe60204cd22228385b76bb155f0b659c86a5558556e7c8c", func := "loop.example/g00944/laws.FnExactSheetWeight", spec := "fnExactSheetWeight", apart := false }
def FnExactSheetWeightSaid : Prop := fnExactSheetWeightRow.holds Try.pinned (OpenSpec.ofChange fnExactSheetWeightSpec)

/-- ITS FALSE NEIGHBOUR: 'it returns false'. Refute it at one input. -/
def fnExactSheetWeightWrong : ChangeSpec := { name := "fnExactSheetWeight", fn := fun _ => fun
  | [d1, d2] => { results := [.lit (.bool false)], args := [d1, d2] }
  | _ => none }
def FnExactSheetWeightWrongFalsely : Prop := fnExactSheetWeightRow.holds Try.pinned (OpenSpec.ofChange fnExactSheetWeightWrong)

/-- 'laws.FnExactStackWeight': WHATEVER THE INPUT: true; the input reads as it did. -/
def fnExactStackWeightSpec : ChangeSpec := { name := "fnExactStackWeight", fn := fun _ => fun
  | [d1, d2, d3] => { results := [.lit (.bool true)], args := [d1, d2, d3] }
  | _ => none }
def fnExactStackWeightRow : OpenClaim := { program := "ytkaaeifnjnlfkaa", sum := "285b705c527a21cdabe60204cd22228385b76bb155f0b659c86a5558556e7c8c", func := "loop.example/g00944/laws.FnExactStackWeight", spec := "fnExactStackWeight", apart := false }
def FnExactStackWeightSaid : Prop := fnExactStackWeightRow.holds Try.pinned (OpenSpec.ofChange fnExactStackWeightSpec)

/-- ITS FALSE NEIGHBOUR: 'it returns false'. Refute it at one input. -/
def fnExactStackWeightWrong : ChangeSpec := { name := "fnExactStackWeight", fn := fun _ => fun
  | [d1, d2, d3] => { results := [.lit (.bool false)], args := [d1, d2, d3] }
  | _ => none }
def FnExactStackWeightWrongFalsely : Prop := fnExactStackWeightRow.holds Try.pinned (OpenSpec.ofChange fnExactStackWeightWrong)

/-- 'laws.FnExactAreHoles': WHATEVER THE INPUT: true; the input reads as it did. -/
def fnExactAreHolesSpec : ChangeSpec := { name := "fnExactAreHoles", fn := fun _ => fun
  | [d] => { results := [.lit (.bool true)], args := [d] }
  | _ => none }
def fnExactAreHolesRow : OpenClaim := { program := "ytkaaeifnjnlfkaa", sum := "285b705c527a21cdabe60204cd22228385b76bb155f0b659c86a5558556e7c8c", func := "loop.example/g00944/laws.FnExactAreHoles", spec := "fnExactAreHoles", unfollowed := true, recurses := true, apart := false }
def FnExactAreHolesSaid : Prop := fnExactAreHolesRow.holds Try.pinned (OpenSpec.ofChange fnExactAreHolesSpec)

/-- ITS FALSE NEIGHBOUR: 'it returns false'. Refute it at one input. -/
def fnExactAreHolesWrong : ChangeSpec := { name := "fnExactAreHoles", fn := fun _ => fun
  | [d] => { results := [.lit (.bool false)], args := [d] }
  | _ => none }
def FnExactAreHolesWrongFalsely : Prop := fnExactAreHolesRow.holds Try.pinned (OpenSpec.ofChange fnExactAreHolesWrong)

/- THE SECOND FORM. 'bulk': how many values and letters a reading holds, each counted each time it is reached (what is shared counts as often as it is met; a slice's spare places count too). A statement '..UptoSaid' is the law's where the arguments, and the package variables that the reading takes, are together of bulk at most 1048576: NARROWER than '..Said'. Prove '..Said' where nothing that the law and all that it calls make is longer than what came in: it says more and counts as full. Else prove '..UptoSaid'. A law counts once. -/
mutual
def uptoBulk {H : Type} : DataW H → Nat
  | .lit (.string bytes) => bytes.length + 1
  | .lit _ => 1
  | .nil => 1
  | .ptr d => uptoBulk d + 1
  | .slice elems spare => uptoBulkAll elems + uptoBulkAll spare + 1
  | .agg parts => uptoBulkAll parts + 1
  | .iface _ d => uptoBulk d + 1
  | .map entries => uptoBulkEntries entries + 1
  | .held _ => 1
def uptoBulkAll {H : Type} : List (DataW H) → Nat
  | [] => 0
  | d :: r => uptoBulk d + uptoBulkAll r
def uptoBulkEntries {H : Type} : List (Lit × DataW H) → Nat
  | [] => 0
  | x :: r => uptoBulkEntry x + uptoBulkEntries r
def uptoBulkEntry {H : Type} : Lit × DataW H → Nat
  | (.string bytes, d) => bytes.length + uptoBulk d + 1
  | (_, d) => uptoBulk d + 1
 end
def uptoSmall : (H : Type) → List (DataW H) → Bool := fun _ ds => decide (uptoBulkAll ds ≤ 1048576)
def OpenSpec.upto (s : _root_.Go.ChangeSpec) : _root_.Go.OpenSpec := { _root_.Go.OpenSpec.ofChange s with cond := some uptoSmall }

/-- 'laws.FnExactIsCode', WHERE WHAT IT READS IS OF BULK AT MOST 1048576: true; the input reads as it did. -/
def fnExactIsCodeUptoRow : OpenClaim := { program := "ytkaaeifnjnlfkaa", sum := "285b705c527a21cdabe60204cd22228385b76bb155f0b659c86a5558556e7c8c", func := "loop.example/g00944/laws.FnExactIsCode", spec := "fnExactIsCode", apart := false, narrowed := true }
def FnExactIsCodeUptoSaid : Prop := fnExactIsCodeUptoRow.holds Try.pinned (OpenSpec.upto fnExactIsCodeSpec)

/-- 'laws.FnExactIsPaper', WHERE WHAT IT READS IS OF BULK AT MOST 1048576: true; the input reads as it did. -/
def fnExactIsPaperUptoRow : OpenClaim := { program := "ytkaaeifnjnlfkaa", sum := "285b705c527a21cdabe60204cd22228385b76bb155f0b659c86a5558556e7c8c", func := "loop.example/g00944/laws.FnExactIsPaper", spec := "fnExactIsPaper", apart := false, narrowed := true }
def FnExactIsPaperUptoSaid : Prop := fnExactIsPaperUptoRow.holds Try.pinned (OpenSpec.upto fnExactIsPaperSpec)

/-- 'laws.FnExactIsBlock', WHERE WHAT IT READS IS OF BULK AT MOST 1048576: true; the input reads as it did. -/
def fnExactIsBlockUptoRow : OpenClaim := { program := "ytkaaeifnjnlfkaa", sum := "285b705c527a21cdabe60204cd22228385b76bb155f0b659c86a5558556e7c8c", func := "loop.example/g00944/laws.FnExactIsBlock", spec := "fnExactIsBlock", apart := false, narrowed := true }
def FnExactIsBlockUptoSaid : Prop := fnExactIsBlockUptoRow.holds Try.pinned (OpenSpec.upto fnExactIsBlockSpec)

/-- 'laws.FnExactIsCaseRule', WHERE WHAT IT READS IS OF BULK AT MOST 1048576: true; the input reads as it did. -/
def fnExactIsCaseRuleUptoRow : OpenClaim := { program := "ytkaaeifnjnlfkaa", sum := "285b705c527a21cdabe60204cd22228385b76bb155f0b659c86a5558556e7c8c", func := "loop.example/g00944/laws.FnExactIsCaseRule", spec := "fnExactIsCaseRule", apart := false, narrowed := true }
def FnExactIsCaseRuleUptoSaid : Prop := fnExactIsCaseRuleUptoRow.holds Try.pinned (OpenSpec.upto fnExactIsCaseRuleSpec)

/-- 'laws.FnExactPartsOfCode', WHERE WHAT IT READS IS OF BULK AT MOST 1048576: true; the input reads as it did. -/
def fnExactPartsOfCodeUptoRow : OpenClaim := { program := "ytkaaeifnjnlfkaa", sum := "285b705c527a21cdabe60204cd22228385b76bb155f0b659c86a5558556e7c8c", func := "loop.example/g00944/laws.FnExactPartsOfCode", spec := "fnExactPartsOfCode", apart := false, narrowed := true }
def FnExactPartsOfCodeUptoSaid : Prop := fnExactPartsOfCodeUptoRow.holds Try.pinned (OpenSpec.upto fnExactPartsOfCodeSpec)

/-- 'laws.FnExactPaperThickness', WHERE WHAT IT READS IS OF BULK AT MOST 1048576: true; the input reads as it did. -/
def fnExactPaperThicknessUptoRow : OpenClaim := { program := "ytkaaeifnjnlfkaa", sum := "285b705c527a21cdabe60204cd22228385b76bb155f0b659c86a5558556e7c8c", func := "loop.example/g00944/laws.FnExactPaperThickness", spec := "fnExactPaperThickness", apart := false, narrowed := true }
def FnExactPaperThicknessUptoSaid : Prop := fnExactPaperThicknessUptoRow.holds Try.pinned (OpenSpec.upto fnExactPaperThicknessSpec)

/-- 'laws.FnExactGlueArea', WHERE WHAT IT READS IS OF BULK AT MOST 1048576: true; the input reads as it did. -/
def fnExactGlueAreaUptoRow : OpenClaim := { program := "ytkaaeifnjnlfkaa", sum := "285b705c527a21cdabe60204cd22228385b76bb155f0b659c86a5558556e7c8c", func := "loop.example/g00944/laws.FnExactGlueArea", spec := "fnExactGlueArea", apart := false, narrowed := true }
def FnExactGlueAreaUptoSaid : Prop := fnExactGlueAreaUptoRow.holds Try.pinned (OpenSpec.upto fnExactGlueAreaSpec)

/-- 'laws.FnExactCodeOf', WHERE WHAT IT READS IS OF BULK AT MOST 1048576: true; the input reads as it did. -/
def fnExactCodeOfUptoRow : OpenClaim := { program := "ytkaaeifnjnlfkaa", sum := "285b705c527a21cdabe60204cd22228385b76bb155f0b659c86a5558556e7c8c", func := "loop.example/g00944/laws.FnExactCodeOf", spec := "fnExactCodeOf", apart := false, narrowed := true }
def FnExactCodeOfUptoSaid : Prop := fnExactCodeOfUptoRow.holds Try.pinned (OpenSpec.upto fnExactCodeOfSpec)

/-- 'laws.FnExactSheetsInHeight', WHERE WHAT IT READS IS OF BULK AT MOST 1048576: true; the input reads as it did. -/
def fnExactSheetsInHeightUptoRow : OpenClaim := { program := "ytkaaeifnjnlfkaa", sum := "285b705c527a21cdabe60204cd22228385b76bb155f0b659c86a5558556e7c8c", func := "loop.example/g00944/laws.FnExactSheetsInHeight", spec := "fnExactSheetsInHeight", apart := false, narrowed := true }
def FnExactSheetsInHeightUptoSaid : Prop := fnExactSheetsInHeightUptoRow.holds Try.pinned (OpenSpec.upto fnExactSheetsInHeightSpec)

/-- 'laws.FnExactSheetWeight', WHERE WHAT IT READS IS OF BULK AT MOST 1048576: true; the input reads as it did. -/
def fnExactSheetWeightUptoRow : OpenClaim := { program := "ytkaaeifnjnlfkaa", sum := "285b705c527a21cdabe60204cd22228385b76bb155f0b659c86a5558556e7c8c", func := "loop.example/g00944/laws.FnExactSheetWeight", spec := "fnExactSheetWeight", apart := false, narrowed := true }
def FnExactSheetWeightUptoSaid : Prop := fnExactSheetWeightUptoRow.holds Try.pinned (OpenSpec.upto fnExactSheetWeightSpec)

/-- 'laws.FnExactStackWeight', WHERE WHAT IT READS IS OF BULK AT MOST 1048576: true; the input reads as it did. -/
def fnExactStackWeightUptoRow : OpenClaim := { program := "ytkaaeifnjnlfkaa", sum := "285b705c527a21cdabe60204cd22228385b76bb155f0b659c86a5558556e7c8c", func := "loop.example/g00944/laws.FnExactStackWeight", spec := "fnExactStackWeight", apart := false, narrowed := true }
def FnExactStackWeightUptoSaid : Prop := fnExactStackWeightUptoRow.holds Try.pinned (OpenSpec.upto fnExactStackWeightSpec)

/-- 'laws.FnExactAreHoles', WHERE WHAT IT READS IS OF BULK AT MOST 1048576: true; the input reads as it did. -/
def fnExactAreHolesUptoRow : OpenClaim := { program := "ytkaaeifnjnlfkaa", sum := "285b705c527a21cdabe60204cd22228385b76bb155f0b659c86a5558556e7c8c", func := "loop.example/g00944/laws.FnExactAreHoles", spec := "fnExactAreHoles", unfollowed := true, recurses := true, apart := false, narrowed := true }
def FnExactAreHolesUptoSaid : Prop := fnExactAreHolesUptoRow.holds Try.pinned (OpenSpec.upto fnExactAreHolesSpec)

end Rows
end Go.Proofs.Ytkaaeifnjnlfkaa
