/-
  No cell of these rows narrows 'for every input' (looked for: loops, veiled, ifaces, maps, wideKeys, modest, calm, conditions, laid).
  DERIVED. THE GIVEN ROWS OF THIS SEAT. 7 by the template 'for every input the law returns true; each argument reads behind the call as it read before'; 0 by the template 'total and deterministic' (their statements: YtleeadjdepikeaaTotals.lean).
  GIVEN WITH THE SEED: the statements are not yours to turn. If you find one false, say at which input.
  Laid BY PROGRAM, IN A SANDBOX (cutbox-rows.mjs): the forced cells as the released guide's own fill.sh prints them over the translation 95ec45c3ff721b31… (all of the seat's roots in one cut). By AI agents, Wed Nov 11 2026. No macro, syntax, notation, axiom, sorry.
-/
import Derived.Test.YtleeadjdepikeaaChecked
import GoSem.Claim
import GoSem.ClaimJoined
import GoSem.ClaimMapViews
import Derived.JoinedTies
import Derived.KernelRfl
namespace Go.Proofs.Ytleeadjdepikeaa
/- THE CELL 'sum', in the pinned program and in every row, IS THE sha256 OF THE DUMP (.gsa) THAT YtleeadjdepikeaaProg.lean LOADS. Nothing in Lean hashes anything: it is a label: what it is worth is what the hold of that sum in a sandbox is worth. -/
noncomputable def Try.pinned : Pinned := { name := "ytleeadjdepikeaa", sum := "95ec45c3ff721b317b817b9e632c18d7e1a77b3b645c9f9f113584d0e98f80e8", checked := Try.checked }
namespace Rows
def none {H : Type} : Left H := { results := [], args := [] }

/-- 'laws.FnExactCaseOf': WHATEVER THE INPUT: true; the input reads as it did. -/
def fnExactCaseOfSpec : ChangeSpec := { name := "fnExactCaseOf", fn := fun _ => fun
  | [d1, d2] => { results := [.lit (.bool true)], args := [d1, d2] }
  | _ => none }
def fnExactCaseOfRow : OpenClaim := { program := "ytleeadjdepikeaa", sum := "95ec45c3ff721b317b817b9e632c18d7e1a77b3b645c9f9f113584d0e98f80e8", func := "loop.example/g00944/laws.FnExactCaseOf", spec := "fnExactCaseOf", apart := false }
def FnExactCaseOfSaid : Prop := fnExactCaseOfRow.holds Try.pinned (OpenSpec.ofChange fnExactCaseOfSpec)

/-- ITS FALSE NEIGHBOUR: 'it returns false'. Refute it at one input. -/
def fnExactCaseOfWrong : ChangeSpec := { name := "fnExactCaseOf", fn := fun _ => fun
  | [d1, d2] => { results := [.lit (.bool false)], args := [d1, d2] }
  | _ => none }
def FnExactCaseOfWrongFalsely : Prop := fnExactCaseOfRow.holds Try.pinned (OpenSpec.ofChange fnExactCaseOfWrong)

/-- 'laws.FnExactBlockOf': WHATEVER THE INPUT: true; the input reads as it did. -/
def fnExactBlockOfSpec : ChangeSpec := { name := "fnExactBlockOf", fn := fun _ => fun
  | [d1, d2, d3] => { results := [.lit (.bool true)], args := [d1, d2, d3] }
  | _ => none }
def fnExactBlockOfRow : OpenClaim := { program := "ytleeadjdepikeaa", sum := "95ec45c3ff721b317b817b9e632c18d7e1a77b3b645c9f9f113584d0e98f80e8", func := "loop.example/g00944/laws.FnExactBlockOf", spec := "fnExactBlockOf", apart := false }
def FnExactBlockOfSaid : Prop := fnExactBlockOfRow.holds Try.pinned (OpenSpec.ofChange fnExactBlockOfSpec)

/-- ITS FALSE NEIGHBOUR: 'it returns false'. Refute it at one input. -/
def fnExactBlockOfWrong : ChangeSpec := { name := "fnExactBlockOf", fn := fun _ => fun
  | [d1, d2, d3] => { results := [.lit (.bool false)], args := [d1, d2, d3] }
  | _ => none }
def FnExactBlockOfWrongFalsely : Prop := fnExactBlockOfRow.holds Try.pinned (OpenSpec.ofChange fnExactBlockOfWrong)

/-- 'laws.FnExactBlockFor': WHATEVER THE INPUT: true; the input reads as it did. -/
def fnExactBlockForSpec : ChangeSpec := { name := "fnExactBlockFor", fn := fun _ => fun
  | [d1, d2] => { results := [.lit (.bool true)], args := [d1, d2] }
  | _ => none }
def fnExactBlockForRow : OpenClaim := { program := "ytleeadjdepikeaa", sum := "95ec45c3ff721b317b817b9e632c18d7e1a77b3b645c9f9f113584d0e98f80e8", func := "loop.example/g00944/laws.FnExactBlockFor", spec := "fnExactBlockFor", apart := false }
def FnExactBlockForSaid : Prop := fnExactBlockForRow.holds Try.pinned (OpenSpec.ofChange fnExactBlockForSpec)

/-- ITS FALSE NEIGHBOUR: 'it returns false'. Refute it at one input. -/
def fnExactBlockForWrong : ChangeSpec := { name := "fnExactBlockFor", fn := fun _ => fun
  | [d1, d2] => { results := [.lit (.bool false)], args := [d1, d2] }
  | _ => none }
def FnExactBlockForWrongFalsely : Prop := fnExactBlockForRow.holds Try.pinned (OpenSpec.ofChange fnExactBlockForWrong)

/-- 'laws.FnExactCasesPerCloth': WHATEVER THE INPUT: true; the input reads as it did. -/
def fnExactCasesPerClothSpec : ChangeSpec := { name := "fnExactCasesPerCloth", fn := fun _ => fun
  | [d1, d2, d3] => { results := [.lit (.bool true)], args := [d1, d2, d3] }
  | _ => none }
def fnExactCasesPerClothRow : OpenClaim := { program := "ytleeadjdepikeaa", sum := "95ec45c3ff721b317b817b9e632c18d7e1a77b3b645c9f9f113584d0e98f80e8", func := "loop.example/g00944/laws.FnExactCasesPerCloth", spec := "fnExactCasesPerCloth", apart := false }
def FnExactCasesPerClothSaid : Prop := fnExactCasesPerClothRow.holds Try.pinned (OpenSpec.ofChange fnExactCasesPerClothSpec)

/-- ITS FALSE NEIGHBOUR: 'it returns false'. Refute it at one input. -/
def fnExactCasesPerClothWrong : ChangeSpec := { name := "fnExactCasesPerCloth", fn := fun _ => fun
  | [d1, d2, d3] => { results := [.lit (.bool false)], args := [d1, d2, d3] }
  | _ => none }
def FnExactCasesPerClothWrongFalsely : Prop := fnExactCasesPerClothRow.holds Try.pinned (OpenSpec.ofChange fnExactCasesPerClothWrong)

/-- 'laws.FnExactBoardsPerSheet': WHATEVER THE INPUT: true; the input reads as it did. -/
def fnExactBoardsPerSheetSpec : ChangeSpec := { name := "fnExactBoardsPerSheet", fn := fun _ => fun
  | [d1, d2, d3] => { results := [.lit (.bool true)], args := [d1, d2, d3] }
  | _ => none }
def fnExactBoardsPerSheetRow : OpenClaim := { program := "ytleeadjdepikeaa", sum := "95ec45c3ff721b317b817b9e632c18d7e1a77b3b645c9f9f113584d0e98f80e8", func := "loop.example/g00944/laws.FnExactBoardsPerSheet", spec := "fnExactBoardsPerSheet", apart := false }
def FnExactBoardsPerSheetSaid : Prop := fnExactBoardsPerSheetRow.holds Try.pinned (OpenSpec.ofChange fnExactBoardsPerSheetSpec)

/-- ITS FALSE NEIGHBOUR: 'it returns false'. Refute it at one input. -/
def fnExactBoardsPerSheetWrong : ChangeSpec := { name := "fnExactBoardsPerSheet", fn := fun _ => fun
  | [d1, d2, d3] => { results := [.lit (.bool false)], args := [d1, d2, d3] }
  | _ => none }
def FnExactBoardsPerSheetWrongFalsely : Prop := fnExactBoardsPerSheetRow.holds Try.pinned (OpenSpec.ofChange fnExactBoardsPerSheetWrong)

/-- 'laws.FnCases': WHATEVER THE INPUT: true; the input reads as it did. -/
def fnCasesSpec : ChangeSpec := { name := "fnCases", fn := fun _ => fun
  | [d] => { results := [.lit (.bool true)], args := [d] }
  | _ => none }
def fnCasesRow : OpenClaim := { program := "ytleeadjdepikeaa", sum := "95ec45c3ff721b317b817b9e632c18d7e1a77b3b645c9f9f113584d0e98f80e8", func := "loop.example/g00944/laws.FnCases", spec := "fnCases", apart := false }
def FnCasesSaid : Prop := fnCasesRow.holds Try.pinned (OpenSpec.ofChange fnCasesSpec)

/-- ITS FALSE NEIGHBOUR: 'it returns false'. Refute it at one input. -/
def fnCasesWrong : ChangeSpec := { name := "fnCases", fn := fun _ => fun
  | [d] => { results := [.lit (.bool false)], args := [d] }
  | _ => none }
def FnCasesWrongFalsely : Prop := fnCasesRow.holds Try.pinned (OpenSpec.ofChange fnCasesWrong)

/-- 'laws.FnBoards': WHATEVER THE INPUT: true; the input reads as it did. -/
def fnBoardsSpec : ChangeSpec := { name := "fnBoards", fn := fun _ => fun
  | [d] => { results := [.lit (.bool true)], args := [d] }
  | _ => none }
def fnBoardsRow : OpenClaim := { program := "ytleeadjdepikeaa", sum := "95ec45c3ff721b317b817b9e632c18d7e1a77b3b645c9f9f113584d0e98f80e8", func := "loop.example/g00944/laws.FnBoards", spec := "fnBoards", apart := false }
def FnBoardsSaid : Prop := fnBoardsRow.holds Try.pinned (OpenSpec.ofChange fnBoardsSpec)

/-- ITS FALSE NEIGHBOUR: 'it returns false'. Refute it at one input. -/
def fnBoardsWrong : ChangeSpec := { name := "fnBoards", fn := fun _ => fun
  | [d] => { results := [.lit (.bool false)], args := [d] }
  | _ => none }
def FnBoardsWrongFalsely : Prop := fnBoardsRow.holds Try.pinned (OpenSpec.ofChange fnBoardsWrong)

/- THE SECOND FORM. 'bulk': how many values and letters a reading holds, each counted each time it is reached (what is shared counts as often as it is met; a slice's spare places count too). A statement '..UptoSaid' is the law's where the arguments, and the package variables that the reading takes, are together of bulk at most 1048576: NARROWER than '..Said'. Prove '..Said' where nothing that the law and all that it calls make is longer than what came in: it says more and counts as full. Else prove '..UptoSaid'. A law counts once. -/
mutual
def uptoBulk {H : Type} : DataW H → Nat
  | .lit (.string bytes) => bytes.length + 1
  | .lit _ => 1
  | .nil => 1
  | .ptr d => uptoBulk d + 1
  | .slice elems spare => uptoBulkAll elems + uptoBulkAll spare + 1
  | .agg parts => uptoBulkAll parts + 1
  | .iface _ d => uptoBulk d + 1
  | .map entries => uptoBulkEntries entries + 1
  | .held _ => 1
def uptoBulkAll {H : Type} : List (DataW H) → Nat
  | [] => 0
  | d :: r => uptoBulk d + uptoBulkAll r
def uptoBulkEntries {H : Type} : List (Lit × DataW H) → Nat
  | [] => 0
  | x :: r => uptoBulkEntry x + uptoBulkEntries r
def uptoBulkEntry {H : Type} : Lit × DataW H → Nat
  | (.string bytes, d) => bytes.length + uptoBulk d + 1
  | (_, d) => uptoBulk d + 1
 end
def uptoSmall : (H : Type) → List (DataW H) → Bool := fun _ ds => decide (uptoBulkAll ds ≤ 1048576)
def OpenSpec.upto (s : _root_.Go.ChangeSpec) : _root_.Go.OpenSpec := { _root_.Go.OpenSpec.ofChange s with cond := some uptoSmall }

/-- 'laws.FnExactCaseOf', WHERE WHAT IT READS IS OF BULK AT MOST 1048576: true; the input reads as it did. -/
def fnExactCaseOfUptoRow : OpenClaim := { program := "ytleeadjdepikeaa", sum := "95ec45c3ff721b317b817b9e632c18d7e1a77b3b645c9f9f113584d0e98f80e8", func := "loop.example/g00944/laws.FnExactCaseOf", spec := "fnExactCaseOf", apart := false, narrowed := true }
def FnExactCaseOfUptoSaid : Prop := fnExactCaseOfUptoRow.holds Try.pinned (OpenSpec.upto fnExactCaseOfSpec)

/-- 'laws.FnExactBlockOf', WHERE WHAT IT READS IS OF BULK AT MOST 1048576: true; the input reads as it did. -/
def fnExactBlockOfUptoRow : OpenClaim := { program := "ytleeadjdepikeaa", sum := "95ec45c3ff721b317b817b9e632c18d7e1a77b3b645c9f9f113584d0e98f80e8", func := "loop.example/g00944/laws.FnExactBlockOf", spec := "fnExactBlockOf", apart := false, narrowed := true }
def FnExactBlockOfUptoSaid : Prop := fnExactBlockOfUptoRow.holds Try.pinned (OpenSpec.upto fnExactBlockOfSpec)

/-- 'laws.FnExactBlockFor', WHERE WHAT IT READS IS OF BULK AT MOST 1048576: true; the input reads as it did. -/
def fnExactBlockForUptoRow : OpenClaim := { program := "ytleeadjdepikeaa", sum := "95ec45c3ff721b317b817b9e632c18d7e1a77b3b645c9f9f113584d0e98f80e8", func := "loop.example/g00944/laws.FnExactBlockFor", spec := "fnExactBlockFor", apart := false, narrowed := true }
def FnExactBlockForUptoSaid : Prop := fnExactBlockForUptoRow.holds Try.pinned (OpenSpec.upto fnExactBlockForSpec)

/-- 'laws.FnExactCasesPerCloth', WHERE WHAT IT READS IS OF BULK AT MOST 1048576: true; the input reads as it did. -/
def fnExactCasesPerClothUptoRow : OpenClaim := { program := "ytleeadjdepikeaa", sum := "95ec45c3ff721b317b817b9e632c18d7e1a77b3b645c9f9f113584d0e98f80e8", func := "loop.example/g00944/laws.FnExactCasesPerCloth", spec := "fnExactCasesPerCloth", apart := false, narrowed := true }
def FnExactCasesPerClothUptoSaid : Prop := fnExactCasesPerClothUptoRow.holds Try.pinned (OpenSpec.upto fnExactCasesPerClothSpec)

/-- 'laws.FnExactBoardsPerSheet', WHERE WHAT IT READS IS OF BULK AT MOST 1048576: true; the input reads as it did. -/
def fnExactBoardsPerSheetUptoRow : OpenClaim := { program := "ytleeadjdepikeaa", sum := "95ec45c3ff721b317b817b9e632c18d7e1a77b3b645c9f9f113584d0e98f80e8", func := "loop.example/g00944/laws.FnExactBoardsPerSheet", spec := "fnExactBoardsPerSheet", apart := false, narrowed := true }
def FnExactBoardsPerSheetUptoSaid : Prop := fnExactBoardsPerSheetUptoRow.holds Try.pinned (OpenSpec.upto fnExactBoardsPerSheetSpec)

/-- 'laws.FnCases', WHERE WHAT IT READS IS OF BULK AT MOST 1048576: true; the input reads as it did. -/
def fnCasesUptoRow : OpenClaim := { program := "ytleeadjdepikeaa", sum := "95ec45c3ff721b317b817b9e632c18d7e1a77b3b645c9f9f113584d0e98f80e8", func := "loop.example/g00944/laws.FnCases", spec := "fnCases", apart := false, narrowed := true }
def FnCasesUptoSaid : Prop := fnCasesUptoRow.holds Try.pinned (OpenSpec.upto fnCasesSpec)

/-- 'laws.FnBoards', WHERE WHAT IT READS IS OF BULK AT MOST 1048576: true; the input reads as it did. -/
def fnBoardsUptoRow : OpenClaim := { program := "ytleeadjdepikeaa", sum := "95ec45c3ff721b317b817b9e632c18d7e1a77b3b645c9f9f113584d0e98f80e8", func := "loop.example/g00944/laws.FnBoards", spec := "fnBoards", apart := false, narrowed := true }
def FnBoardsUptoSaid : Prop := fnBoardsUptoRow.holds Try.pinned (OpenSpec.upto fnBoardsSpec)

end Rows
end Go.Proofs.Ytleeadjdepikeaa
