/-
  No cell of these rows narrows 'for every input' (looked for: loops, veiled, ifaces, maps, wideKeys, modest, calm, conditions, laid).
  DERIVED. THE GIVEN ROWS OF THIS SEAT. 4 by the template 'for every input the law returns true; each argument reads behind the call as it read before'; 0 by the template 'total and deterministic' (their statements: YtnnglnphkbpemaaTotals.lean).
  GIVEN WITH THE SEED: the statements are not yours to turn. If you find one false, say at which input.
  Laid BY PROGRAM, IN A SANDBOX (cutbox-rows.mjs): the forced cells as the released guide's own fill.sh prints them over the translation c4195dc07172e036… (all of the seat's roots in one cut). By AI agents, Wed Nov 11 2026. No macro, syntax, notation, axiom, sorry.
-/
import Derived.Test.YtnnglnphkbpemaaChecked
import GoSem.Claim
import GoSem.ClaimJoined
import GoSem.ClaimMapViews
import Derived.JoinedTies
import Derived.KernelRfl
namespace Go.Proofs.Ytnnglnphkbpemaa
/- THE CELL 'sum', in the pinned program and in every row, IS THE sha256 OF THE DUMP (.gsa) THAT YtnnglnphkbpemaaProg.lean LOADS. Nothing in Lean hashes anything: it is a label: what it is worth is what the hold of that sum in a sandbox is worth. -/
noncomputable def Try.pinned : Pinned := { name := "ytnnglnphkbpemaa", sum := "c4195dc07172e0366a1d6770dfef9c17ac3f85f5bcca16beb923e8bdafe19305", checked := Try.checked }
namespace Rows
def none {H : Type} : Left H := { results := [], args := [] }

/-- 'laws.FnExactStopAfter': WHATEVER THE INPUT: true; the input reads as it did. -/
def fnExactStopAfterSpec : ChangeSpec := { name := "fnExactStopAfter", fn := fun _ => fun
  | [d1, d2, d3] => { results := [.lit (.bool true)], args := [d1, d2, d3] }
  | _ => none }
def fnExactStopAfterRow : OpenClaim := { program := "ytnnglnphkbpemaa", sum := "c4195dc07172e0366a1d6770dfef9c17ac3f85f5bcca16beb923e8bdafe19305", func := "loop.example/g00944/laws.FnExactStopAfter", spec := "fnExactStopAfter", unfollowed := true, recurses := true, apart := false }
def FnExactStopAfterSaid : Prop := fnExactStopAfterRow.holds Try.pinned (OpenSpec.ofChange fnExactStopAfterSpec)

/-- ITS FALSE NEIGHBOUR: 'it returns false'. Refute it at one input. -/
def fnExactStopAfterWrong : ChangeSpec := { name := "fnExactStopAfter", fn := fun _ => fun
  | [d1, d2, d3] => { results := [.lit (.bool false)], args := [d1, d2, d3] }
  | _ => none }
def FnExactStopAfterWrongFalsely : Prop := fnExactStopAfterRow.holds Try.pinned (OpenSpec.ofChange fnExactStopAfterWrong)

/-- 'laws.FnExactBestCode': WHATEVER THE INPUT: true; the input reads as it did. -/
def fnExactBestCodeSpec : ChangeSpec := { name := "fnExactBestCode", fn := fun _ => fun
  | [d] => { results := [.lit (.bool true)], args := [d] }
  | _ => none }
def fnExactBestCodeRow : OpenClaim := { program := "ytnnglnphkbpemaa", sum := "c4195dc07172e0366a1d6770dfef9c17ac3f85f5bcca16beb923e8bdafe19305", func := "loop.example/g00944/laws.FnExactBestCode", spec := "fnExactBestCode", unfollowed := true, recurses := true, apart := false }
def FnExactBestCodeSaid : Prop := fnExactBestCodeRow.holds Try.pinned (OpenSpec.ofChange fnExactBestCodeSpec)

/-- ITS FALSE NEIGHBOUR: 'it returns false'. Refute it at one input. -/
def fnExactBestCodeWrong : ChangeSpec := { name := "fnExactBestCode", fn := fun _ => fun
  | [d] => { results := [.lit (.bool false)], args := [d] }
  | _ => none }
def FnExactBestCodeWrongFalsely : Prop := fnExactBestCodeRow.holds Try.pinned (OpenSpec.ofChange fnExactBestCodeWrong)

/-- 'laws.FnExactNearCodes': WHATEVER THE INPUT: true; the input reads as it did. -/
def fnExactNearCodesSpec : ChangeSpec := { name := "fnExactNearCodes", fn := fun _ => fun
  | [d] => { results := [.lit (.bool true)], args := [d] }
  | _ => none }
def fnExactNearCodesRow : OpenClaim := { program := "ytnnglnphkbpemaa", sum := "c4195dc07172e0366a1d6770dfef9c17ac3f85f5bcca16beb923e8bdafe19305", func := "loop.example/g00944/laws.FnExactNearCodes", spec := "fnExactNearCodes", recurses := true, apart := false }
def FnExactNearCodesSaid : Prop := fnExactNearCodesRow.holds Try.pinned (OpenSpec.ofChange fnExactNearCodesSpec)

/-- ITS FALSE NEIGHBOUR: 'it returns false'. Refute it at one input. -/
def fnExactNearCodesWrong : ChangeSpec := { name := "fnExactNearCodes", fn := fun _ => fun
  | [d] => { results := [.lit (.bool false)], args := [d] }
  | _ => none }
def FnExactNearCodesWrongFalsely : Prop := fnExactNearCodesRow.holds Try.pinned (OpenSpec.ofChange fnExactNearCodesWrong)

/-- 'laws.FnReads': WHATEVER THE INPUT: true; the input reads as it did. -/
def fnReadsSpec : ChangeSpec := { name := "fnReads", fn := fun _ => fun
  | [d] => { results := [.lit (.bool true)], args := [d] }
  | _ => none }
def fnReadsRow : OpenClaim := { program := "ytnnglnphkbpemaa", sum := "c4195dc07172e0366a1d6770dfef9c17ac3f85f5bcca16beb923e8bdafe19305", func := "loop.example/g00944/laws.FnReads", spec := "fnReads", unfollowed := true, recurses := true, apart := false }
def FnReadsSaid : Prop := fnReadsRow.holds Try.pinned (OpenSpec.ofChange fnReadsSpec)

/-- ITS FALSE NEIGHBOUR: 'it returns false'. Refute it at one input. -/
def fnReadsWrong : ChangeSpec := { name := "fnReads", fn := fun _ => fun
  | [d] => { results := [.lit (.bool false)], args := [d] }
  | _ => none }
def FnReadsWrongFalsely : Prop := fnReadsRow.holds Try.pinned (OpenSpec.ofChange fnReadsWrong)

/- THE SECOND FORM. 'bulk': how many values and letters a reading holds, each counted each time it is reached (what is shared counts as often as it is met; a slice's spare places count too). A statement '..UptoSaid' is the law's where the arguments, and the package variables that the reading takes, are together of bulk at most 1048576: NARROWER than '..Said'. Prove '..Said' where nothing that the law and all that it calls make is longer than what came in: it says more and counts as full. Else prove '..UptoSaid'. A law counts once. -/
mutual
def uptoBulk {H : Type} : DataW H → Nat
  | .lit (.string bytes) => bytes.length + 1
  | .lit _ => 1
  | .nil => 1
  | .ptr d => uptoBulk d + 1
  | .slice elems spare => uptoBulkAll elems + uptoBulkAll spare + 1
  | .agg parts => uptoBulkAll parts + 1
  | .iface _ d => uptoBulk d + 1
  | .map entries => uptoBulkEntries entries + 1
  | .held _ => 1
def uptoBulkAll {H : Type} : List (DataW H) → Nat
  | [] => 0
  | d :: r => uptoBulk d + uptoBulkAll r
def uptoBulkEntries {H : Type} : List (Lit × DataW H) → Nat
  | [] => 0
  | x :: r => uptoBulkEntry x + uptoBulkEntries r
def uptoBulkEntry {H : Type} : Lit × DataW H → Nat
  | (.string bytes, d) => bytes.length + uptoBulk d + 1
  | (_, d) => uptoBulk d + 1
 end
def uptoSmall : (H : Type) → List (DataW H) → Bool := fun _ ds => decide (uptoBulkAll ds ≤ 1048576)
def OpenSpec.upto (s : _root_.Go.ChangeSpec) : _root_.Go.OpenSpec := { _root_.Go.OpenSpec.ofChange s with cond := some uptoSmall }

/-- 'laws.FnExactStopAfter', WHERE WHAT IT READS IS OF BULK AT MOST 1048576: true; the input reads as it did. -/
def fnExactStopAfterUptoRow : OpenClaim := { program := "ytnnglnphkbpemaa", sum := "c4195dc07172e0366a1d6770dfef9c17ac3f85f5bcca16beb923e8bdafe19305", func := "loop.example/g00944/laws.FnExactStopAfter", spec := "fnExactStopAfter", unfollowed := true, recurses := true, apart := false, narrowed := true }
def FnExactStopAfterUptoSaid : Prop := fnExactStopAfterUptoRow.holds Try.pinned (OpenSpec.upto fnExactStopAfterSpec)

/-- 'laws.FnExactBestCode', WHERE WHAT IT READS IS OF BULK AT MOST 1048576: true; the input reads as it did. -/
def fnExactBestCodeUptoRow : OpenClaim := { program := "ytnnglnphkbpemaa", sum := "c4195dc07172e0366a1d6770dfef9c17ac3f85f5bcca16beb923e8bdafe19305", func := "loop.example/g00944/laws.FnExactBestCode", spec := "fnExactBestCode", unfollowed := true, recurses := true, apart := false, narrowed := true }
def FnExactBestCodeUptoSaid : Prop := fnExactBestCodeUptoRow.holds Try.pinned (OpenSpec.upto fnExactBestCodeSpec)

/-- 'laws.FnExactNearCodes', WHERE WHAT IT READS IS OF BULK AT MOST 1048576: true; the input reads as it did. -/
def fnExactNearCodesUptoRow : OpenClaim := { program := "ytnnglnphkbpemaa", sum := "c4195dc07172e0366a1d6770dfef9c17ac3f85f5bcca16beb923e8bdafe19305", func := "loop.example/g00944/laws.FnExactNearCodes", spec := "fnExactNearCodes", recurses := true, apart := false, narrowed := true }
def FnExactNearCodesUptoSaid : Prop := fnExactNearCodesUptoRow.holds Try.pinned (OpenSpec.upto fnExactNearCodesSpec)

/-- 'laws.FnReads', WHERE WHAT IT READS IS OF BULK AT MOST 1048576: true; the input reads as it did. -/
def fnReadsUptoRow : OpenClaim := { program := "ytnnglnphkbpemaa", sum := "c4195dc07172e0366a1d6770dfef9c17ac3f85f5bcca16beb923e8bdafe19305", func := "loop.example/g00944/laws.FnReads", spec := "fnReads", unfollowed := true, recurses := true, apart := false, narrowed := true }
def FnReadsUptoSaid : Prop := fnReadsUptoRow.holds Try.pinned (OpenSpec.upto fnReadsSpec)

end Rows
end Go.Proofs.Ytnnglnphkbpemaa
