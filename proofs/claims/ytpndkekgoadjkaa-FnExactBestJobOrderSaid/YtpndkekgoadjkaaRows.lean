/-
  No cell of these rows narrows 'for every input' (looked for: loops, veiled, ifaces, maps, wideKeys, modest, calm, conditions, laid).
  DERIVED. THE GIVEN ROWS OF THIS SEAT. 6 by the template 'for every input the law returns true; each argument reads behind the call as it read before'; 0 by the template 'total and deterministic' (their statements: YtpndkekgoadjkaaTotals.lean).
  GIVEN WITH THE SEED: the statements are not yours to turn. If you find one false, say at which input.
  Laid BY PROGRAM, IN A SANDBOX (cutbox-rows.mjs): the forced cells as the released guide's own fill.sh prints them over the translation ad43d88b219ca390… (all of the seat's roots in one cut). By AI agents, Wed Nov 11 2026. No macro, syntax, notation, axiom, sorry.
-/
import Derived.Test.YtpndkekgoadjkaaChecked
import GoSem.Claim
import GoSem.ClaimJoined
import GoSem.ClaimMapViews
import Derived.JoinedTies
import Derived.KernelRfl
namespace Go.Proofs.Ytpndkekgoadjkaa
/- THE CELL 'sum', in the pinned program and in every row, IS THE sha256 OF THE DUMP (.gsa) THAT YtpndkekgoadjkaaProg.lean LOADS. Nothing in Lean hashes anything: it is a label: what it is worth is what the hold of that sum in a sandbox is worth. -/
noncomputable def Try.pinned : Pinned := { name := "ytpndkekgoadjkaa", sum := "ad43d88b219ca39095e888783326221880fbadf2cd3241d76f1f4ee651caa5da", checked := Try.checked }
namespace Rows
def none {H : Type} : Left H := { results := [], args := [] }

/-- 'laws.FnExactLayersAfter': WHATEVER THE INPUT: true; the input reads as it did. -/
def fnExactLayersAfterSpec : ChangeSpec := { name := "fnExactLayersAfter", fn := fun _ => fun
  | [d1, d2] => { results := [.lit (.bool true)], args := [d1, d2] }
  | _ => none }
def fnExactLayersAfterRow : OpenClaim := { program := "ytpndkekgoadjkaa", sum := "ad43d88b219ca39095e888783326221880fbadf2cd3241d76f1f4ee651caa5da", func := "loop.example/g00944/laws.FnExactLayersAfter", spec := "fnExactLayersAfter", unfollowed := true, recurses := true, apart := false }
def FnExactLayersAfterSaid : Prop := fnExactLayersAfterRow.holds Try.pinned (OpenSpec.ofChange fnExactLayersAfterSpec)

/-- ITS FALSE NEIGHBOUR: 'it returns false'. Refute it at one input. -/
def fnExactLayersAfterWrong : ChangeSpec := { name := "fnExactLayersAfter", fn := fun _ => fun
  | [d1, d2] => { results := [.lit (.bool false)], args := [d1, d2] }
  | _ => none }
def FnExactLayersAfterWrongFalsely : Prop := fnExactLayersAfterRow.holds Try.pinned (OpenSpec.ofChange fnExactLayersAfterWrong)

/-- 'laws.FnExactCountChanges': WHATEVER THE INPUT: true; the input reads as it did. -/
def fnExactCountChangesSpec : ChangeSpec := { name := "fnExactCountChanges", fn := fun _ => fun
  | [d1, d2] => { results := [.lit (.bool true)], args := [d1, d2] }
  | _ => none }
def fnExactCountChangesRow : OpenClaim := { program := "ytpndkekgoadjkaa", sum := "ad43d88b219ca39095e888783326221880fbadf2cd3241d76f1f4ee651caa5da", func := "loop.example/g00944/laws.FnExactCountChanges", spec := "fnExactCountChanges", unfollowed := true, recurses := true, apart := false }
def FnExactCountChangesSaid : Prop := fnExactCountChangesRow.holds Try.pinned (OpenSpec.ofChange fnExactCountChangesSpec)

/-- ITS FALSE NEIGHBOUR: 'it returns false'. Refute it at one input. -/
def fnExactCountChangesWrong : ChangeSpec := { name := "fnExactCountChanges", fn := fun _ => fun
  | [d1, d2] => { results := [.lit (.bool false)], args := [d1, d2] }
  | _ => none }
def FnExactCountChangesWrongFalsely : Prop := fnExactCountChangesRow.holds Try.pinned (OpenSpec.ofChange fnExactCountChangesWrong)

/-- 'laws.FnExactSchemeOfSetup': WHATEVER THE INPUT: true; the input reads as it did. -/
def fnExactSchemeOfSetupSpec : ChangeSpec := { name := "fnExactSchemeOfSetup", fn := fun _ => fun
  | [d] => { results := [.lit (.bool true)], args := [d] }
  | _ => none }
def fnExactSchemeOfSetupRow : OpenClaim := { program := "ytpndkekgoadjkaa", sum := "ad43d88b219ca39095e888783326221880fbadf2cd3241d76f1f4ee651caa5da", func := "loop.example/g00944/laws.FnExactSchemeOfSetup", spec := "fnExactSchemeOfSetup", unfollowed := true, recurses := true, apart := false }
def FnExactSchemeOfSetupSaid : Prop := fnExactSchemeOfSetupRow.holds Try.pinned (OpenSpec.ofChange fnExactSchemeOfSetupSpec)

/-- ITS FALSE NEIGHBOUR: 'it returns false'. Refute it at one input. -/
def fnExactSchemeOfSetupWrong : ChangeSpec := { name := "fnExactSchemeOfSetup", fn := fun _ => fun
  | [d] => { results := [.lit (.bool false)], args := [d] }
  | _ => none }
def FnExactSchemeOfSetupWrongFalsely : Prop := fnExactSchemeOfSetupRow.holds Try.pinned (OpenSpec.ofChange fnExactSchemeOfSetupWrong)

/-- 'laws.FnExactEffortOf': WHATEVER THE INPUT: true; the input reads as it did. -/
def fnExactEffortOfSpec : ChangeSpec := { name := "fnExactEffortOf", fn := fun _ => fun
  | [d1, d2] => { results := [.lit (.bool true)], args := [d1, d2] }
  | _ => none }
def fnExactEffortOfRow : OpenClaim := { program := "ytpndkekgoadjkaa", sum := "ad43d88b219ca39095e888783326221880fbadf2cd3241d76f1f4ee651caa5da", func := "loop.example/g00944/laws.FnExactEffortOf", spec := "fnExactEffortOf", unfollowed := true, recurses := true, apart := false }
def FnExactEffortOfSaid : Prop := fnExactEffortOfRow.holds Try.pinned (OpenSpec.ofChange fnExactEffortOfSpec)

/-- ITS FALSE NEIGHBOUR: 'it returns false'. Refute it at one input. -/
def fnExactEffortOfWrong : ChangeSpec := { name := "fnExactEffortOf", fn := fun _ => fun
  | [d1, d2] => { results := [.lit (.bool false)], args := [d1, d2] }
  | _ => none }
def FnExactEffortOfWrongFalsely : Prop := fnExactEffortOfRow.holds Try.pinned (OpenSpec.ofChange fnExactEffortOfWrong)

/-- 'laws.FnExactBestJobOrder': WHATEVER THE INPUT: true; the input reads as it did. -/
def fnExactBestJobOrderSpec : ChangeSpec := { name := "fnExactBestJobOrder", fn := fun _ => fun
  | [d] => { results := [.lit (.bool true)], args := [d] }
  | _ => none }
def fnExactBestJobOrderRow : OpenClaim := { program := "ytpndkekgoadjkaa", sum := "ad43d88b219ca39095e888783326221880fbadf2cd3241d76f1f4ee651caa5da", func := "loop.example/g00944/laws.FnExactBestJobOrder", spec := "fnExactBestJobOrder", unfollowed := true, recurses := true, apart := false }
def FnExactBestJobOrderSaid : Prop := fnExactBestJobOrderRow.holds Try.pinned (OpenSpec.ofChange fnExactBestJobOrderSpec)

/-- ITS FALSE NEIGHBOUR: 'it returns false'. Refute it at one input. -/
def fnExactBestJobOrderWrong : ChangeSpec := { name := "fnExactBestJobOrder", fn := fun _ => fun
  | [d] => { results := [.lit (.bool false)], args := [d] }
  | _ => none }
def FnExactBestJobOrderWrongFalsely : Prop := fnExactBestJobOrderRow.holds Try.pinned (OpenSpec.ofChange fnExactBestJobOrderWrong)

/-- 'laws.FnEfforts': WHATEVER THE INPUT: true; the input reads as it did. -/
def fnEffortsSpec : ChangeSpec := { name := "fnEfforts", fn := fun _ => fun
  | [d] => { results := [.lit (.bool true)], args := [d] }
  | _ => none }
def fnEffortsRow : OpenClaim := { program := "ytpndkekgoadjkaa", sum := "ad43d88b219ca39095e888783326221880fbadf2cd3241d76f1f4ee651caa5da", func := "loop.example/g00944/laws.FnEfforts", spec := "fnEfforts", unfollowed := true, recurses := true, apart := false }
def FnEffortsSaid : Prop := fnEffortsRow.holds Try.pinned (OpenSpec.ofChange fnEffortsSpec)

/-- ITS FALSE NEIGHBOUR: 'it returns false'. Refute it at one input. -/
def fnEffortsWrong : ChangeSpec := { name := "fnEfforts", fn := fun _ => fun
  | [d] => { results := [.lit (.bool false)], args := [d] }
  | _ => none }
def FnEffortsWrongFalsely : Prop := fnEffortsRow.holds Try.pinned (OpenSpec.ofChange fnEffortsWrong)

/- THE SECOND FORM. 'bulk': how many values and letters a reading holds, each counted each time it is reached (what is shared counts as often as it is met; a slice's spare places count too). A statement '..UptoSaid' is the law's where the arguments, and the package variables that the reading takes, are together of bulk at most 1048576: NARROWER than '..Said'. Prove '..Said' where nothing that the law and all that it calls make is longer than what came in: it says more and counts as full. Else prove '..UptoSaid'. A law counts once. -/
mutual
def uptoBulk {H : Type} : DataW H → Nat
  | .lit (.string bytes) => bytes.length + 1
  | .lit _ => 1
  | .nil => 1
  | .ptr d => uptoBulk d + 1
  | .slice elems spare => uptoBulkAll elems + uptoBulkAll spare + 1
  | .agg parts => uptoBulkAll parts + 1
  | .iface _ d => uptoBulk d + 1
  | .map entries => uptoBulkEntries entries + 1
  | .held _ => 1
def uptoBulkAll {H : Type} : List (DataW H) → Nat
  | [] => 0
  | d :: r => uptoBulk d + uptoBulkAll r
def uptoBulkEntries {H : Type} : List (Lit × DataW H) → Nat
  | [] => 0
  | x :: r => uptoBulkEntry x + uptoBulkEntries r
def uptoBulkEntry {H : Type} : Lit × DataW H → Nat
  | (.string bytes, d) => bytes.length + uptoBulk d + 1
  | (_, d) => uptoBulk d + 1
 end
def uptoSmall : (H : Type) → List (DataW H) → Bool := fun _ ds => decide (uptoBulkAll ds ≤ 1048576)
def OpenSpec.upto (s : _root_.Go.ChangeSpec) : _root_.Go.OpenSpec := { _root_.Go.OpenSpec.ofChange s with cond := some uptoSmall }

/-- 'laws.FnExactLayersAfter', WHERE WHAT IT READS IS OF BULK AT MOST 1048576: true; the input reads as it did. -/
def fnExactLayersAfterUptoRow : OpenClaim := { program := "ytpndkekgoadjkaa", sum := "ad43d88b219ca39095e888783326221880fbadf2cd3241d76f1f4ee651caa5da", func := "loop.example/g00944/laws.FnExactLayersAfter", spec := "fnExactLayersAfter", unfollowed := true, recurses := true, apart := false, narrowed := true }
def FnExactLayersAfterUptoSaid : Prop := fnExactLayersAfterUptoRow.holds Try.pinned (OpenSpec.upto fnExactLayersAfterSpec)

/-- 'laws.FnExactCountChanges', WHERE WHAT IT READS IS OF BULK AT MOST 1048576: true; the input reads as it did. -/
def fnExactCountChangesUptoRow : OpenClaim := { program := "ytpndkekgoadjkaa", sum := "ad43d88b219ca39095e888783326221880fbadf2cd3241d76f1f4ee651caa5da", func := "loop.example/g00944/laws.FnExactCountChanges", spec := "fnExactCountChanges", unfollowed := true, recurses := true, apart := false, narrowed := true }
def FnExactCountChangesUptoSaid : Prop := fnExactCountChangesUptoRow.holds Try.pinned (OpenSpec.upto fnExactCountChangesSpec)

/-- 'laws.FnExactSchemeOfSetup', WHERE WHAT IT READS IS OF BULK AT MOST 1048576: true; the input reads as it did. -/
def fnExactSchemeOfSetupUptoRow : OpenClaim := { program := "ytpndkekgoadjkaa", sum := "ad43d88b219ca39095e888783326221880fbadf2cd3241d76f1f4ee651caa5da", func := "loop.example/g00944/laws.FnExactSchemeOfSetup", spec := "fnExactSchemeOfSetup", unfollowed := true, recurses := true, apart := false, narrowed := true }
def FnExactSchemeOfSetupUptoSaid : Prop := fnExactSchemeOfSetupUptoRow.holds Try.pinned (OpenSpec.upto fnExactSchemeOfSetupSpec)

/-- 'laws.FnExactEffortOf', WHERE WHAT IT READS IS OF BULK AT MOST 1048576: true; the input reads as it did. -/
def fnExactEffortOfUptoRow : OpenClaim := { program := "ytpndkekgoadjkaa", sum := "ad43d88b219ca39095e888783326221880fbadf2cd3241d76f1f4ee651caa5da", func := "loop.example/g00944/laws.FnExactEffortOf", spec := "fnExactEffortOf", unfollowed := true, recurses := true, apart := false, narrowed := true }
def FnExactEffortOfUptoSaid : Prop := fnExactEffortOfUptoRow.holds Try.pinned (OpenSpec.upto fnExactEffortOfSpec)

/-- 'laws.FnExactBestJobOrder', WHERE WHAT IT READS IS OF BULK AT MOST 1048576: true; the input reads as it did. -/
def fnExactBestJobOrderUptoRow : OpenClaim := { program := "ytpndkekgoadjkaa", sum := "ad43d88b219ca39095e888783326221880fbadf2cd3241d76f1f4ee651caa5da", func := "loop.example/g00944/laws.FnExactBestJobOrder", spec := "fnExactBestJobOrder", unfollowed := true, recurses := true, apart := false, narrowed := true }
def FnExactBestJobOrderUptoSaid : Prop := fnExactBestJobOrderUptoRow.holds Try.pinned (OpenSpec.upto fnExactBestJobOrderSpec)

/-- 'laws.FnEfforts', WHERE WHAT IT READS IS OF BULK AT MOST 1048576: true; the input reads as it did. -/
def fnEffortsUptoRow : OpenClaim := { program := "ytpndkekgoadjkaa", sum := "ad43d88b219ca39095e888783326221880fbadf2cd3241d76f1f4ee651caa5da", func := "loop.example/g00944/laws.FnEfforts", spec := "fnEfforts", unfollowed := true, recurses := true, apart := false, narrowed := true }
def FnEffortsUptoSaid : Prop := fnEffortsUptoRow.holds Try.pinned (OpenSpec.upto fnEffortsSpec)

end Rows
end Go.Proofs.Ytpndkekgoadjkaa
