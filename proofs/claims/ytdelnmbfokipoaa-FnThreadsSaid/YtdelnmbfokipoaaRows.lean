/-
  No cell of these rows narrows 'for every input' (looked for: loops, veiled, ifaces, maps, wideKeys, modest, calm, conditions, laid).
  DERIVED. THE GIVEN ROWS OF THIS SEAT. 9 by the template 'for every input the law returns true; each argument reads behind the call as it read before'; 0 by the template 'total and deterministic' (their statements: YtdelnmbfokipoaaTotals.lean).
  GIVEN WITH THE SEED: the statements are not yours to turn. If you find one false, say at which input.
  Laid BY PROGRAM, IN A SANDBOX (cutbox-rows.mjs): the forced cells as the released guide's own fill.sh prints them over the translation a6fe2dda3d30bd8d… (all of the seat's roots in one cut). By AI agents, Wed Nov 11 2026. No macro, syntax, notation, axiom, sorry.
-/
import Derived.Test.YtdelnmbfokipoaaChecked
import GoSem.Claim
import GoSem.ClaimJoined
import GoSem.ClaimMapViews
import Derived.JoinedTies
import Derived.KernelRfl
namespace Go.Proofs.Ytdelnmbfokipoaa
/- THE CELL 'sum', in the pinned program and in every row, IS THE sha256 OF THE DUMP (.gsa) THAT YtdelnmbfokipoaaProg.lean LOADS. Nothing in Lean hashes anything: it is a label: what it is worth is what the hold of that sum in a sandbox is worth. -/
noncomputable def Try.pinned : Pinned := { name := "ytdelnmbfokipoaa", sum := "a6fe2dda3d30bd8dc8d123006e88e4b52575091e18c97c5eaf9317157f9f748e", checked := Try.checked }
namespace Rows
def none {H : Type} : Left H := { results := [], args := [] }

/-- 'laws.FnExactPlainPath': WHATEVER THE INPUT: true; the input reads as it did. -/
def fnExactPlainPathSpec : ChangeSpec := { name := "fnExactPlainPath", fn := fun _ => fun
  | [d1, d2] => { results := [.lit (.bool true)], args := [d1, d2] }
  | _ => none }
def fnExactPlainPathRow : OpenClaim := { program := "ytdelnmbfokipoaa", sum := "a6fe2dda3d30bd8dc8d123006e88e4b52575091e18c97c5eaf9317157f9f748e", func := "loop.example/g00944/laws.FnExactPlainPath", spec := "fnExactPlainPath", apart := false }
def FnExactPlainPathSaid : Prop := fnExactPlainPathRow.holds Try.pinned (OpenSpec.ofChange fnExactPlainPathSpec)

/-- ITS FALSE NEIGHBOUR: 'it returns false'. Refute it at one input. -/
def fnExactPlainPathWrong : ChangeSpec := { name := "fnExactPlainPath", fn := fun _ => fun
  | [d1, d2] => { results := [.lit (.bool false)], args := [d1, d2] }
  | _ => none }
def FnExactPlainPathWrongFalsely : Prop := fnExactPlainPathRow.holds Try.pinned (OpenSpec.ofChange fnExactPlainPathWrong)

/-- 'laws.FnExactInsideLength': WHATEVER THE INPUT: true; the input reads as it did. -/
def fnExactInsideLengthSpec : ChangeSpec := { name := "fnExactInsideLength", fn := fun _ => fun
  | [d] => { results := [.lit (.bool true)], args := [d] }
  | _ => none }
def fnExactInsideLengthRow : OpenClaim := { program := "ytdelnmbfokipoaa", sum := "a6fe2dda3d30bd8dc8d123006e88e4b52575091e18c97c5eaf9317157f9f748e", func := "loop.example/g00944/laws.FnExactInsideLength", spec := "fnExactInsideLength", unfollowed := true, recurses := true, apart := false }
def FnExactInsideLengthSaid : Prop := fnExactInsideLengthRow.holds Try.pinned (OpenSpec.ofChange fnExactInsideLengthSpec)

/-- ITS FALSE NEIGHBOUR: 'it returns false'. Refute it at one input. -/
def fnExactInsideLengthWrong : ChangeSpec := { name := "fnExactInsideLength", fn := fun _ => fun
  | [d] => { results := [.lit (.bool false)], args := [d] }
  | _ => none }
def FnExactInsideLengthWrongFalsely : Prop := fnExactInsideLengthRow.holds Try.pinned (OpenSpec.ofChange fnExactInsideLengthWrong)

/-- 'laws.FnExactEvenHoles': WHATEVER THE INPUT: true; the input reads as it did. -/
def fnExactEvenHolesSpec : ChangeSpec := { name := "fnExactEvenHoles", fn := fun _ => fun
  | [d1, d2, d3] => { results := [.lit (.bool true)], args := [d1, d2, d3] }
  | _ => none }
def fnExactEvenHolesRow : OpenClaim := { program := "ytdelnmbfokipoaa", sum := "a6fe2dda3d30bd8dc8d123006e88e4b52575091e18c97c5eaf9317157f9f748e", func := "loop.example/g00944/laws.FnExactEvenHoles", spec := "fnExactEvenHoles", unfollowed := true, recurses := true, apart := false }
def FnExactEvenHolesSaid : Prop := fnExactEvenHolesRow.holds Try.pinned (OpenSpec.ofChange fnExactEvenHolesSpec)

/-- ITS FALSE NEIGHBOUR: 'it returns false'. Refute it at one input. -/
def fnExactEvenHolesWrong : ChangeSpec := { name := "fnExactEvenHoles", fn := fun _ => fun
  | [d1, d2, d3] => { results := [.lit (.bool false)], args := [d1, d2, d3] }
  | _ => none }
def FnExactEvenHolesWrongFalsely : Prop := fnExactEvenHolesRow.holds Try.pinned (OpenSpec.ofChange fnExactEvenHolesWrong)

/-- 'laws.FnExactIsThreadPath': WHATEVER THE INPUT: true; the input reads as it did. -/
def fnExactIsThreadPathSpec : ChangeSpec := { name := "fnExactIsThreadPath", fn := fun _ => fun
  | [d1, d2, d3] => { results := [.lit (.bool true)], args := [d1, d2, d3] }
  | _ => none }
def fnExactIsThreadPathRow : OpenClaim := { program := "ytdelnmbfokipoaa", sum := "a6fe2dda3d30bd8dc8d123006e88e4b52575091e18c97c5eaf9317157f9f748e", func := "loop.example/g00944/laws.FnExactIsThreadPath", spec := "fnExactIsThreadPath", apart := false }
def FnExactIsThreadPathSaid : Prop := fnExactIsThreadPathRow.holds Try.pinned (OpenSpec.ofChange fnExactIsThreadPathSpec)

/-- ITS FALSE NEIGHBOUR: 'it returns false'. Refute it at one input. -/
def fnExactIsThreadPathWrong : ChangeSpec := { name := "fnExactIsThreadPath", fn := fun _ => fun
  | [d1, d2, d3] => { results := [.lit (.bool false)], args := [d1, d2, d3] }
  | _ => none }
def FnExactIsThreadPathWrongFalsely : Prop := fnExactIsThreadPathRow.holds Try.pinned (OpenSpec.ofChange fnExactIsThreadPathWrong)

/-- 'laws.FnExactMirrorHoles': WHATEVER THE INPUT: true; the input reads as it did. -/
def fnExactMirrorHolesSpec : ChangeSpec := { name := "fnExactMirrorHoles", fn := fun _ => fun
  | [d1, d2] => { results := [.lit (.bool true)], args := [d1, d2] }
  | _ => none }
def fnExactMirrorHolesRow : OpenClaim := { program := "ytdelnmbfokipoaa", sum := "a6fe2dda3d30bd8dc8d123006e88e4b52575091e18c97c5eaf9317157f9f748e", func := "loop.example/g00944/laws.FnExactMirrorHoles", spec := "fnExactMirrorHoles", unfollowed := true, recurses := true, apart := false }
def FnExactMirrorHolesSaid : Prop := fnExactMirrorHolesRow.holds Try.pinned (OpenSpec.ofChange fnExactMirrorHolesSpec)

/-- ITS FALSE NEIGHBOUR: 'it returns false'. Refute it at one input. -/
def fnExactMirrorHolesWrong : ChangeSpec := { name := "fnExactMirrorHoles", fn := fun _ => fun
  | [d1, d2] => { results := [.lit (.bool false)], args := [d1, d2] }
  | _ => none }
def FnExactMirrorHolesWrongFalsely : Prop := fnExactMirrorHolesRow.holds Try.pinned (OpenSpec.ofChange fnExactMirrorHolesWrong)

/-- 'laws.FnExactPlainLength': WHATEVER THE INPUT: true; the input reads as it did. -/
def fnExactPlainLengthSpec : ChangeSpec := { name := "fnExactPlainLength", fn := fun _ => fun
  | [d1, d2, d3] => { results := [.lit (.bool true)], args := [d1, d2, d3] }
  | _ => none }
def fnExactPlainLengthRow : OpenClaim := { program := "ytdelnmbfokipoaa", sum := "a6fe2dda3d30bd8dc8d123006e88e4b52575091e18c97c5eaf9317157f9f748e", func := "loop.example/g00944/laws.FnExactPlainLength", spec := "fnExactPlainLength", unfollowed := true, recurses := true, apart := false }
def FnExactPlainLengthSaid : Prop := fnExactPlainLengthRow.holds Try.pinned (OpenSpec.ofChange fnExactPlainLengthSpec)

/-- ITS FALSE NEIGHBOUR: 'it returns false'. Refute it at one input. -/
def fnExactPlainLengthWrong : ChangeSpec := { name := "fnExactPlainLength", fn := fun _ => fun
  | [d1, d2, d3] => { results := [.lit (.bool false)], args := [d1, d2, d3] }
  | _ => none }
def FnExactPlainLengthWrongFalsely : Prop := fnExactPlainLengthRow.holds Try.pinned (OpenSpec.ofChange fnExactPlainLengthWrong)

/-- 'laws.FnExactPathLength': WHATEVER THE INPUT: true; the input reads as it did. -/
def fnExactPathLengthSpec : ChangeSpec := { name := "fnExactPathLength", fn := fun _ => fun
  | [d1, d2, d3, d4] => { results := [.lit (.bool true)], args := [d1, d2, d3, d4] }
  | _ => none }
def fnExactPathLengthRow : OpenClaim := { program := "ytdelnmbfokipoaa", sum := "a6fe2dda3d30bd8dc8d123006e88e4b52575091e18c97c5eaf9317157f9f748e", func := "loop.example/g00944/laws.FnExactPathLength", spec := "fnExactPathLength", unfollowed := true, recurses := true, apart := false }
def FnExactPathLengthSaid : Prop := fnExactPathLengthRow.holds Try.pinned (OpenSpec.ofChange fnExactPathLengthSpec)

/-- ITS FALSE NEIGHBOUR: 'it returns false'. Refute it at one input. -/
def fnExactPathLengthWrong : ChangeSpec := { name := "fnExactPathLength", fn := fun _ => fun
  | [d1, d2, d3, d4] => { results := [.lit (.bool false)], args := [d1, d2, d3, d4] }
  | _ => none }
def FnExactPathLengthWrongFalsely : Prop := fnExactPathLengthRow.holds Try.pinned (OpenSpec.ofChange fnExactPathLengthWrong)

/-- 'laws.FnHoles': WHATEVER THE INPUT: true; the input reads as it did. -/
def fnHolesSpec : ChangeSpec := { name := "fnHoles", fn := fun _ => fun
  | [d] => { results := [.lit (.bool true)], args := [d] }
  | _ => none }
def fnHolesRow : OpenClaim := { program := "ytdelnmbfokipoaa", sum := "a6fe2dda3d30bd8dc8d123006e88e4b52575091e18c97c5eaf9317157f9f748e", func := "loop.example/g00944/laws.FnHoles", spec := "fnHoles", unfollowed := true, recurses := true, apart := false }
def FnHolesSaid : Prop := fnHolesRow.holds Try.pinned (OpenSpec.ofChange fnHolesSpec)

/-- ITS FALSE NEIGHBOUR: 'it returns false'. Refute it at one input. -/
def fnHolesWrong : ChangeSpec := { name := "fnHoles", fn := fun _ => fun
  | [d] => { results := [.lit (.bool false)], args := [d] }
  | _ => none }
def FnHolesWrongFalsely : Prop := fnHolesRow.holds Try.pinned (OpenSpec.ofChange fnHolesWrong)

/-- 'laws.FnThreads': WHATEVER THE INPUT: true; the input reads as it did. -/
def fnThreadsSpec : ChangeSpec := { name := "fnThreads", fn := fun _ => fun
  | [d] => { results := [.lit (.bool true)], args := [d] }
  | _ => none }
def fnThreadsRow : OpenClaim := { program := "ytdelnmbfokipoaa", sum := "a6fe2dda3d30bd8dc8d123006e88e4b52575091e18c97c5eaf9317157f9f748e", func := "loop.example/g00944/laws.FnThreads", spec := "fnThreads", unfollowed := true, recurses := true, apart := false }
def FnThreadsSaid : Prop := fnThreadsRow.holds Try.pinned (OpenSpec.ofChange fnThreadsSpec)

/-- ITS FALSE NEIGHBOUR: 'it returns false'. Refute it at one input. -/
def fnThreadsWrong : ChangeSpec := { name := "fnThreads", fn := fun _ => fun
  | [d] => { results := [.lit (.bool false)], args := [d] }
  | _ => none }
def FnThreadsWrongFalsely : Prop := fnThreadsRow.holds Try.pinned (OpenSpec.ofChange fnThreadsWrong)

/- THE SECOND FORM. 'bulk': how many values and letters a reading holds, each counted each time it is reached (what is shared counts as often as it is met; a slice's spare places count too). A statement '..UptoSaid' is the law's where the arguments, and the package variables that the reading takes, are together of bulk at most 1048576: NARROWER than '..Said'. Prove '..Said' where nothing that the law and all that it calls make is longer than what came in: it says more and counts as full. Else prove '..UptoSaid'. A law counts once. -/
mutual
def uptoBulk {H : Type} : DataW H → Nat
  | .lit (.string bytes) => bytes.length + 1
  | .lit _ => 1
  | .nil => 1
  | .ptr d => uptoBulk d + 1
  | .slice elems spare => uptoBulkAll elems + uptoBulkAll spare + 1
  | .agg parts => uptoBulkAll parts + 1
  | .iface _ d => uptoBulk d + 1
  | .map entries => uptoBulkEntries entries + 1
  | .held _ => 1
def uptoBulkAll {H : Type} : List (DataW H) → Nat
  | [] => 0
  | d :: r => uptoBulk d + uptoBulkAll r
def uptoBulkEntries {H : Type} : List (Lit × DataW H) → Nat
  | [] => 0
  | x :: r => uptoBulkEntry x + uptoBulkEntries r
def uptoBulkEntry {H : Type} : Lit × DataW H → Nat
  | (.string bytes, d) => bytes.length + uptoBulk d + 1
  | (_, d) => uptoBulk d + 1
 end
def uptoSmall : (H : Type) → List (DataW H) → Bool := fun _ ds => decide (uptoBulkAll ds ≤ 1048576)
def OpenSpec.upto (s : _root_.Go.ChangeSpec) : _root_.Go.OpenSpec := { _root_.Go.OpenSpec.ofChange s with cond := some uptoSmall }

/-- 'laws.FnExactPlainPath', WHERE WHAT IT READS IS OF BULK AT MOST 1048576: true; the input reads as it did. -/
def fnExactPlainPathUptoRow : OpenClaim := { program := "ytdelnmbfokipoaa", sum := "a6fe2dda3d30bd8dc8d123006e88e4b52575091e18c97c5eaf9317157f9f748e", func := "loop.example/g00944/laws.FnExactPlainPath", spec := "fnExactPlainPath", apart := false, narrowed := true }
def FnExactPlainPathUptoSaid : Prop := fnExactPlainPathUptoRow.holds Try.pinned (OpenSpec.upto fnExactPlainPathSpec)

/-- 'laws.FnExactInsideLength', WHERE WHAT IT READS IS OF BULK AT MOST 1048576: true; the input reads as it did. -/
def fnExactInsideLengthUptoRow : OpenClaim := { program := "ytdelnmbfokipoaa", sum := "a6fe2dda3d30bd8dc8d123006e88e4b52575091e18c97c5eaf9317157f9f748e", func := "loop.example/g00944/laws.FnExactInsideLength", spec := "fnExactInsideLength", unfollowed := true, recurses := true, apart := false, narrowed := true }
def FnExactInsideLengthUptoSaid : Prop := fnExactInsideLengthUptoRow.holds Try.pinned (OpenSpec.upto fnExactInsideLengthSpec)

/-- 'laws.FnExactEvenHoles', WHERE WHAT IT READS IS OF BULK AT MOST 1048576: true; the input reads as it did. -/
def fnExactEvenHolesUptoRow : OpenClaim := { program := "ytdelnmbfokipoaa", sum := "a6fe2dda3d30bd8dc8d123006e88e4b52575091e18c97c5eaf9317157f9f748e", func := "loop.example/g00944/laws.FnExactEvenHoles", spec := "fnExactEvenHoles", unfollowed := true, recurses := true, apart := false, narrowed := true }
def FnExactEvenHolesUptoSaid : Prop := fnExactEvenHolesUptoRow.holds Try.pinned (OpenSpec.upto fnExactEvenHolesSpec)

/-- 'laws.FnExactIsThreadPath', WHERE WHAT IT READS IS OF BULK AT MOST 1048576: true; the input reads as it did. -/
def fnExactIsThreadPathUptoRow : OpenClaim := { program := "ytdelnmbfokipoaa", sum := "a6fe2dda3d30bd8dc8d123006e88e4b52575091e18c97c5eaf9317157f9f748e", func := "loop.example/g00944/laws.FnExactIsThreadPath", spec := "fnExactIsThreadPath", apart := false, narrowed := true }
def FnExactIsThreadPathUptoSaid : Prop := fnExactIsThreadPathUptoRow.holds Try.pinned (OpenSpec.upto fnExactIsThreadPathSpec)

/-- 'laws.FnExactMirrorHoles', WHERE WHAT IT READS IS OF BULK AT MOST 1048576: true; the input reads as it did. -/
def fnExactMirrorHolesUptoRow : OpenClaim := { program := "ytdelnmbfokipoaa", sum := "a6fe2dda3d30bd8dc8d123006e88e4b52575091e18c97c5eaf9317157f9f748e", func := "loop.example/g00944/laws.FnExactMirrorHoles", spec := "fnExactMirrorHoles", unfollowed := true, recurses := true, apart := false, narrowed := true }
def FnExactMirrorHolesUptoSaid : Prop := fnExactMirrorHolesUptoRow.holds Try.pinned (OpenSpec.upto fnExactMirrorHolesSpec)

/-- 'laws.FnExactPlainLength', WHERE WHAT IT READS IS OF BULK AT MOST 1048576: true; the input reads as it did. -/
def fnExactPlainLengthUptoRow : OpenClaim := { program := "ytdelnmbfokipoaa", sum := "a6fe2dda3d30bd8dc8d123006e88e4b52575091e18c97c5eaf9317157f9f748e", func := "loop.example/g00944/laws.FnExactPlainLength", spec := "fnExactPlainLength", unfollowed := true, recurses := true, apart := false, narrowed := true }
def FnExactPlainLengthUptoSaid : Prop := fnExactPlainLengthUptoRow.holds Try.pinned (OpenSpec.upto fnExactPlainLengthSpec)

/-- 'laws.FnExactPathLength', WHERE WHAT IT READS IS OF BULK AT MOST 1048576: true; the input reads as it did. -/
def fnExactPathLengthUptoRow : OpenClaim := { program := "ytdelnmbfokipoaa", sum := "a6fe2dda3d30bd8dc8d123006e88e4b52575091e18c97c5eaf9317157f9f748e", func := "loop.example/g00944/laws.FnExactPathLength", spec := "fnExactPathLength", unfollowed := true, recurses := true, apart := false, narrowed := true }
def FnExactPathLengthUptoSaid : Prop := fnExactPathLengthUptoRow.holds Try.pinned (OpenSpec.upto fnExactPathLengthSpec)

/-- 'laws.FnHoles', WHERE WHAT IT READS IS OF BULK AT MOST 1048576: true; the input reads as it did. -/
def fnHolesUptoRow : OpenClaim := { program := "ytdelnmbfokipoaa", sum := "a6fe2dda3d30bd8dc8d123006e88e4b52575091e18c97c5eaf9317157f9f748e", func := "loop.example/g00944/laws.FnHoles", spec := "fnHoles", unfollowed := true, recurses := true, apart := false, narrowed := true }
def FnHolesUptoSaid : Prop := fnHolesUptoRow.holds Try.pinned (OpenSpec.upto fnHolesSpec)

/-- 'laws.FnThreads', WHERE WHAT IT READS IS OF BULK AT MOST 1048576: true; the input reads as it did. -/
def fnThreadsUptoRow : OpenClaim := { program := "ytdelnmbfokipoaa", sum := "a6fe2dda3d30bd8dc8d123006e88e4b52575091e18c97c5eaf9317157f9f748e", func := "loop.example/g00944/laws.FnThreads", spec := "fnThreads", unfollowed := true, recurses := true, apart := false, narrowed := true }
def FnThreadsUptoSaid : Prop := fnThreadsUptoRow.holds Try.pinned (OpenSpec.upto fnThreadsSpec)

end Rows
end Go.Proofs.Ytdelnmbfokipoaa
