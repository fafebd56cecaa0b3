-- Written by a program of this session.
import Derived.Test.YtnnglnphkbpemaaProg
import Derived.Below
import Derived.Deep.Draws
import Derived.Deep.AppendLies
import Derived.Maps.AppendAt
import Derived.OwnWalk
import Derived.Laws.BytesArg
import Derived.Laws.MakeOwn
import Derived.Laws.OwnMore
import Derived.Deep.OwnRows
import Derived.Tactics
import Derived.Lib.ConvBytes
import Derived.Laws.Slices
import Derived.WalkKit
import Derived.KernelRfl
import Derived.RowKit3
import Derived.Deep.LoopGhost
import Derived.Deep.QuietTactic
import Derived.BigQuiet
import Derived.WideLaws
import Derived.Deep.DeepCutAuto
import Derived.Deep.CutBlock
import Derived.Deep.RegionHeld3
import Derived.Laws.Rows
import Derived.Lib.AppendStr
import Derived.ArgAppend
import Derived.Laws.IdiomCopy
import Derived.OrdersHeld
import Derived.Laws.BitsLemmas
import Derived.RowKit
import Derived.Test.YtnnglnphkbpemaaWWords
import Derived.Test.YtnnglnphkbpemaaWLast
import Derived.Test.YtnnglnphkbpemaaWTab
import Derived.Test.YtnnglnphkbpemaaWFour
import Derived.Test.YtnnglnphkbpemaaWQPut
import Derived.Test.YtnnglnphkbpemaaWApart
import Derived.Test.YtnnglnphkbpemaaWArr
import Derived.Test.YtnnglnphkbpemaaWZeros
import Derived.Test.YtnnglnphkbpemaaWFoot
import Derived.Test.YtnnglnphkbpemaaWKept
import Derived.Test.YtnnglnphkbpemaaWShare
import Derived.Test.YtnnglnphkbpemaaWN
import Derived.Test.YtnnglnphkbpemaaWFootNe
import Derived.Test.YtnnglnphkbpemaaWAt
import Derived.Test.YtnnglnphkbpemaaWEqStruct
import Derived.Test.YtnnglnphkbpemaaWRepsOne
import Derived.Test.YtnnglnphkbpemaaWInv
import Derived.Test.YtnnglnphkbpemaaWInvWords
import Derived.Test.YtnnglnphkbpemaaWGuard
import Derived.Test.YtnnglnphkbpemaaWNEv
import Derived.Test.YtnnglnphkbpemaaWMore
namespace Go.Proofs.Ytnnglnphkbpemaa.PFnReads
open Go.RowKit Go.Proofs.YtnnglnphkbpemaaW.PrintWords Go.Proofs.YtnnglnphkbpemaaW.PrintLast Go.Proofs.YtnnglnphkbpemaaW.PrintMore
attribute [local go_sem] max2_int min2_int max_two min_two max_three min_three max_four min_four   -- for this text's walks alone
set_option linter.unusedVariables false
set_option linter.unusedSimpArgs false



def errW : Option Int → Value
  | none => .nilIface
  | some c => .iface 0 (.int .i64 c)
theorem errW_none : errW none = .nilIface := rfl
theorem errW_some (c : Int) : errW (some c) = .iface 0 (.int .i64 c) := rfl

theorem info2 : (Try.prog.info? 2).map (fun i => (i.zero, i.size, i.bytes)) = some (some (.int .i64 0), 1, 8) := by kernel_rfl
-- the values' own types

end Go.Proofs.Ytnnglnphkbpemaa.PFnReads
