-- Written by a program of this session.
import Derived.Test.YtleeadjdepikeaaProg
import Derived.Below
import Derived.Deep.Draws
import Derived.Deep.AppendLies
import Derived.Maps.AppendAt
import Derived.OwnWalk
import Derived.Laws.BytesArg
import Derived.Laws.MakeOwn
import Derived.Laws.OwnMore
import Derived.Deep.OwnRows
import Derived.Tactics
import Derived.Lib.ConvBytes
import Derived.Laws.Slices
import Derived.WalkKit
import Derived.KernelRfl
import Derived.RowKit3
import Derived.Deep.LoopGhost
import Derived.Deep.QuietTactic
import Derived.BigQuiet
import Derived.WideLaws
import Derived.Deep.DeepCutAuto
import Derived.Deep.CutBlock
import Derived.Deep.RegionHeld3
import Derived.Laws.Rows
import Derived.Lib.AppendStr
import Derived.ArgAppend
import Derived.Laws.IdiomCopy
import Derived.OrdersHeld
import Derived.Laws.BitsLemmas
import Derived.RowKit
import Derived.Test.YtleeadjdepikeaaWWords
import Derived.Test.YtleeadjdepikeaaWLast
import Derived.Test.YtleeadjdepikeaaWTab
import Derived.Test.YtleeadjdepikeaaWFour
import Derived.Test.YtleeadjdepikeaaWQPut
import Derived.Test.YtleeadjdepikeaaWApart
import Derived.Test.YtleeadjdepikeaaWArr
import Derived.Test.YtleeadjdepikeaaWZeros
import Derived.Test.YtleeadjdepikeaaWFoot
import Derived.Test.YtleeadjdepikeaaWKept
import Derived.Test.YtleeadjdepikeaaWShare
import Derived.Test.YtleeadjdepikeaaWN
import Derived.Test.YtleeadjdepikeaaWFootNe
import Derived.Test.YtleeadjdepikeaaWAt
import Derived.Test.YtleeadjdepikeaaWEqStruct
import Derived.Test.YtleeadjdepikeaaWRepsOne
import Derived.Test.YtleeadjdepikeaaWInv
import Derived.Test.YtleeadjdepikeaaWInvWords
import Derived.Test.YtleeadjdepikeaaWGuard
import Derived.Test.YtleeadjdepikeaaWNEv
import Derived.Test.YtleeadjdepikeaaWMore
namespace Go.Proofs.Ytleeadjdepikeaa.PFnExactBoardsPerSheet
open Go.RowKit Go.Proofs.YtleeadjdepikeaaW.PrintWords Go.Proofs.YtleeadjdepikeaaW.PrintLast Go.Proofs.YtleeadjdepikeaaW.PrintMore
attribute [local go_sem] max2_int min2_int max_two min_two max_three min_three max_four min_four   -- for this text's walks alone
set_option linter.unusedVariables false
set_option linter.unusedSimpArgs false



def errW : Option Int → Value
  | none => .nilIface
  | some c => .iface 0 (.int .i64 c)
theorem errW_none : errW none = .nilIface := rfl
theorem errW_some (c : Int) : errW (some c) = .iface 0 (.int .i64 c) := rfl

-- the values' own types

end Go.Proofs.Ytleeadjdepikeaa.PFnExactBoardsPerSheet
