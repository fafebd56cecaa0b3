-- Written by a program of this session.
import Derived.Test.YthmeohanbggnlaaProg
import Derived.Below
import Derived.Deep.Draws
import Derived.Deep.AppendLies
import Derived.Maps.AppendAt
import Derived.OwnWalk
import Derived.Laws.BytesArg
import Derived.Laws.MakeOwn
import Derived.Laws.OwnMore
import Derived.Deep.OwnRows
import Derived.Tactics
import Derived.Lib.ConvBytes
import Derived.Laws.Slices
import Derived.WalkKit
import Derived.KernelRfl
import Derived.RowKit3
import Derived.Deep.LoopGhost
import Derived.Deep.QuietTactic
import Derived.BigQuiet
import Derived.WideLaws
import Derived.Deep.DeepCutAuto
import Derived.Deep.CutBlock
import Derived.Deep.RegionHeld3
import Derived.Laws.Rows
import Derived.Lib.AppendStr
import Derived.ArgAppend
import Derived.Laws.IdiomCopy
import Derived.OrdersHeld
import Derived.Laws.BitsLemmas
import Derived.RowKit
import Derived.Test.YthmeohanbggnlaaWWords
import Derived.Test.YthmeohanbggnlaaWLast
import Derived.Test.YthmeohanbggnlaaWTab
import Derived.Test.YthmeohanbggnlaaWFour
import Derived.Test.YthmeohanbggnlaaWQPut
import Derived.Test.YthmeohanbggnlaaWApart
import Derived.Test.YthmeohanbggnlaaWArr
import Derived.Test.YthmeohanbggnlaaWZeros
import Derived.Test.YthmeohanbggnlaaWFoot
import Derived.Test.YthmeohanbggnlaaWKept
import Derived.Test.YthmeohanbggnlaaWShare
import Derived.Test.YthmeohanbggnlaaWN
import Derived.Test.YthmeohanbggnlaaWFootNe
import Derived.Test.YthmeohanbggnlaaWAt
import Derived.Test.YthmeohanbggnlaaWEqStruct
import Derived.Test.YthmeohanbggnlaaWRepsOne
import Derived.Test.YthmeohanbggnlaaWInv
import Derived.Test.YthmeohanbggnlaaWInvWords
import Derived.Test.YthmeohanbggnlaaWGuard
import Derived.Test.YthmeohanbggnlaaWNEv
import Derived.Test.YthmeohanbggnlaaWMore
namespace Go.Proofs.Ythmeohanbggnlaa.PFnExactCountFaults
open Go.RowKit Go.Proofs.YthmeohanbggnlaaW.PrintWords Go.Proofs.YthmeohanbggnlaaW.PrintLast Go.Proofs.YthmeohanbggnlaaW.PrintMore
attribute [local go_sem] max2_int min2_int max_two min_two max_three min_three max_four min_four   -- for this text's walks alone
set_option linter.unusedVariables false
set_option linter.unusedSimpArgs false



def errW : Option Int → Value
  | none => .nilIface
  | some c => .iface 0 (.int .i64 c)
theorem errW_none : errW none = .nilIface := rfl
theorem errW_some (c : Int) : errW (some c) = .iface 0 (.int .i64 c) := rfl

theorem info2 : (Try.prog.info? 2).map (fun i => (i.zero, i.size, i.bytes)) = some (some (.int .i64 0), 1, 8) := by kernel_rfl
-- the values' own types

end Go.Proofs.Ythmeohanbggnlaa.PFnExactCountFaults
