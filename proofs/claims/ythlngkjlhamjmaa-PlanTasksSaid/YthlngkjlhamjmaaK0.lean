/- A walk of the seat's own: it began as a text of the kit's print of law PlanBack and was turned. -/
import Derived.Test.YthlngkjlhamjmaaProg
import Derived.Below
import Derived.Deep.Draws
import Derived.Deep.AppendLies
import Derived.Maps.AppendAt
import Derived.OwnWalk
import Derived.Laws.BytesArg
import Derived.Laws.MakeOwn
import Derived.Laws.OwnMore
import Derived.Deep.OwnRows
import Derived.Tactics
import Derived.Lib.ConvBytes
import Derived.Laws.Slices
import Derived.WalkKit
import Derived.KernelRfl
import Derived.RowKit3
import Derived.Deep.LoopGhost
import Derived.Deep.QuietTactic
import Derived.BigQuiet
import Derived.WideLaws
import Derived.Deep.DeepCutAuto
import Derived.Deep.CutBlock
import Derived.Deep.RegionHeld3
import Derived.Laws.Rows
import Derived.Lib.AppendStr
import Derived.ArgAppend
import Derived.Laws.IdiomCopy
import Derived.OrdersHeld
import Derived.Laws.BitsLemmas
import Derived.RowKit
import Derived.Test.YthlngkjlhamjmaaWWords
import Derived.Test.YthlngkjlhamjmaaWLast
import Derived.Test.YthlngkjlhamjmaaWTab
import Derived.Test.YthlngkjlhamjmaaWFour
import Derived.Test.YthlngkjlhamjmaaWQPut
import Derived.Test.YthlngkjlhamjmaaWApart
import Derived.Test.YthlngkjlhamjmaaWArr
import Derived.Test.YthlngkjlhamjmaaWZeros
import Derived.Test.YthlngkjlhamjmaaWFoot
import Derived.Test.YthlngkjlhamjmaaWKept
import Derived.Test.YthlngkjlhamjmaaWShare
import Derived.Test.YthlngkjlhamjmaaWN
import Derived.Test.YthlngkjlhamjmaaWFootNe
import Derived.Test.YthlngkjlhamjmaaWAt
import Derived.Test.YthlngkjlhamjmaaWEqStruct
import Derived.Test.YthlngkjlhamjmaaWRepsOne
import Derived.Test.YthlngkjlhamjmaaWInv
import Derived.Test.YthlngkjlhamjmaaWInvWords
import Derived.Test.YthlngkjlhamjmaaWGuard
import Derived.Test.YthlngkjlhamjmaaWNEv
import Derived.Test.YthlngkjlhamjmaaWMore
namespace Go.Proofs.Ythlngkjlhamjmaa.K
open Go.RowKit Go.Proofs.YthlngkjlhamjmaaW.PrintWords Go.Proofs.YthlngkjlhamjmaaW.PrintLast Go.Proofs.YthlngkjlhamjmaaW.PrintMore
attribute [local go_sem] max2_int min2_int max_two min_two max_three min_three max_four min_four   -- for this text's walks alone
set_option linter.unusedVariables false
set_option linter.unusedSimpArgs false



def errW : Option Int → Value
  | none => .nilIface
  | some c => .iface 0 (.int .i64 c)
theorem errW_none : errW none = .nilIface := rfl
theorem errW_some (c : Int) : errW (some c) = .iface 0 (.int .i64 c) := rfl

-- the values' own types

end Go.Proofs.Ythlngkjlhamjmaa.K
