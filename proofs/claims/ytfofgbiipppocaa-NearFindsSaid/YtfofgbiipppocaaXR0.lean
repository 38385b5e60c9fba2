/- Written by a program of this session (wip/xprint) out of the translation: functions of the given program as plain functions, and the walks that show that each call answers what its function says, under the conditions that each theorem states. -/
import Derived.Test.YtfofgbiipppocaaProg
import Derived.Below
import Derived.Deep.Draws
import Derived.Deep.AppendLies
import Derived.Maps.AppendAt
import Derived.OwnWalk
import Derived.Laws.BytesArg
import Derived.Laws.MakeOwn
import Derived.Laws.OwnMore
import Derived.Deep.OwnRows
import Derived.Tactics
import Derived.Lib.ConvBytes
import Derived.Laws.Slices
import Derived.WalkKit
import Derived.KernelRfl
import Derived.RowKit3
import Derived.Deep.LoopGhost
import Derived.Deep.QuietTactic
import Derived.BigQuiet
import Derived.WideLaws
import Derived.Deep.DeepCutAuto
import Derived.Deep.CutBlock
import Derived.Deep.RegionHeld3
import Derived.Laws.Rows
import Derived.Lib.AppendStr
import Derived.ArgAppend
import Derived.Laws.IdiomCopy
import Derived.OrdersHeld
import Derived.Laws.BitsLemmas
import Derived.RowKit
import Derived.Test.YtfofgbiipppocaaWWords
import Derived.Test.YtfofgbiipppocaaWLast
import Derived.Test.YtfofgbiipppocaaWTab
import Derived.Test.YtfofgbiipppocaaWFour
import Derived.Test.YtfofgbiipppocaaWQPut
import Derived.Test.YtfofgbiipppocaaWApart
import Derived.Test.YtfofgbiipppocaaWArr
import Derived.Test.YtfofgbiipppocaaWZeros
import Derived.Test.YtfofgbiipppocaaWFoot
import Derived.Test.YtfofgbiipppocaaWKept
import Derived.Test.YtfofgbiipppocaaWShare
import Derived.Test.YtfofgbiipppocaaWN
import Derived.Test.YtfofgbiipppocaaWFootNe
import Derived.Test.YtfofgbiipppocaaWAt
import Derived.Test.YtfofgbiipppocaaWEqStruct
import Derived.Test.YtfofgbiipppocaaWRepsOne
import Derived.Test.YtfofgbiipppocaaWInv
import Derived.Test.YtfofgbiipppocaaWInvWords
import Derived.Test.YtfofgbiipppocaaWGuard
import Derived.Test.YtfofgbiipppocaaWNEv
import Derived.Test.YtfofgbiipppocaaWMore
namespace Go.Proofs.Ytfofgbiipppocaa.XR
open Go.RowKit Go.Proofs.YtfofgbiipppocaaW.PrintWords Go.Proofs.YtfofgbiipppocaaW.PrintLast Go.Proofs.YtfofgbiipppocaaW.PrintMore
attribute [local go_sem] max2_int min2_int max_two min_two max_three min_three max_four min_four   -- for this text's walks alone
set_option linter.unusedVariables false
set_option linter.unusedSimpArgs false



def errW : Option Int → Value
  | none => .nilIface
  | some c => .iface 0 (.int .i64 c)
theorem errW_none : errW none = .nilIface := rfl
theorem errW_some (c : Int) : errW (some c) = .iface 0 (.int .i64 c) := rfl

-- the values' own types

end Go.Proofs.Ytfofgbiipppocaa.XR
