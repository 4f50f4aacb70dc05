-- functions and contracts as the kit's print.py writes them, the roots chosen in this session (wip/proots.sh)
import Derived.Test.YtfgilibcekfibaaProg
import Derived.Below
import Derived.Deep.Draws
import Derived.Deep.AppendLies
import Derived.Maps.AppendAt
import Derived.OwnWalk
import Derived.Laws.BytesArg
import Derived.Laws.MakeOwn
import Derived.Laws.OwnMore
import Derived.Deep.OwnRows
import Derived.Tactics
import Derived.Lib.ConvBytes
import Derived.Laws.Slices
import Derived.WalkKit
import Derived.KernelRfl
import Derived.RowKit3
import Derived.Deep.LoopGhost
import Derived.Deep.QuietTactic
import Derived.BigQuiet
import Derived.WideLaws
import Derived.Deep.DeepCutAuto
import Derived.Deep.CutBlock
import Derived.Deep.RegionHeld3
import Derived.Laws.Rows
import Derived.Lib.AppendStr
import Derived.ArgAppend
import Derived.Laws.IdiomCopy
import Derived.OrdersHeld
import Derived.Laws.BitsLemmas
import Derived.RowKit
import Derived.Test.YtfgilibcekfibaaWWords
import Derived.Test.YtfgilibcekfibaaWLast
import Derived.Test.YtfgilibcekfibaaWTab
import Derived.Test.YtfgilibcekfibaaWFour
import Derived.Test.YtfgilibcekfibaaWQPut
import Derived.Test.YtfgilibcekfibaaWApart
import Derived.Test.YtfgilibcekfibaaWArr
import Derived.Test.YtfgilibcekfibaaWZeros
import Derived.Test.YtfgilibcekfibaaWFoot
import Derived.Test.YtfgilibcekfibaaWKept
import Derived.Test.YtfgilibcekfibaaWShare
import Derived.Test.YtfgilibcekfibaaWN
import Derived.Test.YtfgilibcekfibaaWFootNe
import Derived.Test.YtfgilibcekfibaaWAt
import Derived.Test.YtfgilibcekfibaaWEqStruct
import Derived.Test.YtfgilibcekfibaaWRepsOne
import Derived.Test.YtfgilibcekfibaaWInv
import Derived.Test.YtfgilibcekfibaaWInvWords
import Derived.Test.YtfgilibcekfibaaWGuard
import Derived.Test.YtfgilibcekfibaaWNEv
import Derived.Test.YtfgilibcekfibaaWMore
namespace Go.Proofs.Ytfgilibcekfibaa.PSS
open Go.RowKit Go.Proofs.YtfgilibcekfibaaW.PrintWords Go.Proofs.YtfgilibcekfibaaW.PrintLast Go.Proofs.YtfgilibcekfibaaW.PrintMore
attribute [local go_sem] max2_int min2_int max_two min_two max_three min_three max_four min_four   -- for this text's walks alone
set_option linter.unusedVariables false
set_option linter.unusedSimpArgs false



def errW : Option Int → Value
  | none => .nilIface
  | some c => .iface 0 (.int .i64 c)
theorem errW_none : errW none = .nilIface := rfl
theorem errW_some (c : Int) : errW (some c) = .iface 0 (.int .i64 c) := rfl

-- the values' own types

end Go.Proofs.Ytfgilibcekfibaa.PSS
