-- functions and contracts as the kit's print.py writes them, the roots chosen in this session (wip/proots.sh)
import Derived.Test.YtdpeedkmgegmnaaProg
import Derived.Below
import Derived.Deep.Draws
import Derived.Deep.AppendLies
import Derived.Maps.AppendAt
import Derived.OwnWalk
import Derived.Laws.BytesArg
import Derived.Laws.MakeOwn
import Derived.Laws.OwnMore
import Derived.Deep.OwnRows
import Derived.Tactics
import Derived.Lib.ConvBytes
import Derived.Laws.Slices
import Derived.WalkKit
import Derived.KernelRfl
import Derived.RowKit3
import Derived.Deep.LoopGhost
import Derived.Deep.QuietTactic
import Derived.BigQuiet
import Derived.WideLaws
import Derived.Deep.DeepCutAuto
import Derived.Deep.CutBlock
import Derived.Deep.RegionHeld3
import Derived.Laws.Rows
import Derived.Lib.AppendStr
import Derived.ArgAppend
import Derived.Laws.IdiomCopy
import Derived.OrdersHeld
import Derived.Laws.BitsLemmas
import Derived.RowKit
import Derived.Test.YtdpeedkmgegmnaaWWords
import Derived.Test.YtdpeedkmgegmnaaWLast
import Derived.Test.YtdpeedkmgegmnaaWTab
import Derived.Test.YtdpeedkmgegmnaaWFour
import Derived.Test.YtdpeedkmgegmnaaWQPut
import Derived.Test.YtdpeedkmgegmnaaWApart
import Derived.Test.YtdpeedkmgegmnaaWArr
import Derived.Test.YtdpeedkmgegmnaaWZeros
import Derived.Test.YtdpeedkmgegmnaaWFoot
import Derived.Test.YtdpeedkmgegmnaaWKept
import Derived.Test.YtdpeedkmgegmnaaWShare
import Derived.Test.YtdpeedkmgegmnaaWN
import Derived.Test.YtdpeedkmgegmnaaWFootNe
import Derived.Test.YtdpeedkmgegmnaaWAt
import Derived.Test.YtdpeedkmgegmnaaWEqStruct
import Derived.Test.YtdpeedkmgegmnaaWRepsOne
import Derived.Test.YtdpeedkmgegmnaaWInv
import Derived.Test.YtdpeedkmgegmnaaWInvWords
import Derived.Test.YtdpeedkmgegmnaaWGuard
import Derived.Test.YtdpeedkmgegmnaaWNEv
import Derived.Test.YtdpeedkmgegmnaaWMore
namespace Go.Proofs.Ytdpeedkmgegmnaa.PGd
open Go.RowKit Go.Proofs.YtdpeedkmgegmnaaW.PrintWords Go.Proofs.YtdpeedkmgegmnaaW.PrintLast Go.Proofs.YtdpeedkmgegmnaaW.PrintMore
attribute [local go_sem] max2_int min2_int max_two min_two max_three min_three max_four min_four   -- for this text's walks alone
set_option linter.unusedVariables false
set_option linter.unusedSimpArgs false



def errW : Option Int → Value
  | none => .nilIface
  | some c => .iface 0 (.int .i64 c)
theorem errW_none : errW none = .nilIface := rfl
theorem errW_some (c : Int) : errW (some c) = .iface 0 (.int .i64 c) := rfl

-- the values' own types

end Go.Proofs.Ytdpeedkmgegmnaa.PGd
