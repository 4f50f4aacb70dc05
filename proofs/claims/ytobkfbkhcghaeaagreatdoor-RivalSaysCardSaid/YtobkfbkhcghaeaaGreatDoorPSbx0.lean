-- functions and contracts as the kit's print.py writes them, the roots chosen in this session (wip/proots.sh)
-- slim
import Derived.Test.YtobkfbkhcghaeaaGreatDoorSlim
import Derived.Test.YtobkfbkhcghaeaaGreatDoorProg
import Derived.Below
import Derived.Deep.Draws
import Derived.Deep.AppendLies
import Derived.Maps.AppendAt
import Derived.OwnWalk
import Derived.Laws.BytesArg
import Derived.Laws.MakeOwn
import Derived.Laws.OwnMore
import Derived.Deep.OwnRows
import Derived.Tactics
import Derived.Lib.ConvBytes
import Derived.Laws.Slices
import Derived.WalkKit
import Derived.KernelRfl
import Derived.RowKit3
import Derived.Deep.LoopGhost
import Derived.Deep.QuietTactic
import Derived.BigQuiet
import Derived.WideLaws
import Derived.Deep.DeepCutAuto
import Derived.Deep.CutBlock
import Derived.Deep.RegionHeld3
import Derived.Laws.Rows
import Derived.Lib.AppendStr
import Derived.ArgAppend
import Derived.Laws.IdiomCopy
import Derived.OrdersHeld
import Derived.Laws.BitsLemmas
import Derived.RowKit
import Derived.Test.YtobkfbkhcghaeaaGreatDoorWWords
import Derived.Test.YtobkfbkhcghaeaaGreatDoorWLast
import Derived.Test.YtobkfbkhcghaeaaGreatDoorWTab
import Derived.Test.YtobkfbkhcghaeaaGreatDoorWFour
import Derived.Test.YtobkfbkhcghaeaaGreatDoorWQPut
import Derived.Test.YtobkfbkhcghaeaaGreatDoorWApart
import Derived.Test.YtobkfbkhcghaeaaGreatDoorWArr
import Derived.Test.YtobkfbkhcghaeaaGreatDoorWZeros
import Derived.Test.YtobkfbkhcghaeaaGreatDoorWFoot
import Derived.Test.YtobkfbkhcghaeaaGreatDoorWKept
import Derived.Test.YtobkfbkhcghaeaaGreatDoorWShare
import Derived.Test.YtobkfbkhcghaeaaGreatDoorWN
import Derived.Test.YtobkfbkhcghaeaaGreatDoorWFootNe
import Derived.Test.YtobkfbkhcghaeaaGreatDoorWAt
import Derived.Test.YtobkfbkhcghaeaaGreatDoorWEqStruct
import Derived.Test.YtobkfbkhcghaeaaGreatDoorWRepsOne
import Derived.Test.YtobkfbkhcghaeaaGreatDoorWInv
import Derived.Test.YtobkfbkhcghaeaaGreatDoorWInvWords
import Derived.Test.YtobkfbkhcghaeaaGreatDoorWGuard
import Derived.Test.YtobkfbkhcghaeaaGreatDoorWNEv
import Derived.Test.YtobkfbkhcghaeaaGreatDoorWMore
namespace Go.Proofs.YtobkfbkhcghaeaaGreatDoor.PSb
open Go.RowKit Go.Proofs.YtobkfbkhcghaeaaGreatDoorW.PrintWords Go.Proofs.YtobkfbkhcghaeaaGreatDoorW.PrintLast Go.Proofs.YtobkfbkhcghaeaaGreatDoorW.PrintMore
attribute [local go_sem] max2_int min2_int max_two min_two max_three min_three max_four min_four   -- for this text's walks alone
set_option linter.unusedVariables false
set_option linter.unusedSimpArgs false



def errW : Option Int → Value
 | none => .nilIface
 | some c => .iface 0 (.int .i64 c)
theorem errW_none : errW none = .nilIface := rfl
theorem errW_some (c : Int) : errW (some c) = .iface 0 (.int .i64 c) := rfl

-- the values' own types

end Go.Proofs.YtobkfbkhcghaeaaGreatDoor.PSb
