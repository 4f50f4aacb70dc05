-- functions and contracts as the kit's print.py writes them, the roots chosen in this session (wip/proots.sh)
-- slim
import Derived.Test.YtobkfbkhcghaeaaDoorProg
import Derived.Below
import Derived.Deep.Draws
import Derived.Deep.AppendLies
import Derived.Maps.AppendAt
import Derived.OwnWalk
import Derived.Laws.BytesArg
import Derived.Laws.MakeOwn
import Derived.Laws.OwnMore
import Derived.Deep.OwnRows
import Derived.Tactics
import Derived.Lib.ConvBytes
import Derived.Laws.Slices
import Derived.WalkKit
import Derived.KernelRfl
import Derived.RowKit3
import Derived.Deep.LoopGhost
import Derived.Deep.QuietTactic
import Derived.BigQuiet
import Derived.WideLaws
import Derived.Deep.DeepCutAuto
import Derived.Deep.CutBlock
import Derived.Deep.RegionHeld3
import Derived.Laws.Rows
import Derived.Lib.AppendStr
import Derived.ArgAppend
import Derived.Laws.IdiomCopy
import Derived.OrdersHeld
import Derived.Laws.BitsLemmas
import Derived.RowKit
import Derived.Test.YtobkfbkhcghaeaaDoorWWords
import Derived.Test.YtobkfbkhcghaeaaDoorWLast
import Derived.Test.YtobkfbkhcghaeaaDoorWTab
import Derived.Test.YtobkfbkhcghaeaaDoorWFour
import Derived.Test.YtobkfbkhcghaeaaDoorWQPut
import Derived.Test.YtobkfbkhcghaeaaDoorWApart
import Derived.Test.YtobkfbkhcghaeaaDoorWArr
import Derived.Test.YtobkfbkhcghaeaaDoorWZeros
import Derived.Test.YtobkfbkhcghaeaaDoorWFoot
import Derived.Test.YtobkfbkhcghaeaaDoorWKept
import Derived.Test.YtobkfbkhcghaeaaDoorWShare
import Derived.Test.YtobkfbkhcghaeaaDoorWN
import Derived.Test.YtobkfbkhcghaeaaDoorWFootNe
import Derived.Test.YtobkfbkhcghaeaaDoorWAt
import Derived.Test.YtobkfbkhcghaeaaDoorWEqStruct
import Derived.Test.YtobkfbkhcghaeaaDoorWRepsOne
import Derived.Test.YtobkfbkhcghaeaaDoorWInv
import Derived.Test.YtobkfbkhcghaeaaDoorWInvWords
import Derived.Test.YtobkfbkhcghaeaaDoorWGuard
import Derived.Test.YtobkfbkhcghaeaaDoorWNEv
import Derived.Test.YtobkfbkhcghaeaaDoorWMore
namespace Go.Proofs.YtobkfbkhcghaeaaDoor.PGd
open Go.RowKit Go.Proofs.YtobkfbkhcghaeaaDoorW.PrintWords Go.Proofs.YtobkfbkhcghaeaaDoorW.PrintLast Go.Proofs.YtobkfbkhcghaeaaDoorW.PrintMore
attribute [local go_sem] max2_int min2_int max_two min_two max_three min_three max_four min_four   -- for this text's walks alone
set_option linter.unusedVariables false
set_option linter.unusedSimpArgs false



def errW : Option Int → Value
 | none => .nilIface
 | some c => .iface 0 (.int .i64 c)
theorem errW_none : errW none = .nilIface := rfl
theorem errW_some (c : Int) : errW (some c) = .iface 0 (.int .i64 c) := rfl

-- the values' own types

end Go.Proofs.YtobkfbkhcghaeaaDoor.PGd
