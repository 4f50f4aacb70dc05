-- functions and contracts as the kit's print.py writes them, the roots chosen in this session (wip/proots.sh)
-- slim
import Derived.Test.YtpgfecaomdioeaaDoorProg
import Derived.Below
import Derived.Deep.Draws
import Derived.Deep.AppendLies
import Derived.Maps.AppendAt
import Derived.OwnWalk
import Derived.Laws.BytesArg
import Derived.Laws.MakeOwn
import Derived.Laws.OwnMore
import Derived.Deep.OwnRows
import Derived.Tactics
import Derived.Lib.ConvBytes
import Derived.Laws.Slices
import Derived.WalkKit
import Derived.KernelRfl
import Derived.RowKit3
import Derived.Deep.LoopGhost
import Derived.Deep.QuietTactic
import Derived.BigQuiet
import Derived.WideLaws
import Derived.Deep.DeepCutAuto
import Derived.Deep.CutBlock
import Derived.Deep.RegionHeld3
import Derived.Laws.Rows
import Derived.Lib.AppendStr
import Derived.ArgAppend
import Derived.Laws.IdiomCopy
import Derived.OrdersHeld
import Derived.Laws.BitsLemmas
import Derived.RowKit
import Derived.Test.YtpgfecaomdioeaaDoorWWords
import Derived.Test.YtpgfecaomdioeaaDoorWLast
import Derived.Test.YtpgfecaomdioeaaDoorWTab
import Derived.Test.YtpgfecaomdioeaaDoorWFour
import Derived.Test.YtpgfecaomdioeaaDoorWQPut
import Derived.Test.YtpgfecaomdioeaaDoorWApart
import Derived.Test.YtpgfecaomdioeaaDoorWArr
import Derived.Test.YtpgfecaomdioeaaDoorWZeros
import Derived.Test.YtpgfecaomdioeaaDoorWFoot
import Derived.Test.YtpgfecaomdioeaaDoorWKept
import Derived.Test.YtpgfecaomdioeaaDoorWShare
import Derived.Test.YtpgfecaomdioeaaDoorWN
import Derived.Test.YtpgfecaomdioeaaDoorWFootNe
import Derived.Test.YtpgfecaomdioeaaDoorWAt
import Derived.Test.YtpgfecaomdioeaaDoorWEqStruct
import Derived.Test.YtpgfecaomdioeaaDoorWRepsOne
import Derived.Test.YtpgfecaomdioeaaDoorWInv
import Derived.Test.YtpgfecaomdioeaaDoorWInvWords
import Derived.Test.YtpgfecaomdioeaaDoorWGuard
import Derived.Test.YtpgfecaomdioeaaDoorWNEv
import Derived.Test.YtpgfecaomdioeaaDoorWMore
namespace Go.Proofs.YtpgfecaomdioeaaDoor.PGd
open Go.RowKit Go.Proofs.YtpgfecaomdioeaaDoorW.PrintWords Go.Proofs.YtpgfecaomdioeaaDoorW.PrintLast Go.Proofs.YtpgfecaomdioeaaDoorW.PrintMore
attribute [local go_sem] max2_int min2_int max_two min_two max_three min_three max_four min_four   -- for this text's walks alone
set_option linter.unusedVariables false
set_option linter.unusedSimpArgs false



def errW : Option Int → Value
 | none => .nilIface
 | some c => .iface 0 (.int .i64 c)
theorem errW_none : errW none = .nilIface := rfl
theorem errW_some (c : Int) : errW (some c) = .iface 0 (.int .i64 c) := rfl

-- the values' own types

end Go.Proofs.YtpgfecaomdioeaaDoor.PGd
