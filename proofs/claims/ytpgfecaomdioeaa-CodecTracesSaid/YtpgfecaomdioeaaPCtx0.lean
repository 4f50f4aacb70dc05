-- functions and contracts as the kit's print.py writes them, the roots chosen in this session (wip/proots.sh)
import Derived.Test.YtpgfecaomdioeaaProg
import Derived.Below
import Derived.Deep.Draws
import Derived.Deep.AppendLies
import Derived.Maps.AppendAt
import Derived.OwnWalk
import Derived.Laws.BytesArg
import Derived.Laws.MakeOwn
import Derived.Laws.OwnMore
import Derived.Deep.OwnRows
import Derived.Tactics
import Derived.Lib.ConvBytes
import Derived.Laws.Slices
import Derived.WalkKit
import Derived.KernelRfl
import Derived.RowKit3
import Derived.Deep.LoopGhost
import Derived.Deep.QuietTactic
import Derived.BigQuiet
import Derived.WideLaws
import Derived.Deep.DeepCutAuto
import Derived.Deep.CutBlock
import Derived.Deep.RegionHeld3
import Derived.Laws.Rows
import Derived.Lib.AppendStr
import Derived.ArgAppend
import Derived.Laws.IdiomCopy
import Derived.OrdersHeld
import Derived.Laws.BitsLemmas
import Derived.RowKit
import Derived.Test.YtpgfecaomdioeaaWWords
import Derived.Test.YtpgfecaomdioeaaWLast
import Derived.Test.YtpgfecaomdioeaaWTab
import Derived.Test.YtpgfecaomdioeaaWFour
import Derived.Test.YtpgfecaomdioeaaWQPut
import Derived.Test.YtpgfecaomdioeaaWApart
import Derived.Test.YtpgfecaomdioeaaWArr
import Derived.Test.YtpgfecaomdioeaaWZeros
import Derived.Test.YtpgfecaomdioeaaWFoot
import Derived.Test.YtpgfecaomdioeaaWKept
import Derived.Test.YtpgfecaomdioeaaWShare
import Derived.Test.YtpgfecaomdioeaaWN
import Derived.Test.YtpgfecaomdioeaaWFootNe
import Derived.Test.YtpgfecaomdioeaaWAt
import Derived.Test.YtpgfecaomdioeaaWEqStruct
import Derived.Test.YtpgfecaomdioeaaWRepsOne
import Derived.Test.YtpgfecaomdioeaaWInv
import Derived.Test.YtpgfecaomdioeaaWInvWords
import Derived.Test.YtpgfecaomdioeaaWGuard
import Derived.Test.YtpgfecaomdioeaaWNEv
import Derived.Test.YtpgfecaomdioeaaWMore
namespace Go.Proofs.Ytpgfecaomdioeaa.PCt
open Go.RowKit Go.Proofs.YtpgfecaomdioeaaW.PrintWords Go.Proofs.YtpgfecaomdioeaaW.PrintLast Go.Proofs.YtpgfecaomdioeaaW.PrintMore
attribute [local go_sem] max2_int min2_int max_two min_two max_three min_three max_four min_four   -- for this text's walks alone
set_option linter.unusedVariables false
set_option linter.unusedSimpArgs false



def errW : Option Int → Value
  | none => .nilIface
  | some c => .iface 0 (.int .i64 c)
theorem errW_none : errW none = .nilIface := rfl
theorem errW_some (c : Int) : errW (some c) = .iface 0 (.int .i64 c) := rfl

theorem info5 : (Try.prog.info? 5).map (fun i => (i.zero, i.size, i.bytes)) = some (some (.int .u8 0), 1, 1) := by kernel_rfl
-- the values' own types

end Go.Proofs.Ytpgfecaomdioeaa.PCt
