-- functions and contracts as the kit's print.py writes them, the roots chosen in this session (wip/proots.sh)
import Derived.Test.YtmoddlehcplbfaaProg
import Derived.Below
import Derived.Deep.Draws
import Derived.Deep.AppendLies
import Derived.Maps.AppendAt
import Derived.OwnWalk
import Derived.Laws.BytesArg
import Derived.Laws.MakeOwn
import Derived.Laws.OwnMore
import Derived.Deep.OwnRows
import Derived.Tactics
import Derived.Lib.ConvBytes
import Derived.Laws.Slices
import Derived.WalkKit
import Derived.KernelRfl
import Derived.RowKit3
import Derived.Deep.LoopGhost
import Derived.Deep.QuietTactic
import Derived.BigQuiet
import Derived.WideLaws
import Derived.Deep.DeepCutAuto
import Derived.Deep.CutBlock
import Derived.Deep.RegionHeld3
import Derived.Laws.Rows
import Derived.Lib.AppendStr
import Derived.ArgAppend
import Derived.Laws.IdiomCopy
import Derived.OrdersHeld
import Derived.Laws.BitsLemmas
import Derived.RowKit
import Derived.Test.YtmoddlehcplbfaaWWords
import Derived.Test.YtmoddlehcplbfaaWLast
import Derived.Test.YtmoddlehcplbfaaWTab
import Derived.Test.YtmoddlehcplbfaaWFour
import Derived.Test.YtmoddlehcplbfaaWQPut
import Derived.Test.YtmoddlehcplbfaaWApart
import Derived.Test.YtmoddlehcplbfaaWArr
import Derived.Test.YtmoddlehcplbfaaWZeros
import Derived.Test.YtmoddlehcplbfaaWFoot
import Derived.Test.YtmoddlehcplbfaaWKept
import Derived.Test.YtmoddlehcplbfaaWShare
import Derived.Test.YtmoddlehcplbfaaWN
import Derived.Test.YtmoddlehcplbfaaWFootNe
import Derived.Test.YtmoddlehcplbfaaWAt
import Derived.Test.YtmoddlehcplbfaaWEqStruct
import Derived.Test.YtmoddlehcplbfaaWRepsOne
import Derived.Test.YtmoddlehcplbfaaWInv
import Derived.Test.YtmoddlehcplbfaaWInvWords
import Derived.Test.YtmoddlehcplbfaaWGuard
import Derived.Test.YtmoddlehcplbfaaWNEv
import Derived.Test.YtmoddlehcplbfaaWMore
namespace Go.Proofs.Ytmoddlehcplbfaa.PNum
open Go.RowKit Go.Proofs.YtmoddlehcplbfaaW.PrintWords Go.Proofs.YtmoddlehcplbfaaW.PrintLast Go.Proofs.YtmoddlehcplbfaaW.PrintMore
attribute [local go_sem] max2_int min2_int max_two min_two max_three min_three max_four min_four   -- for this text's walks alone
set_option linter.unusedVariables false
set_option linter.unusedSimpArgs false



def errW : Option Int → Value
  | none => .nilIface
  | some c => .iface 0 (.int .i64 c)
theorem errW_none : errW none = .nilIface := rfl
theorem errW_some (c : Int) : errW (some c) = .iface 0 (.int .i64 c) := rfl

-- the values' own types

end Go.Proofs.Ytmoddlehcplbfaa.PNum
