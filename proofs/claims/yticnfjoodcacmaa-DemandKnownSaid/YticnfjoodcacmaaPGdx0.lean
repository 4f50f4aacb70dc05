-- functions and contracts as the kit's print.py writes them, the roots chosen in this session (wip/proots.sh)
import Derived.Test.YticnfjoodcacmaaProg
import Derived.Below
import Derived.Deep.Draws
import Derived.Deep.AppendLies
import Derived.Maps.AppendAt
import Derived.OwnWalk
import Derived.Laws.BytesArg
import Derived.Laws.MakeOwn
import Derived.Laws.OwnMore
import Derived.Deep.OwnRows
import Derived.Tactics
import Derived.Lib.ConvBytes
import Derived.Laws.Slices
import Derived.WalkKit
import Derived.KernelRfl
import Derived.RowKit3
import Derived.Deep.LoopGhost
import Derived.Deep.QuietTactic
import Derived.BigQuiet
import Derived.WideLaws
import Derived.Deep.DeepCutAuto
import Derived.Deep.CutBlock
import Derived.Deep.RegionHeld3
import Derived.Laws.Rows
import Derived.Lib.AppendStr
import Derived.ArgAppend
import Derived.Laws.IdiomCopy
import Derived.OrdersHeld
import Derived.Laws.BitsLemmas
import Derived.RowKit
import Derived.Test.YticnfjoodcacmaaWWords
import Derived.Test.YticnfjoodcacmaaWLast
import Derived.Test.YticnfjoodcacmaaWTab
import Derived.Test.YticnfjoodcacmaaWFour
import Derived.Test.YticnfjoodcacmaaWQPut
import Derived.Test.YticnfjoodcacmaaWApart
import Derived.Test.YticnfjoodcacmaaWArr
import Derived.Test.YticnfjoodcacmaaWZeros
import Derived.Test.YticnfjoodcacmaaWFoot
import Derived.Test.YticnfjoodcacmaaWKept
import Derived.Test.YticnfjoodcacmaaWShare
import Derived.Test.YticnfjoodcacmaaWN
import Derived.Test.YticnfjoodcacmaaWFootNe
import Derived.Test.YticnfjoodcacmaaWAt
import Derived.Test.YticnfjoodcacmaaWEqStruct
import Derived.Test.YticnfjoodcacmaaWRepsOne
import Derived.Test.YticnfjoodcacmaaWInv
import Derived.Test.YticnfjoodcacmaaWInvWords
import Derived.Test.YticnfjoodcacmaaWGuard
import Derived.Test.YticnfjoodcacmaaWNEv
import Derived.Test.YticnfjoodcacmaaWMore
namespace Go.Proofs.Yticnfjoodcacmaa.PGd
open Go.RowKit Go.Proofs.YticnfjoodcacmaaW.PrintWords Go.Proofs.YticnfjoodcacmaaW.PrintLast Go.Proofs.YticnfjoodcacmaaW.PrintMore
attribute [local go_sem] max2_int min2_int max_two min_two max_three min_three max_four min_four   -- for this text's walks alone
set_option linter.unusedVariables false
set_option linter.unusedSimpArgs false



def errW : Option Int → Value
  | none => .nilIface
  | some c => .iface 0 (.int .i64 c)
theorem errW_none : errW none = .nilIface := rfl
theorem errW_some (c : Int) : errW (some c) = .iface 0 (.int .i64 c) := rfl

-- the values' own types

end Go.Proofs.Yticnfjoodcacmaa.PGd
