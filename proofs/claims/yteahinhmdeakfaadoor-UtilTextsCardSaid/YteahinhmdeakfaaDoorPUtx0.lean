-- functions and contracts as the kit's print.py writes them, the roots chosen in this session (wip/proots.sh)
import Derived.Test.YteahinhmdeakfaaDoorProg
import Derived.Below
import Derived.Deep.Draws
import Derived.Deep.AppendLies
import Derived.Maps.AppendAt
import Derived.OwnWalk
import Derived.Laws.BytesArg
import Derived.Laws.MakeOwn
import Derived.Laws.OwnMore
import Derived.Deep.OwnRows
import Derived.Tactics
import Derived.Lib.ConvBytes
import Derived.Laws.Slices
import Derived.WalkKit
import Derived.KernelRfl
import Derived.RowKit3
import Derived.Deep.LoopGhost
import Derived.Deep.QuietTactic
import Derived.BigQuiet
import Derived.WideLaws
import Derived.Deep.DeepCutAuto
import Derived.Deep.CutBlock
import Derived.Deep.RegionHeld3
import Derived.Laws.Rows
import Derived.Lib.AppendStr
import Derived.ArgAppend
import Derived.Laws.IdiomCopy
import Derived.OrdersHeld
import Derived.Laws.BitsLemmas
import Derived.RowKit
import Derived.Test.YteahinhmdeakfaaDoorWWords
import Derived.Test.YteahinhmdeakfaaDoorWLast
import Derived.Test.YteahinhmdeakfaaDoorWTab
import Derived.Test.YteahinhmdeakfaaDoorWFour
import Derived.Test.YteahinhmdeakfaaDoorWQPut
import Derived.Test.YteahinhmdeakfaaDoorWApart
import Derived.Test.YteahinhmdeakfaaDoorWArr
import Derived.Test.YteahinhmdeakfaaDoorWZeros
import Derived.Test.YteahinhmdeakfaaDoorWFoot
import Derived.Test.YteahinhmdeakfaaDoorWKept
import Derived.Test.YteahinhmdeakfaaDoorWShare
import Derived.Test.YteahinhmdeakfaaDoorWN
import Derived.Test.YteahinhmdeakfaaDoorWFootNe
import Derived.Test.YteahinhmdeakfaaDoorWAt
import Derived.Test.YteahinhmdeakfaaDoorWEqStruct
import Derived.Test.YteahinhmdeakfaaDoorWRepsOne
import Derived.Test.YteahinhmdeakfaaDoorWInv
import Derived.Test.YteahinhmdeakfaaDoorWInvWords
import Derived.Test.YteahinhmdeakfaaDoorWGuard
import Derived.Test.YteahinhmdeakfaaDoorWNEv
import Derived.Test.YteahinhmdeakfaaDoorWMore
namespace Go.Proofs.YteahinhmdeakfaaDoor.PUt
open Go.RowKit Go.Proofs.YteahinhmdeakfaaDoorW.PrintWords Go.Proofs.YteahinhmdeakfaaDoorW.PrintLast Go.Proofs.YteahinhmdeakfaaDoorW.PrintMore
attribute [local go_sem] max2_int min2_int max_two min_two max_three min_three max_four min_four   -- for this text's walks alone
set_option linter.unusedVariables false
set_option linter.unusedSimpArgs false



def errW : Option Int → Value
  | none => .nilIface
  | some c => .iface 0 (.int .i64 c)
theorem errW_none : errW none = .nilIface := rfl
theorem errW_some (c : Int) : errW (some c) = .iface 0 (.int .i64 c) := rfl

theorem info2 : (Tryd.prog.info? 2).map (fun i => (i.zero, i.size, i.bytes)) = some (some (.int .i64 0), 1, 8) := by kernel_rfl
theorem info5 : (Tryd.prog.info? 5).map (fun i => (i.zero, i.size, i.bytes)) = some (some (.int .u8 0), 1, 1) := by kernel_rfl
-- the values' own types

end Go.Proofs.YteahinhmdeakfaaDoor.PUt
