-- functions and contracts as the kit's print.py writes them, the roots chosen in this session (wip/proots.sh)
import Derived.Test.YtfoafigpimhppaaDoorProg
import Derived.Below
import Derived.Deep.Draws
import Derived.Deep.AppendLies
import Derived.Maps.AppendAt
import Derived.OwnWalk
import Derived.Laws.BytesArg
import Derived.Laws.MakeOwn
import Derived.Laws.OwnMore
import Derived.Deep.OwnRows
import Derived.Tactics
import Derived.Lib.ConvBytes
import Derived.Laws.Slices
import Derived.WalkKit
import Derived.KernelRfl
import Derived.RowKit3
import Derived.Deep.LoopGhost
import Derived.Deep.QuietTactic
import Derived.BigQuiet
import Derived.WideLaws
import Derived.Deep.DeepCutAuto
import Derived.Deep.CutBlock
import Derived.Deep.RegionHeld3
import Derived.Laws.Rows
import Derived.Lib.AppendStr
import Derived.ArgAppend
import Derived.Laws.IdiomCopy
import Derived.OrdersHeld
import Derived.Laws.BitsLemmas
import Derived.RowKit
import Derived.Test.YtfoafigpimhppaaDoorWWords
import Derived.Test.YtfoafigpimhppaaDoorWLast
import Derived.Test.YtfoafigpimhppaaDoorWTab
import Derived.Test.YtfoafigpimhppaaDoorWFour
import Derived.Test.YtfoafigpimhppaaDoorWQPut
import Derived.Test.YtfoafigpimhppaaDoorWApart
import Derived.Test.YtfoafigpimhppaaDoorWArr
import Derived.Test.YtfoafigpimhppaaDoorWZeros
import Derived.Test.YtfoafigpimhppaaDoorWFoot
import Derived.Test.YtfoafigpimhppaaDoorWKept
import Derived.Test.YtfoafigpimhppaaDoorWShare
import Derived.Test.YtfoafigpimhppaaDoorWN
import Derived.Test.YtfoafigpimhppaaDoorWFootNe
import Derived.Test.YtfoafigpimhppaaDoorWAt
import Derived.Test.YtfoafigpimhppaaDoorWEqStruct
import Derived.Test.YtfoafigpimhppaaDoorWRepsOne
import Derived.Test.YtfoafigpimhppaaDoorWInv
import Derived.Test.YtfoafigpimhppaaDoorWInvWords
import Derived.Test.YtfoafigpimhppaaDoorWGuard
import Derived.Test.YtfoafigpimhppaaDoorWNEv
import Derived.Test.YtfoafigpimhppaaDoorWMore
namespace Go.Proofs.YtfoafigpimhppaaDoor.PNm
open Go.RowKit Go.Proofs.YtfoafigpimhppaaDoorW.PrintWords Go.Proofs.YtfoafigpimhppaaDoorW.PrintLast Go.Proofs.YtfoafigpimhppaaDoorW.PrintMore
attribute [local go_sem] max2_int min2_int max_two min_two max_three min_three max_four min_four   -- for this text's walks alone
set_option linter.unusedVariables false
set_option linter.unusedSimpArgs false



def errW : Option Int → Value
  | none => .nilIface
  | some c => .iface 0 (.int .i64 c)
theorem errW_none : errW none = .nilIface := rfl
theorem errW_some (c : Int) : errW (some c) = .iface 0 (.int .i64 c) := rfl

theorem info5 : (Tryd.prog.info? 5).map (fun i => (i.zero, i.size, i.bytes)) = some (some (.int .u8 0), 1, 1) := by kernel_rfl
theorem info9 : (Tryd.prog.info? 9).map (fun i => (i.zero, i.size, i.bytes)) = some (some (.string ⟨#[]⟩), 1, 16) := by kernel_rfl
-- the values' own types

end Go.Proofs.YtfoafigpimhppaaDoor.PNm
