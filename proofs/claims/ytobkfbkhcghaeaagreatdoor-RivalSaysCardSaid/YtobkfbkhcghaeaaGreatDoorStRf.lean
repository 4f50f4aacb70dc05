/- Contracts that the print takes as given (law24): tocsinref8.GoodName over the listed tables, tocsinref1.CmpMul. -/
-- slim
import Derived.Test.YtobkfbkhcghaeaaGreatDoorPRvx0
import Derived.Test.YtobkfbkhcghaeaaGreatDoorStRv
import Derived.Test.YtobkfbkhcghaeaaGreatDoorRvT
namespace Go.Proofs.YtobkfbkhcghaeaaGreatDoor.PRv
open Go.RowKit Go.Proofs.YtobkfbkhcghaeaaGreatDoor.PRv Go.Proofs.YtobkfbkhcghaeaaGreatDoorW.PrintWords Go.Proofs.YtobkfbkhcghaeaaGreatDoorW.PrintLast Go.Proofs.YtobkfbkhcghaeaaGreatDoorW.PrintMore Go.Proofs.YtobkfbkhcghaeaaGreatDoor.PGd
set_option linter.unusedVariables false
set_option linter.unusedSimpArgs false

def tocsinref8_GoodName.f (a0 : ByteArray) : Option Bool := if a0.size ≤ lim then some (refName a0) else none
theorem tocsinref8_GoodName.calls (a0 : ByteArray) (r : Bool) (w : World) (hTb : Tab w) (h : tocsinref8_GoodName.f a0 = some r) :
  Calls Tryz.prog 64 #[.string a0] w fun e w' => e = .returned (.bool r) ∧ Below w.heap.size w w' := by
 unfold tocsinref8_GoodName.f at h
 split at h
 ·rename_i hz
  obtain rfl := Option.some.inj h
  exact goodname_c a0 w (by have : PGd.lim = 4398046511104 := rfl; unfold lim at hz; omega) hTb
 ·cases h
def tocsinref1_CmpMul.f (a b c d : Int) : Option Int :=
 if ((-9223372036854775808 ≤ a ∧ a ≤ 9223372036854775807) ∧ (-9223372036854775808 ≤ b ∧ b ≤ 9223372036854775807)) ∧ (-9223372036854775808 ≤ c ∧ c ≤ 9223372036854775807) ∧ (-9223372036854775808 ≤ d ∧ d ≤ 9223372036854775807) then some (if a * b < c * d then -1 else if a * b = c * d then 0 else 1) else none
theorem tocsinref1_CmpMul.calls (a0 : Int) (a1 : Int) (a2 : Int) (a3 : Int) (r : Int) (w : World) (h : tocsinref1_CmpMul.f a0 a1 a2 a3 = some r) :
  Calls Tryz.prog 35 #[.int .i64 a0, .int .i64 a1, .int .i64 a2, .int .i64 a3] w fun e w' => e = .returned (.int .i64 r) ∧ Below w.heap.size w w' := by
 unfold tocsinref1_CmpMul.f at h
 split at h
 ·rename_i g
  obtain rfl := Option.some.inj h
  exact PRt.rcmpmul_any a0 a1 a2 a3 w g.1.1 g.1.2 g.2.1 g.2.2
 ·cases h

end Go.Proofs.YtobkfbkhcghaeaaGreatDoor.PRv
