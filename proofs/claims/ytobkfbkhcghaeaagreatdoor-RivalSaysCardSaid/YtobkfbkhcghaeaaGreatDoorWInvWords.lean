-- slim: of the kit's words what these texts use
import Derived.Test.YtobkfbkhcghaeaaGreatDoorWInv
import Derived.Test.YtobkfbkhcghaeaaGreatDoorWFootNe
namespace Go.Proofs.YtobkfbkhcghaeaaGreatDoorW.PrintWords
open Go.RowKit
end Go.Proofs.YtobkfbkhcghaeaaGreatDoorW.PrintWords
namespace Go.Proofs.YtobkfbkhcghaeaaGreatDoorW.PrintLast
section
variable {ops : Array Oper} {a : Act} {o og : Oper} {g : Nat} {t : Tmp} {u : Bool}
end
end Go.Proofs.YtobkfbkhcghaeaaGreatDoorW.PrintLast
