-- slim: of the kit's words what these texts use
import Derived.Test.YtobkfbkhcghaeaaDoorWInv
import Derived.Test.YtobkfbkhcghaeaaDoorWFootNe
namespace Go.Proofs.YtobkfbkhcghaeaaDoorW.PrintWords
open Go.RowKit
end Go.Proofs.YtobkfbkhcghaeaaDoorW.PrintWords
namespace Go.Proofs.YtobkfbkhcghaeaaDoorW.PrintLast
section
variable {ops : Array Oper} {a : Act} {o og : Oper} {g : Nat} {t : Tmp} {u : Bool}
end
end Go.Proofs.YtobkfbkhcghaeaaDoorW.PrintLast
