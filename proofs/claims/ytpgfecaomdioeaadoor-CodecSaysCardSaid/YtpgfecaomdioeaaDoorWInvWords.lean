-- slim: of the kit's words what these texts use
import Derived.Test.YtpgfecaomdioeaaDoorWInv
import Derived.Test.YtpgfecaomdioeaaDoorWFootNe
namespace Go.Proofs.YtpgfecaomdioeaaDoorW.PrintWords
open Go.RowKit
end Go.Proofs.YtpgfecaomdioeaaDoorW.PrintWords
namespace Go.Proofs.YtpgfecaomdioeaaDoorW.PrintLast
section
variable {ops : Array Oper} {a : Act} {o og : Oper} {g : Nat} {t : Tmp} {u : Bool}
end
end Go.Proofs.YtpgfecaomdioeaaDoorW.PrintLast
