-- functions and contracts as the kit's print.py writes them, the roots chosen in this session (wip/proots.sh)
import Derived.Test.YteahinhmdeakfaaDoorPGdx0
import Derived.Test.YteahinhmdeakfaaDoorPGdx1
namespace Go.Proofs.YteahinhmdeakfaaDoor.PGd
open Go.RowKit Go.Proofs.YteahinhmdeakfaaDoorW.PrintWords Go.Proofs.YteahinhmdeakfaaDoorW.PrintLast Go.Proofs.YteahinhmdeakfaaDoorW.PrintMore
attribute [local go_sem] max2_int min2_int max_two min_two max_three min_three max_four min_four   -- for this text's walks alone
set_option linter.unusedVariables false
set_option linter.unusedSimpArgs false

end Go.Proofs.YteahinhmdeakfaaDoor.PGd
