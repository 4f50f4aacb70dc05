-- functions and contracts as the kit's print.py writes them, the roots chosen in this session (wip/proots.sh)
import Derived.Test.YtbfjnlnnjhfamaaPPox0
import Derived.Test.YtbfjnlnnjhfamaaPPox1
import Derived.Test.YtbfjnlnnjhfamaaPPox2
import Derived.Test.YtbfjnlnnjhfamaaPPox3
import Derived.Test.YtbfjnlnnjhfamaaPPox4
import Derived.Test.YtbfjnlnnjhfamaaPPox5
import Derived.Test.YtbfjnlnnjhfamaaPPox6
namespace Go.Proofs.Ytbfjnlnnjhfamaa.PPo
open Go.RowKit Go.Proofs.YtbfjnlnnjhfamaaW.PrintWords Go.Proofs.YtbfjnlnnjhfamaaW.PrintLast Go.Proofs.YtbfjnlnnjhfamaaW.PrintMore
attribute [local go_sem] max2_int min2_int max_two min_two max_three min_three max_four min_four   -- for this text's walks alone
set_option linter.unusedVariables false
set_option linter.unusedSimpArgs false

end Go.Proofs.Ytbfjnlnnjhfamaa.PPo
