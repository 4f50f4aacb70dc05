-- functions and contracts as the kit's print.py writes them, the roots chosen in this session (wip/proots.sh)
import Derived.Test.YtfgilibcekfibaaPSSx0
import Derived.Test.YtfgilibcekfibaaPSSx1
import Derived.Test.YtfgilibcekfibaaPSSx2
import Derived.Test.YtfgilibcekfibaaPSSx3
import Derived.Test.YtfgilibcekfibaaPSSx4
namespace Go.Proofs.Ytfgilibcekfibaa.PSS
open Go.RowKit Go.Proofs.YtfgilibcekfibaaW.PrintWords Go.Proofs.YtfgilibcekfibaaW.PrintLast Go.Proofs.YtfgilibcekfibaaW.PrintMore
attribute [local go_sem] max2_int min2_int max_two min_two max_three min_three max_four min_four   -- for this text's walks alone
set_option linter.unusedVariables false
set_option linter.unusedSimpArgs false

end Go.Proofs.Ytfgilibcekfibaa.PSS
