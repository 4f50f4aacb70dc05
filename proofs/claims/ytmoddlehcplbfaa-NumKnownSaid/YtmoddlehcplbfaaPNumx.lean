-- functions and contracts as the kit's print.py writes them, the roots chosen in this session (wip/proots.sh)
import Derived.Test.YtmoddlehcplbfaaPNumx0
import Derived.Test.YtmoddlehcplbfaaPNumx1
import Derived.Test.YtmoddlehcplbfaaPNumx2
import Derived.Test.YtmoddlehcplbfaaPNumx3
import Derived.Test.YtmoddlehcplbfaaPNumx4
import Derived.Test.YtmoddlehcplbfaaPNumx5
namespace Go.Proofs.Ytmoddlehcplbfaa.PNum
open Go.RowKit Go.Proofs.YtmoddlehcplbfaaW.PrintWords Go.Proofs.YtmoddlehcplbfaaW.PrintLast Go.Proofs.YtmoddlehcplbfaaW.PrintMore
attribute [local go_sem] max2_int min2_int max_two min_two max_three min_three max_four min_four   -- for this text's walks alone
set_option linter.unusedVariables false
set_option linter.unusedSimpArgs false

end Go.Proofs.Ytmoddlehcplbfaa.PNum
