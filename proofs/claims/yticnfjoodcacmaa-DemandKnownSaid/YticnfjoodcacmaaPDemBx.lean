-- functions and contracts as the kit's print.py writes them, the roots chosen in this session (wip/proots.sh)
import Derived.Test.YticnfjoodcacmaaPDemBx0
import Derived.Test.YticnfjoodcacmaaPDemBx1
import Derived.Test.YticnfjoodcacmaaPDemBx2
import Derived.Test.YticnfjoodcacmaaPDemBx3
import Derived.Test.YticnfjoodcacmaaPDemBx4
import Derived.Test.YticnfjoodcacmaaPDemBx5
import Derived.Test.YticnfjoodcacmaaPDemBx6
import Derived.Test.YticnfjoodcacmaaPDemBx7
namespace Go.Proofs.Yticnfjoodcacmaa.PDemB
open Go.RowKit Go.Proofs.YticnfjoodcacmaaW.PrintWords Go.Proofs.YticnfjoodcacmaaW.PrintLast Go.Proofs.YticnfjoodcacmaaW.PrintMore
attribute [local go_sem] max2_int min2_int max_two min_two max_three min_three max_four min_four   -- for this text's walks alone
set_option linter.unusedVariables false
set_option linter.unusedSimpArgs false

end Go.Proofs.Yticnfjoodcacmaa.PDemB
