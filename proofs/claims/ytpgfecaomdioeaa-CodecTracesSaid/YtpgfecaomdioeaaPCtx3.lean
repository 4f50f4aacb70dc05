-- functions and contracts as the kit's print.py writes them, the roots chosen in this session (wip/proots.sh)
import Derived.Test.YtpgfecaomdioeaaPCtx0
namespace Go.Proofs.Ytpgfecaomdioeaa.PCt
open Go.RowKit Go.Proofs.YtpgfecaomdioeaaW.PrintWords Go.Proofs.YtpgfecaomdioeaaW.PrintLast Go.Proofs.YtpgfecaomdioeaaW.PrintMore
attribute [local go_sem] max2_int min2_int max_two min_two max_three min_three max_four min_four   -- for this text's walks alone
set_option linter.unusedVariables false
set_option linter.unusedSimpArgs false

end Go.Proofs.Ytpgfecaomdioeaa.PCt
