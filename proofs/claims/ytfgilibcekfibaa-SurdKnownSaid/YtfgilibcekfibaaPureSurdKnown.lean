/- What chapter 2 says of roots and of what may not be: one closed statement. -/
import Derived.Test.YtfgilibcekfibaaPSurdKnownx3
namespace Go.Proofs.Ytfgilibcekfibaa.Pure
open Go.RowKit Go.Proofs.Ytfgilibcekfibaa.PSurdKnown Go.Proofs.YtfgilibcekfibaaW.PrintWords Go.Proofs.YtfgilibcekfibaaW.PrintLast
set_option linter.unusedVariables false
set_option linter.unusedSimpArgs false

theorem SurdKnown : tocsinlaw2_SurdKnown.Pure := ⟨20, by decide +kernel⟩

end Go.Proofs.Ytfgilibcekfibaa.Pure
