-- slim: of the kit's words what these texts use
import Derived.Test.YtobkfbkhcghaeaaGreatDoorWTab
/-! ### 56. Four, five, six operations that may come up next, in any order -/
namespace Go.Proofs.YtobkfbkhcghaeaaGreatDoorW.PrintLast
section
variable {P : Program} {ops : Array Oper} {Q : Exit → Act → World → Prop} {md : Region.Mode} {S : World → Prop} {ds : List Nat} {T : Bool × List (List Nat × List Nat)}
end
end Go.Proofs.YtobkfbkhcghaeaaGreatDoorW.PrintLast
