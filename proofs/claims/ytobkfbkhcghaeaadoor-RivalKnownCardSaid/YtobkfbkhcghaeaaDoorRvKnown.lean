/- RivalKnown, by reckoning (law24). -/
import Derived.Test.YtobkfbkhcghaeaaDoorPRvx6
import Derived.Test.YtobkfbkhcghaeaaDoorPRvKnown
import Derived.Test.YtobkfbkhcghaeaaDoorRvAwake
namespace Go.Proofs.YtobkfbkhcghaeaaDoor.PRv
open Go.RowKit Go.Proofs.YtobkfbkhcghaeaaDoor.PRv Go.Proofs.YtobkfbkhcghaeaaDoorW.PrintWords Go.Proofs.YtobkfbkhcghaeaaDoorW.PrintLast Go.Proofs.YtobkfbkhcghaeaaDoorW.PrintMore 
set_option linter.unusedVariables false
set_option linter.unusedSimpArgs false

set_option maxRecDepth 100000
theorem zero_greedy : rival_Greedy.f (List.replicate 1 z35) = some ([], 1) := by
  unfold rival_Greedy.f
  rw [if_pos (by decide +kernel), if_neg (by decide +kernel)]
theorem known_l0 (k : Nat) (x7 x9 : Int) (x10 : List Jb) (b : Int) (hb : rival_Best.f k x10 = some (b, 2)) : tocsinlaw24_RivalKnown.l0 (k + 1) fourL 6 [0, 0, 0, 0] 1 1 x10 11 = (tocsinlaw24_ints.f k [0, 0, 0, 0] [0, 0, 0, 0]).bind fun t => if t = true then some true else some false := by
  unfold tocsinlaw24_RivalKnown.l0
  rw [if_neg (by decide), hb, Option.bind_some, if_pos (by decide), zero_greedy, Option.bind_some, if_pos rfl]
  rfl
theorem known_f : tocsinlaw24_RivalKnown.f 300 = some true := by
  unfold tocsinlaw24_RivalKnown.f
  rw [awake_le 300 (by decide), Option.bind_some, if_pos rfl, Option.bind_some, four_best, Option.bind_some, four_greedy, Option.bind_some]
  decide +kernel

end Go.Proofs.YtobkfbkhcghaeaaDoor.PRv
