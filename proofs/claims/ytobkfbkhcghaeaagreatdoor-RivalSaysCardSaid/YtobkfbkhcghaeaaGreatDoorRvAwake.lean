/- law24's awake (.ZD), by the plain laws. -/
import Derived.Test.YtobkfbkhcghaeaaGreatDoorPRvx6
import Derived.Test.YtobkfbkhcghaeaaGreatDoorRvD
namespace Go.Proofs.YtobkfbkhcghaeaaGreatDoor.PRv
open Go.RowKit Go.Proofs.YtobkfbkhcghaeaaGreatDoor.PRv Go.Proofs.YtobkfbkhcghaeaaGreatDoorW.PrintWords Go.Proofs.YtobkfbkhcghaeaaGreatDoorW.PrintLast Go.Proofs.YtobkfbkhcghaeaaGreatDoorW.PrintMore 
set_option linter.unusedVariables false
set_option linter.unusedSimpArgs false

set_option maxRecDepth 100000
abbrev twoL : List Jb := [⟨⟨#[97]⟩, 0, 4, 4, 4, 3, 0, false⟩, ⟨⟨#[98]⟩, 0, 4, 4, 4, 4, 0, false⟩]
theorem two_all : allJ twoL = true := by decide +kernel
theorem two_kept : keptL twoL = [1] := by decide +kernel
theorem two_greedy : rival_Greedy.f twoL = some ([1, 1, 1, 1], 0) := by
  unfold rival_Greedy.f
  rw [if_pos (by decide +kernel), if_pos two_all]
  unfold greedyT ksG
  rw [two_kept, show sortL [1] = [1] by unfold sortL; simp]
  decide +kernel
theorem two_ok : okN twoL := by unfold okN; decide +kernel
theorem two_best : bestJ twoL = 4 := by decide +kernel
theorem two_good : goodT twoL [1, 1, 1, 1] = true := by decide +kernel
theorem two_val : valJ twoL [1, 1, 1, 1] = 4 := by decide +kernel
theorem awake_le (k : Nat) (h : 20000 ≤ k) : tocsinlaw24_awake.f k = some true := by
  unfold tocsinlaw24_awake.f
  rw [Option.bind_some, Best_is two_ok two_all (by decide) k (by omega), two_best, Option.bind_some, two_greedy, Option.bind_some, worth_is _ two_ok (by decide) _ (by decide) k (by omega), two_good, Option.bind_some, if_pos rfl, two_val]
  simp only [ints_is [1, 1, 1, 1] (by decide) k (by simp; omega)]
  rfl

end Go.Proofs.YtobkfbkhcghaeaaGreatDoor.PRv
