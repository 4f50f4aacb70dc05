/- law24's awake and RivalKnown, by reckoning. -/
import Derived.Test.YtobkfbkhcghaeaaDoorPRvx6
import Derived.Test.YtobkfbkhcghaeaaDoorStGr
namespace Go.Proofs.YtobkfbkhcghaeaaDoor.PRv
open Go.RowKit Go.Proofs.YtobkfbkhcghaeaaDoor.PRv Go.Proofs.YtobkfbkhcghaeaaDoorW.PrintWords Go.Proofs.YtobkfbkhcghaeaaDoorW.PrintLast Go.Proofs.YtobkfbkhcghaeaaDoorW.PrintMore 
set_option linter.unusedVariables false
set_option linter.unusedSimpArgs false

set_option maxRecDepth 100000
abbrev twoL : List Jb := [⟨⟨#[97]⟩, 0, 4, 4, 4, 3, 0, false⟩, ⟨⟨#[98]⟩, 0, 4, 4, 4, 4, 0, false⟩]
abbrev fourL : List Jb := [⟨⟨#[97]⟩, 0, 4, 4, 4, 5, 0, false⟩, ⟨⟨#[98]⟩, 0, 2, 2, 2, 3, 0, false⟩, ⟨⟨#[99]⟩, 2, 4, 2, 2, 3, 0, false⟩, ⟨⟨#[100]⟩, 0, 4, 1, 2, 99, 0, false⟩]
theorem two_all : allJ twoL = true := by decide +kernel
theorem four_all : allJ fourL = true := by decide +kernel
theorem two_kept : keptL twoL = [1] := by decide +kernel
theorem four_kept : keptL fourL = [0] := by decide +kernel
theorem two_greedy : rival_Greedy.f twoL = some ([1, 1, 1, 1], 0) := by
  unfold rival_Greedy.f
  rw [if_pos (by decide +kernel), if_pos two_all]
  unfold greedyT ksG
  rw [two_kept, show sortL [1] = [1] by unfold sortL; simp]
  decide +kernel
theorem four_greedy : rival_Greedy.f fourL = some ([0, 0, 0, 0], 0) := by
  unfold rival_Greedy.f
  rw [if_pos (by decide +kernel), if_pos four_all]
  unfold greedyT ksG
  rw [four_kept, show sortL [0] = [0] by unfold sortL; simp]
  decide +kernel
theorem two_best : rival_Best.f 100 twoL = some (4, 0) := by decide +kernel
theorem four_best : rival_Best.f 300 fourL = some (6, 0) := by decide +kernel
theorem awake_f : tocsinlaw24_awake.f 100 = some true := by
  unfold tocsinlaw24_awake.f
  rw [Option.bind_some, two_best, Option.bind_some, two_greedy, Option.bind_some]
  decide +kernel
theorem awake_le (k : Nat) (h : 100 ≤ k) : tocsinlaw24_awake.f k = some true := by
  obtain ⟨d, rfl⟩ : ∃ d, k = 100 + d := ⟨k - 100, by omega⟩
  clear h
  induction d with
  | zero => exact awake_f
  | succ d ih => exact tocsinlaw24_awake.mono (100 + d) _ ih

end Go.Proofs.YtobkfbkhcghaeaaDoor.PRv
