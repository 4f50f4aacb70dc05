/- rival.Greedy and rival.Beats, as the printed texts of the laws take them (law24). -/
-- slim
import Derived.Test.YtobkfbkhcghaeaaGreatDoorPRvx5
import Derived.Test.YtobkfbkhcghaeaaGreatDoorRvB
import Derived.Test.YtobkfbkhcghaeaaGreatDoorRvBeats
namespace Go.Proofs.YtobkfbkhcghaeaaGreatDoor.PRv
open Go.RowKit Go.Proofs.YtobkfbkhcghaeaaGreatDoor.PRv Go.Proofs.YtobkfbkhcghaeaaGreatDoorW.PrintWords Go.Proofs.YtobkfbkhcghaeaaGreatDoorW.PrintLast Go.Proofs.YtobkfbkhcghaeaaGreatDoorW.PrintMore 
set_option linter.unusedVariables false
set_option linter.unusedSimpArgs false

theorem rival_Greedy.calls (A0 : Option Addr) (c0 : Nat) (l0 : List S45) (r1 : List Int) (r2 : Int) (w : World) (hTb : Tab w) (hr0 : Kd.C k45 w A0 l0.length l0) (hc0 : l0.length ≤ c0) (h : rival_Greedy.f l0 = some (r1, r2)) :
  Calls Tryz.prog 10 #[.slice A0 l0.length c0] w fun e w' => ∃ v0_ : Value, e = .returned (.tuple #[v0_, .int .i64 r2]) ∧ Kd.R (Kd.int .i64) 3 w' w.heap.size (fun _ => True) v0_ r1 ∧ Below w.heap.size w w' := by
 unfold rival_Greedy.f at h
 split at h
 ·rename_i hh
  have hz : okN l0 := fun x hx => of_decide_eq_true (List.all_eq_true.1 hh.2 x hx)
  have h := Option.some.inj h
  cases hg : allJ l0
  ·rw [hg, if_neg (by simp)] at h
   injection h with h1 h2
   subst h1 h2
   exact greedy_bad A0 c0 l0 w hTb hr0 hc0 hh.1 hz hg
  ·rw [hg, if_pos rfl] at h
   injection h with h1 h2
   subst h1 h2
   exact greedy_good A0 c0 l0 w hTb hr0 hc0 hh.1 hz hg
 ·cases h

end Go.Proofs.YtobkfbkhcghaeaaGreatDoor.PRv
