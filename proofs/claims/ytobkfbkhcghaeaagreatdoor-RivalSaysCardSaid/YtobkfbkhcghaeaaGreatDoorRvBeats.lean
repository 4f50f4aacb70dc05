/- rival.Beats, in print's form. -/
-- slim
import Derived.Test.YtobkfbkhcghaeaaGreatDoorPRvx5
import Derived.Test.YtobkfbkhcghaeaaGreatDoorRvS
import Derived.Test.YtobkfbkhcghaeaaGreatDoorRvB
namespace Go.Proofs.YtobkfbkhcghaeaaGreatDoor.PRv
open Go.RowKit Go.Proofs.YtobkfbkhcghaeaaGreatDoor.PRv Go.Proofs.YtobkfbkhcghaeaaGreatDoorW.PrintWords Go.Proofs.YtobkfbkhcghaeaaGreatDoorW.PrintLast Go.Proofs.YtobkfbkhcghaeaaGreatDoorW.PrintMore 
set_option linter.unusedVariables false
set_option linter.unusedSimpArgs false

set_option maxHeartbeats 4000000
set_option maxRecDepth 100000
def iB (n a b : Int) : Bool := decide (a ≤ n) && decide (n ≤ b)
theorem in_c (n a b : Int) (w : World) : Calls Tryz.prog 33 #[.int .i64 n, .int .i64 a, .int .i64 b] w fun e w' => e = .returned (.bool (iB n a b)) ∧ w' = w := by
 unfold iB
 by_cases h1 : a ≤ n
 ·have e1 : decide (a ≤ n) = true := decide_eq_true h1
  rw [e1, Bool.true_and]
  clear h1
  by_cases h2 : n ≤ b
  ·have e2 : decide (n ≤ b) = true := decide_eq_true h2
   rw [e2]
   clear h2
   go_enter Tryz.func33, Tryz.ntmps33
   go_wp2
   go_ret
   exact ⟨rfl, rfl⟩
  ·have e2 : decide (n ≤ b) = false := decide_eq_false h2
   rw [e2]
   clear h2
   go_enter Tryz.func33, Tryz.ntmps33
   go_wp2
   go_ret
   exact ⟨rfl, rfl⟩
 ·have e1 : decide (a ≤ n) = false := decide_eq_false h1
  rw [e1, Bool.false_and]
  clear h1
  go_enter Tryz.func33, Tryz.ntmps33
  go_wp2
  go_ret
  exact ⟨rfl, rfl⟩
def beatsB (p q v w : Int) : Bool := iB v 0 1000000000 && (iB w 0 1000000000 && (iB p 0 1000000 && (iB q 1 1000000 && !decide (PSb.boundP w v p q))))
def rival_Beats.f (p q v w : Int) : Option Bool := some (beatsB p q v w)
theorem rival_Beats.calls (p q v w : Int) (r : Bool) (W : World) (h : rival_Beats.f p q v w = some r) : Calls Tryz.prog 16 #[.int .i64 p, .int .i64 q, .int .i64 v, .int .i64 w] W fun e w' => e = .returned (.bool r) ∧ Below W.heap.size W w' := by
 obtain rfl := Option.some.inj h
 clear h
 unfold beatsB
 have C1 := Aside0.mk (fun (W : World) => in_c v 0 1000000000 W)
 have C2 := Aside0.mk (fun (W : World) => in_c w 0 1000000000 W)
 have C3 := Aside0.mk (fun (W : World) => in_c p 0 1000000 W)
 have C4 := Aside0.mk (fun (W : World) => in_c q 1 1000000 W)
 have C5 := Aside0.mk (fun (W : World) => PSb.bound_c w v p q W)
 generalize iB v 0 1000000000 = b1 at *
 generalize iB w 0 1000000000 = b2 at *
 generalize iB p 0 1000000 = b3 at *
 generalize iB q 1 1000000 = b4 at *
 generalize decide (PSb.boundP w v p q) = b5 at *
 have HB := Aside0.mk (Below.refl W.heap.size W)
 cases b1
 ·go_enter Tryz.func16, Tryz.ntmps16
  go_wp2_with (go_at_call 33; (with_reducible refine (C1.out _).mono ?_); rintro e w' ⟨rfl, rfl⟩)
  go_ret
  exact ⟨rfl, HB.out⟩
 cases b2
 ·go_enter Tryz.func16, Tryz.ntmps16
  go_wp2_with (first | (go_at_call 33; first | ((with_reducible refine (C1.out _).mono ?_); rintro e w' ⟨rfl, rfl⟩) | ((with_reducible refine (C2.out _).mono ?_); rintro e w' ⟨rfl, rfl⟩)))
  go_ret
  exact ⟨rfl, HB.out⟩
 cases b3
 ·go_enter Tryz.func16, Tryz.ntmps16
  go_wp2_with (first | (go_at_call 33; first | ((with_reducible refine (C1.out _).mono ?_); rintro e w' ⟨rfl, rfl⟩) | ((with_reducible refine (C2.out _).mono ?_); rintro e w' ⟨rfl, rfl⟩) | ((with_reducible refine (C3.out _).mono ?_); rintro e w' ⟨rfl, rfl⟩)))
  go_ret
  exact ⟨rfl, HB.out⟩
 cases b4
 ·go_enter Tryz.func16, Tryz.ntmps16
  go_wp2_with (first | (go_at_call 33; first | ((with_reducible refine (C1.out _).mono ?_); rintro e w' ⟨rfl, rfl⟩) | ((with_reducible refine (C2.out _).mono ?_); rintro e w' ⟨rfl, rfl⟩) | ((with_reducible refine (C3.out _).mono ?_); rintro e w' ⟨rfl, rfl⟩) | ((with_reducible refine (C4.out _).mono ?_); rintro e w' ⟨rfl, rfl⟩)))
  go_ret
  exact ⟨rfl, HB.out⟩
 ·go_enter Tryz.func16, Tryz.ntmps16
  go_wp2_with (first | (go_at_call 33; first | ((with_reducible refine (C1.out _).mono ?_); rintro e w' ⟨rfl, rfl⟩) | ((with_reducible refine (C2.out _).mono ?_); rintro e w' ⟨rfl, rfl⟩) | ((with_reducible refine (C3.out _).mono ?_); rintro e w' ⟨rfl, rfl⟩) | ((with_reducible refine (C4.out _).mono ?_); rintro e w' ⟨rfl, rfl⟩)) | (go_at_call 34; (with_reducible refine (C5.out _).mono ?_); rintro e w' ⟨rfl, hb⟩; have HB2 := Aside0.mk hb; clear hb))
  go_ret
  refine ⟨?_, HB2.out⟩
  cases b5 <;> rfl

end Go.Proofs.YtobkfbkhcghaeaaGreatDoor.PRv
