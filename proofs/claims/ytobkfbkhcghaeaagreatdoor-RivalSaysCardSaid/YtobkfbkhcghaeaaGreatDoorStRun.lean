/- edf.run at job.Charge, as the printed texts of edf.Meets take it. -/
-- slim
import Derived.Test.YtobkfbkhcghaeaaGreatDoorPRvx1
import Derived.Test.YtobkfbkhcghaeaaGreatDoorRvA
namespace Go.Proofs.YtobkfbkhcghaeaaGreatDoor.PRv
open Go.RowKit Go.Proofs.YtobkfbkhcghaeaaGreatDoor.PRv Go.Proofs.YtobkfbkhcghaeaaGreatDoorW.PrintWords Go.Proofs.YtobkfbkhcghaeaaGreatDoorW.PrintLast Go.Proofs.YtobkfbkhcghaeaaGreatDoorW.PrintMore 
set_option linter.unusedVariables false
set_option linter.unusedSimpArgs false

def chg (x : S45) : Int := if goodJ x = true then x.f3 + x.f6 else 0
theorem goodJ_all {x : S45} (h : goodJ x = true) : 0 ≤ x.f1 ∧ x.f1 < x.f2 ∧ x.f2 ≤ 10000 ∧ 1 ≤ x.f3 ∧ x.f3 ≤ 1000 ∧ 1 ≤ x.f4 ∧ x.f4 ≤ 1000 ∧ 0 ≤ x.f5 ∧ x.f5 ≤ 1000000 ∧ 0 ≤ x.f6 ∧ x.f6 ≤ 100 := by
 unfold goodJ goodJB at h
 rw [Bool.and_eq_true] at h
 exact of_decide_eq_true h.2
theorem chg_bd (x : S45) : 0 ≤ chg x ∧ chg x ≤ 100000 := by
 unfold chg
 split
 ·rename_i h
  have := goodJ_all h
  omega
 ·omega
theorem chg_c (x : S45) (hz : x.f0.size ≤ lim) (w : World) (hT : Tab w) : Calls Tryz.prog 62 #[.agg #[.string x.f0, .int .i64 x.f1, .int .i64 x.f2, .int .i64 x.f3, .int .i64 x.f4, .int .i64 x.f5, .int .i64 x.f6, .bool x.f7]] w fun e w' => e = .returned (.int .i64 (chg x)) ∧ Below w.heap.size w w' := by
 refine job_Charge.calls _ _ _ _ _ _ _ _ _ w hT ?_
 unfold job_Charge.f job_Good.f chg
 rw [if_pos hz, Option.bind_some, show goodJB x.f0 x.f1 x.f2 x.f3 x.f4 x.f5 x.f6 = goodJ x from rfl]
 split
 ·rename_i h
  have := goodJ_all h
  rw [show wrap64 (x.f3 + x.f6) = x.f3 + x.f6 by unfold wrap64; omega]
 ·rfl
def edfRunC.f (l0 : List S45) (a1 : Int) (_ : Unit) : Option (List Int) := if l0.length < 20 ∧ l0.all (fun x => decide (x.f0.size ≤ lim)) = true ∧ -9223372036854775808 ≤ a1 ∧ a1 ≤ 9223372036854775807 then some (runE l0 a1 chg) else none
theorem edfRunC.calls (A0 : Option Addr) (c0 : Nat) (l0 : List S45) (a1 : Int) (a2 : Unit) (r : List Int) (w : World) (hTb : Tab w) (hr0 : Kd.C k45 w A0 l0.length l0) (hc0 : l0.length ≤ c0) (h : edfRunC.f l0 a1 a2 = some r) :
  Calls Tryz.prog 50 #[.slice A0 l0.length c0, .int .i64 a1, .func (.func 62) #[] #[]] w fun e w' => ∃ v0_ : Value, e = .returned v0_ ∧ Kd.R (Kd.int .i64) 3 w' w.heap.size (fun _ => True) v0_ r ∧ Below w.heap.size w w' := by
 unfold edfRunC.f at h
 split at h
 ·rename_i hh
  obtain rfl := Option.some.inj h
  exact run_c 62 _ chg Tryz.func62 (by kernel_rfl) (by kernel_rfl) (fun x hz w hT => chg_c x hz w hT) chg_bd A0 c0 l0 a1 w hTb hr0 hc0 hh.1 (fun x hx => of_decide_eq_true (List.all_eq_true.1 hh.2.1 x hx)) hh.2.2
 ·cases h

end Go.Proofs.YtobkfbkhcghaeaaGreatDoor.PRv
