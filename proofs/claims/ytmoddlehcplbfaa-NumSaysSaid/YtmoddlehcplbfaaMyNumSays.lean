/- Any two numbers added, taken away, multiplied, divided and compared by their products are as the document's own answer says: for every four 64-bit numbers. -/
import Derived.Test.YtmoddlehcplbfaaPNumx
import Derived.Test.YtmoddlehcplbfaaNumKit
import Derived.Test.YtmoddlehcplbfaaRows
import Derived.WalkKit
import Derived.ProofKit
import Derived.OpenShut
import Derived.ShutString
import Derived.ChangeOld
import Derived.Below
import Derived.SizedLaws
import Derived.Carry
import Derived.Lib.SmallJoins
namespace Go.Proofs.Ytmoddlehcplbfaa.Pure
open Go.RowKit Go.Proofs.Ytmoddlehcplbfaa.PNum Go.Proofs.YtmoddlehcplbfaaW.PrintWords Go.Proofs.YtmoddlehcplbfaaW.PrintLast Go.Proofs.YtmoddlehcplbfaaW.PrintMore 
set_option linter.unusedVariables false
set_option linter.unusedSimpArgs false

theorem rcmp_ne (n : Bool) (h1 l1 h2 l2 : Int) (W : World) :
    Calls Try.prog 36 #[.agg #[.bool n, .int .u64 h1, .int .u64 l1], .agg #[.bool (!n), .int .u64 h2, .int .u64 l2]] W fun e w' => e = .returned (.int .i64 (if n = true then -1 else 1)) ∧ Below W.heap.size W w' := by
  have HB := Aside0.mk (Below.refl W.heap.size W)
  cases n
  · go_enter Try.func36, Try.ntmps36
    go_wp2
    go_ret
    exact ⟨rfl, (by repeat (first | (with_reducible first | exact HB.out | apply below_alloc | apply pw_below_drewN | apply below_drew1) | exact HB.out))⟩
  · go_enter Try.func36, Try.ntmps36
    go_wp2
    go_ret
    exact ⟨rfl, (by repeat (first | (with_reducible first | exact HB.out | apply below_alloc | apply pw_below_drewN | apply below_drew1) | exact HB.out))⟩
theorem rcmp_lt (n : Bool) (h1 l1 h2 l2 : Int) (W : World) (h : h1 < h2 ∨ h1 = h2 ∧ l1 < l2) :
    Calls Try.prog 36 #[.agg #[.bool n, .int .u64 h1, .int .u64 l1], .agg #[.bool n, .int .u64 h2, .int .u64 l2]] W fun e w' => e = .returned (.int .i64 (if n = true then 1 else -1)) ∧ Below W.heap.size W w' := by
  have HB := Aside0.mk (Below.refl W.heap.size W)
  rcases h with h | ⟨rfl, h⟩ <;> cases n
  · go_enter Try.func36, Try.ntmps36
    go_wp2
    go_ret
    exact ⟨rfl, (by repeat (first | (with_reducible first | exact HB.out | apply below_alloc | apply pw_below_drewN | apply below_drew1) | exact HB.out))⟩
  · go_enter Try.func36, Try.ntmps36
    go_wp2
    go_ret
    exact ⟨rfl, (by repeat (first | (with_reducible first | exact HB.out | apply below_alloc | apply pw_below_drewN | apply below_drew1) | exact HB.out))⟩
  · go_enter Try.func36, Try.ntmps36
    go_wp2
    go_ret
    exact ⟨rfl, (by repeat (first | (with_reducible first | exact HB.out | apply below_alloc | apply pw_below_drewN | apply below_drew1) | exact HB.out))⟩
  · go_enter Try.func36, Try.ntmps36
    go_wp2
    go_ret
    exact ⟨rfl, (by repeat (first | (with_reducible first | exact HB.out | apply below_alloc | apply pw_below_drewN | apply below_drew1) | exact HB.out))⟩
theorem rcmp_eq (n : Bool) (h1 l1 : Int) (W : World) :
    Calls Try.prog 36 #[.agg #[.bool n, .int .u64 h1, .int .u64 l1], .agg #[.bool n, .int .u64 h1, .int .u64 l1]] W fun e w' => e = .returned (.int .i64 0) ∧ Below W.heap.size W w' := by
  have HB := Aside0.mk (Below.refl W.heap.size W)
  cases n
  · go_enter Try.func36, Try.ntmps36
    go_wp2
    go_ret
    exact ⟨rfl, (by repeat (first | (with_reducible first | exact HB.out | apply below_alloc | apply pw_below_drewN | apply below_drew1) | exact HB.out))⟩
  · go_enter Try.func36, Try.ntmps36
    go_wp2
    go_ret
    exact ⟨rfl, (by repeat (first | (with_reducible first | exact HB.out | apply below_alloc | apply pw_below_drewN | apply below_drew1) | exact HB.out))⟩
theorem rcmp_gt (n : Bool) (h1 l1 h2 l2 : Int) (W : World) (h : h2 < h1 ∨ h1 = h2 ∧ l2 < l1) :
    Calls Try.prog 36 #[.agg #[.bool n, .int .u64 h1, .int .u64 l1], .agg #[.bool n, .int .u64 h2, .int .u64 l2]] W fun e w' => e = .returned (.int .i64 (if n = true then -1 else 1)) ∧ Below W.heap.size W w' := by
  have HB := Aside0.mk (Below.refl W.heap.size W)
  rcases h with h | ⟨rfl, h⟩
  · have hne : (h1 == h2) = false := beq_eq_false_iff_ne.2 (by omega)
    cases n
    · go_enter Try.func36, Try.ntmps36
      go_wp2
      go_ret
      exact ⟨rfl, (by repeat (first | (with_reducible first | exact HB.out | apply below_alloc | apply pw_below_drewN | apply below_drew1) | exact HB.out))⟩
    · go_enter Try.func36, Try.ntmps36
      go_wp2
      go_ret
      exact ⟨rfl, (by repeat (first | (with_reducible first | exact HB.out | apply below_alloc | apply pw_below_drewN | apply below_drew1) | exact HB.out))⟩
  · have hlt : ¬ l1 < l2 := by omega
    cases n
    · go_enter Try.func36, Try.ntmps36
      go_wp2
      go_ret
      exact ⟨rfl, (by repeat (first | (with_reducible first | exact HB.out | apply below_alloc | apply pw_below_drewN | apply below_drew1) | exact HB.out))⟩
    · go_enter Try.func36, Try.ntmps36
      go_wp2
      go_ret
      exact ⟨rfl, (by repeat (first | (with_reducible first | exact HB.out | apply below_alloc | apply pw_below_drewN | apply below_drew1) | exact HB.out))⟩
theorem rcmp_any (x y : Int) (W : World) :
    Calls Try.prog 36 #[.agg #[.bool (decide (x < 0)), .int .u64 ((x.natAbs : Int) / 18446744073709551616), .int .u64 ((x.natAbs : Int) % 18446744073709551616)], .agg #[.bool (decide (y < 0)), .int .u64 ((y.natAbs : Int) / 18446744073709551616), .int .u64 ((y.natAbs : Int) % 18446744073709551616)]] W fun e w' => e = .returned (.int .i64 (cmpI x y)) ∧ Below W.heap.size W w' := by
  by_cases hx : x < 0 <;> by_cases hy : y < 0
  · rw [decide_eq_true hx, decide_eq_true hy]
    rcases Int.lt_trichotomy x y with h | h | h
    · rw [show cmpI x y = if true = true then -1 else 1 by unfold cmpI; rw [if_pos h]; rfl]
      exact rcmp_gt true _ _ _ _ W (by omega)
    · subst h
      rw [show cmpI x x = 0 by unfold cmpI; rw [if_neg (by omega), if_pos rfl]]
      exact rcmp_eq true _ _ W
    · rw [show cmpI x y = if true = true then 1 else -1 by unfold cmpI; rw [if_neg (by omega), if_neg (by omega)]; rfl]
      exact rcmp_lt true _ _ _ _ W (by omega)
  · rw [decide_eq_true hx, decide_eq_false hy]
    rw [show cmpI x y = if true = true then -1 else 1 by unfold cmpI; rw [if_pos (by omega)]; rfl]
    exact rcmp_ne true _ _ _ _ W
  · rw [decide_eq_false hx, decide_eq_true hy]
    rw [show cmpI x y = if false = true then -1 else 1 by unfold cmpI; rw [if_neg (by omega), if_neg (by omega)]; rfl]
    exact rcmp_ne false _ _ _ _ W
  · rw [decide_eq_false hx, decide_eq_false hy]
    rcases Int.lt_trichotomy x y with h | h | h
    · rw [show cmpI x y = if false = true then 1 else -1 by unfold cmpI; rw [if_pos h]; rfl]
      exact rcmp_lt false _ _ _ _ W (by omega)
    · subst h
      rw [show cmpI x x = 0 by unfold cmpI; rw [if_neg (by omega), if_pos rfl]]
      exact rcmp_eq false _ _ W
    · rw [show cmpI x y = if false = true then -1 else 1 by unfold cmpI; rw [if_neg (by omega), if_neg (by omega)]; rfl]
      exact rcmp_gt false _ _ _ _ W (by omega)
theorem rcmpmul_any (a b c d : Int) (W : World) (ha : -9223372036854775808 ≤ a ∧ a ≤ 9223372036854775807) (hb : -9223372036854775808 ≤ b ∧ b ≤ 9223372036854775807) (hc : -9223372036854775808 ≤ c ∧ c ≤ 9223372036854775807) (hd : -9223372036854775808 ≤ d ∧ d ≤ 9223372036854775807) :
    Calls Try.prog 27 #[.int .i64 a, .int .i64 b, .int .i64 c, .int .i64 d] W fun e w' => e = .returned (.int .i64 (cmpI (a * b) (c * d))) ∧ Below W.heap.size W w' := by
  have HB := Aside0.mk (Below.refl W.heap.size W)
  have C1 := Aside0.mk (fun W => tocsinref1_times.calls a b _ _ _ W (times_is a b ha.1 ha.2 hb.1 hb.2))
  have C2 := Aside0.mk (fun W => tocsinref1_times.calls c d _ _ _ W (times_is c d hc.1 hc.2 hd.1 hd.2))
  have C3 := Aside0.mk (fun W => rcmp_any (a * b) (c * d) W)
  clear ha hb hc hd
  generalize hx : decide (a * b < 0) = n1 at *
  generalize hy : decide (c * d < 0) = n2 at *
  generalize ((a * b).natAbs : Int) / 18446744073709551616 = h1 at *
  generalize ((a * b).natAbs : Int) % 18446744073709551616 = l1 at *
  generalize ((c * d).natAbs : Int) / 18446744073709551616 = h2 at *
  generalize ((c * d).natAbs : Int) % 18446744073709551616 = l2 at *
  generalize cmpI (a * b) (c * d) = r at *
  clear hx hy
  go_enter Try.func27, Try.ntmps27
  go_wp2_with (first | (go_at_call 34; (with_reducible refine (C1.out _).mono ?_); rintro e w7 ⟨rfl, hb⟩; have n0_ := Aside0.mk (below_step (by repeat (first | (with_reducible first | exact HB.out | apply below_alloc | apply pw_below_drewN | apply below_drew1) | exact HB.out)) hb); clear HB; have HB := n0_; clear n0_ hb) | (go_at_call 34; (with_reducible refine (C2.out _).mono ?_); rintro e w7 ⟨rfl, hb⟩; have n0_ := Aside0.mk (below_step (by repeat (first | (with_reducible first | exact HB.out | apply below_alloc | apply pw_below_drewN | apply below_drew1) | exact HB.out)) hb); clear HB; have HB := n0_; clear n0_ hb) | (go_at_call 36; (with_reducible refine (C3.out _).mono ?_); rintro e w7 ⟨rfl, hb⟩; have n0_ := Aside0.mk (below_step (by repeat (first | (with_reducible first | exact HB.out | apply below_alloc | apply pw_below_drewN | apply below_drew1) | exact HB.out)) hb); clear HB; have HB := n0_; clear n0_ hb))
  go_ret
  exact ⟨rfl, (by repeat (first | (with_reducible first | exact HB.out | apply below_alloc | apply pw_below_drewN | apply below_drew1) | exact HB.out))⟩

set_option maxHeartbeats 4000000
set_option maxRecDepth 100000 in
theorem says_walk (a b c d : Int) (W : World) (ha : -9223372036854775808 ≤ a ∧ a ≤ 9223372036854775807) (hb : -9223372036854775808 ≤ b ∧ b ≤ 9223372036854775807) (hc : -9223372036854775808 ≤ c ∧ c ≤ 9223372036854775807) (hd : -9223372036854775808 ≤ d ∧ d ≤ 9223372036854775807) :
    Calls Try.prog 8 #[.int .i64 a, .int .i64 b, .int .i64 c, .int .i64 d] W fun e w' => e = .returned (.bool true) ∧ Below W.heap.size W w' := by
  have HB := Aside0.mk (Below.refl W.heap.size W)
  have A1 := Aside0.mk (fun W => add_any a b W ha hb)
  have A2 := Aside0.mk (fun W => radd_any a b W ha hb)
  have B1 := Aside0.mk (fun W => sub_any a b W ha hb)
  have B2 := Aside0.mk (fun W => rsub_any a b W ha hb)
  have C1 := Aside0.mk (fun W => mul_any a b W ha hb)
  have C2 := Aside0.mk (fun W => rmul_any a b W ha hb)
  have D1 := Aside0.mk (fun W => share_any a b c W ha hb hc.2)
  have D2 := Aside0.mk (fun W => rshare_any a b c W ha hb hc.2)
  have E1 := Aside0.mk (fun W => up_any a b c W ha hb hc.2)
  have E2 := Aside0.mk (fun W => rup_any a b c W ha hb hc.2)
  have F1 := Aside0.mk (fun W => cmpmul_any a b c d W ha hb hc hd)
  have F2 := Aside0.mk (fun W => rcmpmul_any a b c d W ha hb hc hd)
  have G1 := Aside0.mk (fun W => gcd_any a b W ha hb)
  have G2 := Aside0.mk (fun W => rgcd_any a b W ha hb)
  generalize held64 (a + b) = x1 at *
  generalize held64 (a - b) = x2 at *
  generalize held64 (a * b) = x3 at *
  generalize shareI a b c = x4 at *
  generalize upI a b c = x5 at *
  generalize cmpI (a * b) (c * d) = x6 at *
  generalize gcdI a b = x7 at *
  obtain ⟨x1, y1⟩ := x1; obtain ⟨x2, y2⟩ := x2; obtain ⟨x3, y3⟩ := x3; obtain ⟨x4, y4⟩ := x4; obtain ⟨x5, y5⟩ := x5
  clear ha hb hc hd
  go_enter Try.func8, Try.ntmps8
  go_wp2_with (first | (go_at_call 11; (with_reducible refine (awake_any _).mono ?_); rintro e w7 ⟨rfl, hb⟩; have n0_ := Aside0.mk (below_step (by repeat (first | (with_reducible first | exact HB.out | apply below_alloc | apply pw_below_drewN | apply below_drew1) | exact HB.out)) hb); clear HB; have HB := n0_; clear n0_ hb) | (go_at_call 15; (with_reducible refine (A1.out _).mono ?_); rintro e w7 ⟨rfl, hb⟩; have n0_ := Aside0.mk (below_step (by repeat (first | (with_reducible first | exact HB.out | apply below_alloc | apply pw_below_drewN | apply below_drew1) | exact HB.out)) hb); clear HB; have HB := n0_; clear n0_ hb) | (go_at_call 22; (with_reducible refine (A2.out _).mono ?_); rintro e w7 ⟨rfl, hb⟩; have n0_ := Aside0.mk (below_step (by repeat (first | (with_reducible first | exact HB.out | apply below_alloc | apply pw_below_drewN | apply below_drew1) | exact HB.out)) hb); clear HB; have HB := n0_; clear n0_ hb) | (go_at_call 18; (with_reducible refine (B1.out _).mono ?_); rintro e w7 ⟨rfl, hb⟩; have n0_ := Aside0.mk (below_step (by repeat (first | (with_reducible first | exact HB.out | apply below_alloc | apply pw_below_drewN | apply below_drew1) | exact HB.out)) hb); clear HB; have HB := n0_; clear n0_ hb) | (go_at_call 23; (with_reducible refine (B2.out _).mono ?_); rintro e w7 ⟨rfl, hb⟩; have n0_ := Aside0.mk (below_step (by repeat (first | (with_reducible first | exact HB.out | apply below_alloc | apply pw_below_drewN | apply below_drew1) | exact HB.out)) hb); clear HB; have HB := n0_; clear n0_ hb) | (go_at_call 16; (with_reducible refine (C1.out _).mono ?_); rintro e w7 ⟨rfl, hb⟩; have n0_ := Aside0.mk (below_step (by repeat (first | (with_reducible first | exact HB.out | apply below_alloc | apply pw_below_drewN | apply below_drew1) | exact HB.out)) hb); clear HB; have HB := n0_; clear n0_ hb) | (go_at_call 24; (with_reducible refine (C2.out _).mono ?_); rintro e w7 ⟨rfl, hb⟩; have n0_ := Aside0.mk (below_step (by repeat (first | (with_reducible first | exact HB.out | apply below_alloc | apply pw_below_drewN | apply below_drew1) | exact HB.out)) hb); clear HB; have HB := n0_; clear n0_ hb) | (go_at_call 17; (with_reducible refine (D1.out _).mono ?_); rintro e w7 ⟨rfl, hb⟩; have n0_ := Aside0.mk (below_step (by repeat (first | (with_reducible first | exact HB.out | apply below_alloc | apply pw_below_drewN | apply below_drew1) | exact HB.out)) hb); clear HB; have HB := n0_; clear n0_ hb) | (go_at_call 25; (with_reducible refine (D2.out _).mono ?_); rintro e w7 ⟨rfl, hb⟩; have n0_ := Aside0.mk (below_step (by repeat (first | (with_reducible first | exact HB.out | apply below_alloc | apply pw_below_drewN | apply below_drew1) | exact HB.out)) hb); clear HB; have HB := n0_; clear n0_ hb) | (go_at_call 19; (with_reducible refine (E1.out _).mono ?_); rintro e w7 ⟨rfl, hb⟩; have n0_ := Aside0.mk (below_step (by repeat (first | (with_reducible first | exact HB.out | apply below_alloc | apply pw_below_drewN | apply below_drew1) | exact HB.out)) hb); clear HB; have HB := n0_; clear n0_ hb) | (go_at_call 26; (with_reducible refine (E2.out _).mono ?_); rintro e w7 ⟨rfl, hb⟩; have n0_ := Aside0.mk (below_step (by repeat (first | (with_reducible first | exact HB.out | apply below_alloc | apply pw_below_drewN | apply below_drew1) | exact HB.out)) hb); clear HB; have HB := n0_; clear n0_ hb) | (go_at_call 12; (with_reducible refine (F1.out _).mono ?_); rintro e w7 ⟨rfl, hb⟩; have n0_ := Aside0.mk (below_step (by repeat (first | (with_reducible first | exact HB.out | apply below_alloc | apply pw_below_drewN | apply below_drew1) | exact HB.out)) hb); clear HB; have HB := n0_; clear n0_ hb) | (go_at_call 27; (with_reducible refine (F2.out _).mono ?_); rintro e w7 ⟨rfl, hb⟩; have n0_ := Aside0.mk (below_step (by repeat (first | (with_reducible first | exact HB.out | apply below_alloc | apply pw_below_drewN | apply below_drew1) | exact HB.out)) hb); clear HB; have HB := n0_; clear n0_ hb) | (go_at_call 14; (with_reducible refine (G1.out _).mono ?_); rintro e w7 ⟨rfl, hb⟩; have n0_ := Aside0.mk (below_step (by repeat (first | (with_reducible first | exact HB.out | apply below_alloc | apply pw_below_drewN | apply below_drew1) | exact HB.out)) hb); clear HB; have HB := n0_; clear n0_ hb) | (go_at_call 28; (with_reducible refine (G2.out _).mono ?_); rintro e w7 ⟨rfl, hb⟩; have n0_ := Aside0.mk (below_step (by repeat (first | (with_reducible first | exact HB.out | apply below_alloc | apply pw_below_drewN | apply below_drew1) | exact HB.out)) hb); clear HB; have HB := n0_; clear n0_ hb))
  go_ret
  exact ⟨rfl, (by repeat (first | (with_reducible first | exact HB.out | apply below_alloc | apply pw_below_drewN | apply below_drew1) | exact HB.out))⟩
theorem own : ownKnob Try.prog.godebug = none := by kernel_rfl
theorem Try.laidOut : laidOutB Try.prog = true := by kernel_rfl
open Go.ChangeShapes Go.WideShapes Go.ChangeAt Go.RowKit
open Go.ChangeMaps (open_string shut_string)
set_option maxRecDepth 100000 in
theorem lifted (os : Os) (started : os.Started) (H : Type) (enc : TypeId × Value → H) :
    ReturnsInHanded {} Try.checked os 8 .any (Rows.numSaysSpec.pre6 enc Try.prog Try.f8 Rows.numSaysRow.domain false) (Rows.numSaysSpec.post enc Try.prog Try.f8 false true false false) := by
  refine returnsInHanded_of_change_sized (C := Try.checked) own started (by kernel_rfl) Try.func8
    (ChangeSpec.witness6 (enc := enc) (C := Try.checked) false ⟨#[], #[.int .i64 0, .int .i64 0, .int .i64 0, .int .i64 0], []⟩ 8 (by kernel_rfl) (by kernel_rfl) (by kernel_rfl) (by kernel_rfl)) ?_
  intro W base args ds gs before hval0 hW hcnd hsz0 _
  have hsz : (DataW.weightsEach Try.prog (Try.f8.params.toList ++ Rows.numSaysSpec.plain.varTypes Try.prog) (ds ++ gs)).all (· ≤ reachBytes) = true := hsz0
  have hval : ∀ (j : Nat) t v, Try.f8.params[j]? = some t → args[j]? = some v → Value.okWide Try.prog W .any base t v := hval0
  have hW' := hW
  obtain ⟨p, q, hA0, hV, rfl, hfz, hnd⟩ := hW
  have hA : DataW.TrodAll enc Try.prog W 0 (fun _ => true) true Try.f8.params.toList args.toList ds p := hA0
  rw [Try.params8] at hA hval hsz
  obtain ⟨v0, vs0, d0, ds0, p0, q0, hargs, rfl, rfl, h0, r0⟩ := trodAll_cons hA
  obtain ⟨v1, vs1, d1, ds1, p1, q1, rfl, rfl, rfl, h1, r1⟩ := trodAll_cons r0
  obtain ⟨v2, vs2, d2, ds2, p2, q2, rfl, rfl, rfl, h2, r2⟩ := trodAll_cons r1
  obtain ⟨v3, vs3, d3, ds3, p3, q3, rfl, rfl, rfl, h3, r3⟩ := trodAll_cons r2
  obtain ⟨rfl, rfl, rfl⟩ := trodAll_nil r3
  obtain rfl : args = #[v0, v1, v2, v3] := by cases args; simp_all
  obtain ⟨rfl, rfl⟩ := trodVars_none hV
  have k0 := h0
  have k1 := h1
  have k2 := h2
  have k3 := h3
  have lt0 : ∀ x ∈ p0, x.block < W.heap.size := fun x hx => hW'.lt x (by simp [hx])
  have lt1 : ∀ x ∈ p1, x.block < W.heap.size := fun x hx => hW'.lt x (by simp [hx])
  have lt2 : ∀ x ∈ p2, x.block < W.heap.size := fun x hx => hW'.lt x (by simp [hx])
  have lt3 : ∀ x ∈ p3, x.block < W.heap.size := fun x hx => hW'.lt x (by simp [hx])
  obtain ⟨a0, rfl, rfl, rfl, w0⟩ := open_int Try.underlying2 (hval 0 2 v0 rfl rfl) h0
  obtain ⟨a1, rfl, rfl, rfl, w1⟩ := open_int Try.underlying2 (hval 1 2 v1 rfl rfl) h1
  obtain ⟨a2, rfl, rfl, rfl, w2⟩ := open_int Try.underlying2 (hval 2 2 v2 rfl rfl) h2
  obtain ⟨a3, rfl, rfl, rfl, w3⟩ := open_int Try.underlying2 (hval 3 2 v3 rfl rfl) h3
  clear hA0 hval0 hsz0 hsz
  refine (says_walk a0 a1 a2 a3 W (wf_i64 w0) (wf_i64 w1) (wf_i64 w2) (wf_i64 w3)).mono fun e W' ⟨he, bel⟩ => ?_
  subst he
  exact ⟨_, rfl, _, _, _, _, _, [], hW', trodAll_mk1 (shut_bool Try.underlying4 _), (trodAll_cons_mk (Below.trod Try.laidOut (by kernel_rfl) (of_decide_eq_true (by kernel_rfl)) k0 bel lt0) (trodAll_cons_mk (Below.trod Try.laidOut (by kernel_rfl) (of_decide_eq_true (by kernel_rfl)) k1 bel lt1) (trodAll_cons_mk (Below.trod Try.laidOut (by kernel_rfl) (of_decide_eq_true (by kernel_rfl)) k2 bel lt2) (trodAll_cons_mk (Below.trod Try.laidOut (by kernel_rfl) (of_decide_eq_true (by kernel_rfl)) k3 bel lt3) trodAll_mk0)))), rfl, bel.frame _, fun h => by cases h⟩
theorem over : Rows.numSaysRow.holds Try.pinned (OpenSpec.ofChange Rows.numSaysSpec) :=
  OpenClaim.holds_of_wide 8 Try.f8 rfl rfl rfl rfl rfl rfl rfl ⟨rfl, rfl, rfl, rfl, rfl⟩ rfl rfl rfl rfl rfl (by kernel_rfl) Try.func8 (by kernel_rfl)
    (of_decide_eq_true (by kernel_rfl)) (by unfold Func.isWrapper; first | (rw [if_pos (by decide +kernel)]; kernel_rfl) | (rw [if_neg (by decide +kernel)]; exact ⟨rfl, rfl⟩))
    (fun os started H enc _ => lifted os started H enc)
end Go.Proofs.Ytmoddlehcplbfaa.Pure
namespace Go.Proofs.Ytmoddlehcplbfaa
/-- The row, under a short name, for the claim. -/
theorem numSays_holds : Rows.NumSaysSaid := Pure.over
end Go.Proofs.Ytmoddlehcplbfaa
#print axioms Go.Proofs.Ytmoddlehcplbfaa.numSays_holds
namespace Go.Proofs.Ytmoddlehcplbfaa.Pure

end Go.Proofs.Ytmoddlehcplbfaa.Pure
