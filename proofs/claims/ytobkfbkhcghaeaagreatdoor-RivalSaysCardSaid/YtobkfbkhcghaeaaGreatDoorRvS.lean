/- functions and contracts as the kit's print.py writes them, the roots chosen in this session (wip/proots.sh)
-- slim functions and contracts as the kit's print.py writes them, the roots chosen in this session (wip/proots.sh)
-- slim surd.Bound in plain words, for rival.Beats (law24). 
-- slim -/
import Derived.Test.YtobkfbkhcghaeaaGreatDoorPSbx0
namespace Go.Proofs.YtobkfbkhcghaeaaGreatDoor.PSb
open Go.RowKit Go.Proofs.YtobkfbkhcghaeaaGreatDoorW.PrintWords Go.Proofs.YtobkfbkhcghaeaaGreatDoorW.PrintLast Go.Proofs.YtobkfbkhcghaeaaGreatDoorW.PrintMore
attribute [local go_sem] max2_int min2_int max_two min_two max_three min_three max_four min_four   -- for this text's walks alone
set_option linter.unusedVariables false
set_option linter.unusedSimpArgs false

/-! ### surd_in: function 53 -/
def surd_in.f (a0 : Int) (a1 : Int) (a2 : Int) : Option (Bool) := if a0 ≥ a1 then (some (decide (a0 ≤ a2))) else (some false)
set_option maxHeartbeats 8000000 in
set_option maxRecDepth 100000 in
theorem surd_in.calls (a0 : Int) (a1 : Int) (a2 : Int) (r : Bool) (w : World) (h : surd_in.f a0 a1 a2 = some r) :
  Calls Tryz.prog 53 #[.int .i64 a0, .int .i64 a1, .int .i64 a2] w fun e w' => e = .returned (.bool r) ∧ Drawn0 w w' := by
 have H : (if a0 ≥ a1 then (some (decide (a0 ≤ a2))) else (some false)) = some r := h
 clear h
 by_cases c4 : a0 ≥ a1
 ·rw [if_pos c4] at H
  have c4b0 : decide (a1 ≤ a0) = true := decide_eq_true c4
  clear c4
  obtain rfl := Option.some.inj H
  go_enter Tryz.func53, Tryz.ntmps53
  go_wp2
  go_ret
  exact ⟨by first | rfl | (simp; done) | (simp [*]; done), by repeat (first | exact Drawn0.refl _ | apply Drawn0.step)⟩
 ·rw [if_neg c4] at H
  have c4b0 : decide (a1 ≤ a0) = false := decide_eq_false c4
  clear c4
  obtain rfl := Option.some.inj H
  go_enter Tryz.func53, Tryz.ntmps53
  go_wp2
  go_ret
  exact ⟨by first | rfl | (simp; done) | (simp [*]; done), by repeat (first | exact Drawn0.refl _ | apply Drawn0.step)⟩

/-! ### surd_root: function 54 -/
def surd_root.f (a0 : Int) (a1 : Int) : Option (Bool) := (surd_in.f a0 0 1000000).bind fun t101 => (if t101 = true then ((surd_in.f a1 1 1000000).bind fun t102 => (some t102)) else (some false))
set_option maxHeartbeats 8000000 in
set_option maxRecDepth 100000 in
theorem surd_root.calls (a0 : Int) (a1 : Int) (r : Bool) (w : World) (h : surd_root.f a0 a1 = some r) :
  Calls Tryz.prog 54 #[.int .i64 a0, .int .i64 a1] w fun e w' => e = .returned (.bool r) ∧ Drawn0 w w' := by
 have H : ((surd_in.f a0 0 1000000).bind fun t101 => (if t101 = true then ((surd_in.f a1 1 1000000).bind fun t102 => (some t102)) else (some false))) = some r := h
 clear h
 replace H := Option.bind_eq_some_iff.mp H
 obtain ⟨t101, A30, H⟩ := H
 replace H : (if t101 = true then ((surd_in.f a1 1 1000000).bind fun t102 => (some t102)) else (some false)) = some r := H
 have A3 := Aside0.mk A30
 clear A30
 by_cases c4 : t101 = true
 ·subst c4
  have H1 : ((surd_in.f a1 1 1000000).bind fun t102 => (some t102)) = some r := by rw [if_pos rfl] at H; exact H
  clear H
  have H := H1
  clear H1
  replace H := Option.bind_eq_some_iff.mp H
  obtain ⟨t102, A50, H⟩ := H
  replace H : (some t102) = some r := H
  have A5 := Aside0.mk A50
  clear A50
  obtain rfl := Option.some.inj H
  go_enter Tryz.func54, Tryz.ntmps54
  go_wp2_with (first | ((with_reducible refine gate_callee (f := 53) rfl ?_); refine goesL_ (some 6) rfl rfl Tryz.func53 (by kernel_rfl) rfl #[.int .i64 a0, .int .i64 0, .int .i64 1000000] rfl (by (try simp only [List.map_toArray, List.map_cons, List.map_nil]); first | done | rfl | (simp only [List.length_drop, List.length_take]; rfl)) ?_; (with_reducible refine (surd_in.calls a0 0 1000000 true _ A3.out).mono ?_); rintro e w' ⟨rfl, ⟨nd, rfl⟩⟩; refine ⟨_, rfl, ?_⟩) | (go_at_call 53; (with_reducible refine (surd_in.calls a1 1 1000000 t102 _ A5.out).mono ?_); rintro e w' ⟨rfl, ⟨nd, rfl⟩⟩))
  go_ret
  exact ⟨by first | rfl | (simp; done) | (simp [*]; done), by repeat (first | exact Drawn0.refl _ | apply Drawn0.step)⟩
 ·replace c4 := Bool.eq_false_iff.mpr c4
  subst c4
  have H1 : (some false) = some r := by rw [if_neg (show ¬ (false = true) by decide)] at H; exact H
  clear H
  have H := H1
  clear H1
  obtain rfl := Option.some.inj H
  go_enter Tryz.func54, Tryz.ntmps54
  go_wp2_with (first | ((with_reducible refine gate_callee (f := 53) rfl ?_); refine goesL_ (some 6) rfl rfl Tryz.func53 (by kernel_rfl) rfl #[.int .i64 a0, .int .i64 0, .int .i64 1000000] rfl (by (try simp only [List.map_toArray, List.map_cons, List.map_nil]); first | done | rfl | (simp only [List.length_drop, List.length_take]; rfl)) ?_; (with_reducible refine (surd_in.calls a0 0 1000000 false _ A3.out).mono ?_); rintro e w' ⟨rfl, ⟨nd, rfl⟩⟩; refine ⟨_, rfl, ?_⟩))
  go_ret
  exact ⟨by first | rfl | (simp; done) | (simp [*]; done), by repeat (first | exact Drawn0.refl _ | apply Drawn0.step)⟩

/-! ### bits_Mul64: function 97 -/
def bits_Mul64.f (a0 : Int) (a1 : Int) : Option (Int × Int) := some (IntKind.u64.wrap ((IntKind.u64.wrap ((IntKind.u64.wrap ((a0 / 4294967296) * (a1 / 4294967296))) + ((IntKind.u64.wrap ((IntKind.u64.wrap ((a0 / 4294967296) * (Go.bits .and .u64 a1 4294967295))) + ((IntKind.u64.wrap ((Go.bits .and .u64 a0 4294967295) * (Go.bits .and .u64 a1 4294967295))) / 4294967296))) / 4294967296))) + ((IntKind.u64.wrap ((Go.bits .and .u64 (IntKind.u64.wrap ((IntKind.u64.wrap ((a0 / 4294967296) * (Go.bits .and .u64 a1 4294967295))) + ((IntKind.u64.wrap ((Go.bits .and .u64 a0 4294967295) * (Go.bits .and .u64 a1 4294967295))) / 4294967296))) 4294967295) + (IntKind.u64.wrap ((Go.bits .and .u64 a0 4294967295) * (a1 / 4294967296))))) / 4294967296)), IntKind.u64.wrap (a0 * a1))
set_option maxHeartbeats 8000000 in
set_option maxRecDepth 100000 in
theorem bits_Mul64.calls (a0 : Int) (a1 : Int) (r1 : Int) (r2 : Int) (w : World) (h : bits_Mul64.f a0 a1 = some (r1, r2)) :
  Calls Tryz.prog 97 #[.int .u64 a0, .int .u64 a1] w fun e w' => e = .returned (.tuple #[.int .u64 r1, .int .u64 r2]) ∧ Drawn0 w w' := by
 have H : (some (IntKind.u64.wrap ((IntKind.u64.wrap ((IntKind.u64.wrap ((a0 / 4294967296) * (a1 / 4294967296))) + ((IntKind.u64.wrap ((IntKind.u64.wrap ((a0 / 4294967296) * (Go.bits .and .u64 a1 4294967295))) + ((IntKind.u64.wrap ((Go.bits .and .u64 a0 4294967295) * (Go.bits .and .u64 a1 4294967295))) / 4294967296))) / 4294967296))) + ((IntKind.u64.wrap ((Go.bits .and .u64 (IntKind.u64.wrap ((IntKind.u64.wrap ((a0 / 4294967296) * (Go.bits .and .u64 a1 4294967295))) + ((IntKind.u64.wrap ((Go.bits .and .u64 a0 4294967295) * (Go.bits .and .u64 a1 4294967295))) / 4294967296))) 4294967295) + (IntKind.u64.wrap ((Go.bits .and .u64 a0 4294967295) * (a1 / 4294967296))))) / 4294967296)), IntKind.u64.wrap (a0 * a1))) = some (r1, r2) := h
 clear h
 simp only [Option.some.injEq, Prod.mk.injEq] at H
 obtain ⟨rfl, rfl⟩ := H
 go_enter Tryz.func97, Tryz.ntmps97
 go_wp2
 go_ret2
 exact ⟨by first | rfl | (simp; done) | (simp [*]; done), by repeat (first | exact Drawn0.refl _ | apply Drawn0.step)⟩

/-! ### num_side: function 98 -/
def num_side.f (a0 : Int) : Option (Int) := if a0 < 0 then (some (IntKind.u64.wrap (-(IntKind.u64.wrap (a0))))) else (some (IntKind.u64.wrap (a0)))
set_option maxHeartbeats 8000000 in
set_option maxRecDepth 100000 in
theorem num_side.calls (a0 : Int) (r : Int) (w : World) (h : num_side.f a0 = some r) :
  Calls Tryz.prog 98 #[.int .i64 a0] w fun e w' => e = .returned (.int .u64 r) ∧ Drawn0 w w' := by
 have H : (if a0 < 0 then (some (IntKind.u64.wrap (-(IntKind.u64.wrap (a0))))) else (some (IntKind.u64.wrap (a0)))) = some r := h
 clear h
 by_cases c2 : a0 < 0
 ·rw [if_pos c2] at H
  have c2b0 : decide (a0 < 0) = true := decide_eq_true c2
  clear c2
  obtain rfl := Option.some.inj H
  go_enter Tryz.func98, Tryz.ntmps98
  go_wp2
  go_ret
  exact ⟨by first | rfl | (simp; done) | (simp [*]; done), by repeat (first | exact Drawn0.refl _ | apply Drawn0.step)⟩
 ·rw [if_neg c2] at H
  have c2b0 : decide (a0 < 0) = false := decide_eq_false c2
  clear c2
  obtain rfl := Option.some.inj H
  go_enter Tryz.func98, Tryz.ntmps98
  go_wp2
  go_ret
  exact ⟨by first | rfl | (simp; done) | (simp [*]; done), by repeat (first | exact Drawn0.refl _ | apply Drawn0.step)⟩

/-! ### num_product: function 81 -/
def num_product.f (a0 : Int) (a1 : Int) : Option (Bool × Int × Int) := (num_side.f a0).bind fun t104 => ((num_side.f a1).bind fun t105 => ((bits_Mul64.f t104 t105).bind fun bt106 => (if ((decide (a0 < 0)) != (decide (a1 < 0))) = true then (some (decide ((Go.bits .or .u64 bt106.1 bt106.2) > 0), bt106.1, bt106.2)) else (some (false, bt106.1, bt106.2)))))
set_option maxHeartbeats 8000000 in
set_option maxRecDepth 100000 in
theorem num_product.calls (a0 : Int) (a1 : Int) (r1 : Bool) (r2 : Int) (r3 : Int) (w : World) (h : num_product.f a0 a1 = some (r1, r2, r3)) :
  Calls Tryz.prog 81 #[.int .i64 a0, .int .i64 a1] w fun e w' => e = .returned (.agg #[.bool r1, .int .u64 r2, .int .u64 r3]) ∧ Below w.heap.size w w' := by
 have hu104 := Tryz.underlying104
 have HB := Aside0.mk (Below.refl w.heap.size w)
 have H : ((num_side.f a0).bind fun t104 => ((num_side.f a1).bind fun t105 => ((bits_Mul64.f t104 t105).bind fun bt106 => (if ((decide (a0 < 0)) != (decide (a1 < 0))) = true then (some (decide ((Go.bits .or .u64 bt106.1 bt106.2) > 0), bt106.1, bt106.2)) else (some (false, bt106.1, bt106.2)))))) = some (r1, r2, r3) := h
 clear h
 replace H := Option.bind_eq_some_iff.mp H
 obtain ⟨t104, A30, H⟩ := H
 replace H : ((num_side.f a1).bind fun t105 => ((bits_Mul64.f t104 t105).bind fun bt106 => (if ((decide (a0 < 0)) != (decide (a1 < 0))) = true then (some (decide ((Go.bits .or .u64 bt106.1 bt106.2) > 0), bt106.1, bt106.2)) else (some (false, bt106.1, bt106.2))))) = some (r1, r2, r3) := H
 have A3 := Aside0.mk A30
 clear A30
 replace H := Option.bind_eq_some_iff.mp H
 obtain ⟨t105, A40, H⟩ := H
 replace H : ((bits_Mul64.f t104 t105).bind fun bt106 => (if ((decide (a0 < 0)) != (decide (a1 < 0))) = true then (some (decide ((Go.bits .or .u64 bt106.1 bt106.2) > 0), bt106.1, bt106.2)) else (some (false, bt106.1, bt106.2)))) = some (r1, r2, r3) := H
 have A4 := Aside0.mk A40
 clear A40
 replace H := Option.bind_eq_some_iff.mp H
 obtain ⟨⟨t106, t107⟩, A50, H⟩ := H
 replace H : (if ((decide (a0 < 0)) != (decide (a1 < 0))) = true then (some (decide ((Go.bits .or .u64 t106 t107) > 0), t106, t107)) else (some (false, t106, t107))) = some (r1, r2, r3) := H
 have A5 := Aside0.mk A50
 clear A50
 by_cases c6 : ((decide (a0 < 0)) != (decide (a1 < 0))) = true
 ·rw [if_pos c6] at H
  have c6b0 : ((decide (a0 < 0)) != (decide (a1 < 0))) = true := c6
  (try (have c6b1 : decide ((decide (a0 < 0)) = (decide (a1 < 0))) = false := by simpa using c6))
  (try (have c6b2 : ((decide (a0 < 0)) == (decide (a1 < 0))) = false := by simpa using c6))
  (try (have c6b3 : ¬ ((decide (a0 < 0)) = (decide (a1 < 0))) := by simpa using c6))
  clear c6
  simp only [Option.some.injEq, Prod.mk.injEq] at H
  obtain ⟨rfl, rfl, rfl⟩ := H
  go_enter Tryz.func81, Tryz.ntmps81
  go_wp2_with (first | ((with_reducible refine gate_dst (N := 4) rfl ?_); refine box_event ?hg (N := 4) ?hd (cs := #[.bool false, .int .u64 0, .int .u64 0]) (t := 104) ?hr ?_; (case hd => rfl); (case hg => rfl); (case hr => first | (go_simp; done) | (go_simp; rfl)); intro gb103 hg w7 hbox hb; have n0_ := Aside0.mk (below_step (bel HB) hb); have n1_ := Aside0.mk (hbox); have n2_ := Aside0.mk (by rw [hg]; exact (below_size (bel HB)) : w.heap.size ≤ gb103); have n3_ := n2_; clear HB; have HB := n0_; have BK103 := n1_; have GW103 := n2_; have GE103 := n3_; clear n0_ n1_ n2_ n3_; clear hb hbox hg) | ((with_reducible refine gate_callee (f := 98) rfl ?_); refine goesL_ (some 9) rfl rfl Tryz.func98 (by kernel_rfl) rfl #[.int .i64 a0] rfl (by (try simp only [List.map_toArray, List.map_cons, List.map_nil]); first | done | rfl | (simp only [List.length_drop, List.length_take]; rfl)) ?_; (with_reducible refine (num_side.calls a0 t104 _ A3.out).mono ?_); rintro e w' ⟨rfl, ⟨nd, rfl⟩⟩; refine ⟨_, rfl, ?_⟩; (try (rw [drewN_self w7]; generalize hq_ : World.drewN w7 _ = w7; have n0_ : Aside0 (w7.heap[gb103]? = some (.cells #[.bool false, .int .u64 0, .int .u64 0] 104 (0, 0))) := ⟨by rw [← hq_]; exact (by (with_reducible repeat (first | refine blk_drewN ?_ _ | refine blk_drew ?_ | refine blk_alloc ?_ _)); exact BK103.out)⟩; have n1_ : Aside0 (Below w.heap.size w w7) := ⟨by rw [← hq_]; exact (by repeat (first | (with_reducible first | exact HB.out | apply below_alloc | apply pw_below_drewN | apply below_drew1 | refine below_set ?_ GE103.out) | exact HB.out))⟩; clear BK103 HB hq_; have BK103 := n0_; have HB := n1_; clear n0_ n1_))) | ((with_reducible refine gate_callee (f := 98) rfl ?_); refine goesL_ (some 11) rfl rfl Tryz.func98 (by kernel_rfl) rfl #[.int .i64 a1] rfl (by (try simp only [List.map_toArray, List.map_cons, List.map_nil]); first | done | rfl | (simp only [List.length_drop, List.length_take]; rfl)) ?_; (with_reducible refine (num_side.calls a1 t105 _ A4.out).mono ?_); rintro e w' ⟨rfl, ⟨nd, rfl⟩⟩; refine ⟨_, rfl, ?_⟩; (try (rw [drewN_self w7]; generalize hq_ : World.drewN w7 _ = w7; have n0_ : Aside0 (w7.heap[gb103]? = some (.cells #[.bool false, .int .u64 0, .int .u64 0] 104 (0, 0))) := ⟨by rw [← hq_]; exact (by (with_reducible repeat (first | refine blk_drewN ?_ _ | refine blk_drew ?_ | refine blk_alloc ?_ _)); exact BK103.out)⟩; have n1_ : Aside0 (Below w.heap.size w w7) := ⟨by rw [← hq_]; exact (by repeat (first | (with_reducible first | exact HB.out | apply below_alloc | apply pw_below_drewN | apply below_drew1 | refine below_set ?_ GE103.out) | exact HB.out))⟩; clear BK103 HB hq_; have BK103 := n0_; have HB := n1_; clear n0_ n1_))) | ((with_reducible refine gate_callee (f := 97) rfl ?_); refine goesL_ (some 12) rfl rfl Tryz.func97 (by kernel_rfl) rfl #[.int .u64 t104, .int .u64 t105] rfl (by (try simp only [List.map_toArray, List.map_cons, List.map_nil]); first | done | rfl | (simp only [List.length_drop, List.length_take]; rfl)) ?_; (with_reducible refine (bits_Mul64.calls t104 t105 t106 t107 _ A5.out).mono ?_); rintro e w' ⟨rfl, ⟨nd, rfl⟩⟩; refine ⟨_, rfl, ?_⟩; (try (rw [drewN_self w7]; generalize hq_ : World.drewN w7 _ = w7; have n0_ : Aside0 (w7.heap[gb103]? = some (.cells #[.bool false, .int .u64 0, .int .u64 0] 104 (0, 0))) := ⟨by rw [← hq_]; exact (by (with_reducible repeat (first | refine blk_drewN ?_ _ | refine blk_drew ?_ | refine blk_alloc ?_ _)); exact BK103.out)⟩; have n1_ : Aside0 (Below w.heap.size w w7) := ⟨by rw [← hq_]; exact (by repeat (first | (with_reducible first | exact HB.out | apply below_alloc | apply pw_below_drewN | apply below_drew1 | refine below_set ?_ GE103.out) | exact HB.out))⟩; clear BK103 HB hq_; have BK103 := n0_; have HB := n1_; clear n0_ n1_)); obtain ⟨hcz8_0, hcz8_1, hcz8_2⟩ := cel3 BK103; obtain ⟨hfz8_0, hfz8_1, hfz8_2⟩ := frz3 BK103))
  refine bodyPost_ret (results_cell_row rfl _ _ gb103 104 #[.bool (decide ((Go.bits .or .u64 t106 t107) > 0)), .int .u64 t106, .int .u64 t107] (0, 0) _ rfl (by (with_reducible repeat (first | refine blk_drewN ?_ _ | refine blk_drew ?_ | refine blk_alloc ?_ _)); refine blk_put (cs := #[.bool (decide ((Go.bits .or .u64 t106 t107) > 0)), .int .u64 t106, .int .u64 0]) ?_ 2 _ rfl; (with_reducible repeat (first | refine blk_drewN ?_ _ | refine blk_drew ?_ | refine blk_alloc ?_ _)); refine blk_put (cs := #[.bool (decide ((Go.bits .or .u64 t106 t107) > 0)), .int .u64 0, .int .u64 0]) ?_ 1 _ rfl; (with_reducible repeat (first | refine blk_drewN ?_ _ | refine blk_drew ?_ | refine blk_alloc ?_ _)); refine blk_put (cs := #[.bool false, .int .u64 0, .int .u64 0]) ?_ 0 _ rfl; (with_reducible repeat (first | refine blk_drewN ?_ _ | refine blk_drew ?_ | refine blk_alloc ?_ _)); exact BK103.out) Tryz.underlying104 rfl (by kernel_rfl)) rfl ?_
  exact ⟨by first | rfl | (simp [*] <;> rfl), by repeat (first | (with_reducible first | exact HB.out | apply below_alloc | apply pw_below_drewN | apply below_drew1 | refine below_set ?_ GE103.out) | exact HB.out)⟩
 ·rw [if_neg c6] at H
  have c6b0 : ((decide (a0 < 0)) != (decide (a1 < 0))) = false := by simpa using c6
  (try (have c6b1 : decide ((decide (a0 < 0)) = (decide (a1 < 0))) = true := by simpa using c6))
  (try (have c6b2 : ((decide (a0 < 0)) == (decide (a1 < 0))) = true := by simpa using c6))
  clear c6
  simp only [Option.some.injEq, Prod.mk.injEq] at H
  obtain ⟨rfl, rfl, rfl⟩ := H
  go_enter Tryz.func81, Tryz.ntmps81
  go_wp2_with (first | ((with_reducible refine gate_dst (N := 4) rfl ?_); refine box_event ?hg (N := 4) ?hd (cs := #[.bool false, .int .u64 0, .int .u64 0]) (t := 104) ?hr ?_; (case hd => rfl); (case hg => rfl); (case hr => first | (go_simp; done) | (go_simp; rfl)); intro gb103 hg w9 hbox hb; have n0_ := Aside0.mk (below_step (bel HB) hb); have n1_ := Aside0.mk (hbox); have n2_ := Aside0.mk (by rw [hg]; exact (below_size (bel HB)) : w.heap.size ≤ gb103); have n3_ := n2_; clear HB; have HB := n0_; have BK103 := n1_; have GW103 := n2_; have GE103 := n3_; clear n0_ n1_ n2_ n3_; clear hb hbox hg) | ((with_reducible refine gate_callee (f := 98) rfl ?_); refine goesL_ (some 9) rfl rfl Tryz.func98 (by kernel_rfl) rfl #[.int .i64 a0] rfl (by (try simp only [List.map_toArray, List.map_cons, List.map_nil]); first | done | rfl | (simp only [List.length_drop, List.length_take]; rfl)) ?_; (with_reducible refine (num_side.calls a0 t104 _ A3.out).mono ?_); rintro e w' ⟨rfl, ⟨nd, rfl⟩⟩; refine ⟨_, rfl, ?_⟩; (try (rw [drewN_self w9]; generalize hq_ : World.drewN w9 _ = w9; have n0_ : Aside0 (w9.heap[gb103]? = some (.cells #[.bool false, .int .u64 0, .int .u64 0] 104 (0, 0))) := ⟨by rw [← hq_]; exact (by (with_reducible repeat (first | refine blk_drewN ?_ _ | refine blk_drew ?_ | refine blk_alloc ?_ _)); exact BK103.out)⟩; have n1_ : Aside0 (Below w.heap.size w w9) := ⟨by rw [← hq_]; exact (by repeat (first | (with_reducible first | exact HB.out | apply below_alloc | apply pw_below_drewN | apply below_drew1 | refine below_set ?_ GE103.out) | exact HB.out))⟩; clear BK103 HB hq_; have BK103 := n0_; have HB := n1_; clear n0_ n1_))) | ((with_reducible refine gate_callee (f := 98) rfl ?_); refine goesL_ (some 11) rfl rfl Tryz.func98 (by kernel_rfl) rfl #[.int .i64 a1] rfl (by (try simp only [List.map_toArray, List.map_cons, List.map_nil]); first | done | rfl | (simp only [List.length_drop, List.length_take]; rfl)) ?_; (with_reducible refine (num_side.calls a1 t105 _ A4.out).mono ?_); rintro e w' ⟨rfl, ⟨nd, rfl⟩⟩; refine ⟨_, rfl, ?_⟩; (try (rw [drewN_self w9]; generalize hq_ : World.drewN w9 _ = w9; have n0_ : Aside0 (w9.heap[gb103]? = some (.cells #[.bool false, .int .u64 0, .int .u64 0] 104 (0, 0))) := ⟨by rw [← hq_]; exact (by (with_reducible repeat (first | refine blk_drewN ?_ _ | refine blk_drew ?_ | refine blk_alloc ?_ _)); exact BK103.out)⟩; have n1_ : Aside0 (Below w.heap.size w w9) := ⟨by rw [← hq_]; exact (by repeat (first | (with_reducible first | exact HB.out | apply below_alloc | apply pw_below_drewN | apply below_drew1 | refine below_set ?_ GE103.out) | exact HB.out))⟩; clear BK103 HB hq_; have BK103 := n0_; have HB := n1_; clear n0_ n1_))) | ((with_reducible refine gate_callee (f := 97) rfl ?_); refine goesL_ (some 12) rfl rfl Tryz.func97 (by kernel_rfl) rfl #[.int .u64 t104, .int .u64 t105] rfl (by (try simp only [List.map_toArray, List.map_cons, List.map_nil]); first | done | rfl | (simp only [List.length_drop, List.length_take]; rfl)) ?_; (with_reducible refine (bits_Mul64.calls t104 t105 t106 t107 _ A5.out).mono ?_); rintro e w' ⟨rfl, ⟨nd, rfl⟩⟩; refine ⟨_, rfl, ?_⟩; (try (rw [drewN_self w9]; generalize hq_ : World.drewN w9 _ = w9; have n0_ : Aside0 (w9.heap[gb103]? = some (.cells #[.bool false, .int .u64 0, .int .u64 0] 104 (0, 0))) := ⟨by rw [← hq_]; exact (by (with_reducible repeat (first | refine blk_drewN ?_ _ | refine blk_drew ?_ | refine blk_alloc ?_ _)); exact BK103.out)⟩; have n1_ : Aside0 (Below w.heap.size w w9) := ⟨by rw [← hq_]; exact (by repeat (first | (with_reducible first | exact HB.out | apply below_alloc | apply pw_below_drewN | apply below_drew1 | refine below_set ?_ GE103.out) | exact HB.out))⟩; clear BK103 HB hq_; have BK103 := n0_; have HB := n1_; clear n0_ n1_)); obtain ⟨hcz10_0, hcz10_1, hcz10_2⟩ := cel3 BK103; obtain ⟨hfz10_0, hfz10_1, hfz10_2⟩ := frz3 BK103))
  refine bodyPost_ret (results_cell_row rfl _ _ gb103 104 #[.bool false, .int .u64 t106, .int .u64 t107] (0, 0) _ rfl (by (with_reducible repeat (first | refine blk_drewN ?_ _ | refine blk_drew ?_ | refine blk_alloc ?_ _)); refine blk_put (cs := #[.bool false, .int .u64 t106, .int .u64 0]) ?_ 2 _ rfl; (with_reducible repeat (first | refine blk_drewN ?_ _ | refine blk_drew ?_ | refine blk_alloc ?_ _)); refine blk_put (cs := #[.bool false, .int .u64 0, .int .u64 0]) ?_ 1 _ rfl; (with_reducible repeat (first | refine blk_drewN ?_ _ | refine blk_drew ?_ | refine blk_alloc ?_ _)); refine blk_put (cs := #[.bool false, .int .u64 0, .int .u64 0]) ?_ 0 _ rfl; (with_reducible repeat (first | refine blk_drewN ?_ _ | refine blk_drew ?_ | refine blk_alloc ?_ _)); exact BK103.out) Tryz.underlying104 rfl (by kernel_rfl)) rfl ?_
  exact ⟨by first | rfl | (simp [*] <;> rfl), by repeat (first | (with_reducible first | exact HB.out | apply below_alloc | apply pw_below_drewN | apply below_drew1 | refine below_set ?_ GE103.out) | exact HB.out)⟩

/-! ### num_over: function 82 -/
mutual
def num_over.j0 : Nat → Bool → Bool → Int → Int → Bool → Int → Int → Option (Int)
 | 0, _, _, _, _, _, _, _ => none
 | k + 1, x5, x109000, x109001, x109002, x110000, x110001, x110002 => if x5 = true then (num_over.j1 k x5 x109000 x109001 x109002 x110000 x110001 x110002) else (if x109001 = x110001 then (num_over.j1 k (decide (x109002 < x110002)) x109000 x109001 x109002 x110000 x110001 x110002) else (num_over.j1 k false x109000 x109001 x109002 x110000 x110001 x110002))
def num_over.j1 : Nat → Bool → Bool → Int → Int → Bool → Int → Int → Option (Int)
 | 0, _, _, _, _, _, _, _ => none
 | k + 1, x5, x109000, x109001, x109002, x110000, x110001, x110002 => if x5 = true then (some (-1)) else (if x109001 = x110001 then (if x109002 = x110002 then (some 0) else (some 1)) else (some 1))
end
def num_over.f (k : Nat) (a0_0 : Bool) (a0_1 : Int) (a0_2 : Int) (a1_0 : Bool) (a1_1 : Int) (a1_2 : Int) : Option (Int) := if a0_1 = a1_1 then (num_over.j0 k false a0_0 a0_1 a0_2 a1_0 a1_1 a1_2) else (num_over.j0 k (decide (a0_1 < a1_1)) a0_0 a0_1 a0_2 a1_0 a1_1 a1_2)
set_option maxHeartbeats 8000000 in
set_option maxRecDepth 100000 in
theorem num_over.calls (k : Nat) (a0_0 : Bool) (a0_1 : Int) (a0_2 : Int) (a1_0 : Bool) (a1_1 : Int) (a1_2 : Int) (r : Int) (w : World) (h : num_over.f k a0_0 a0_1 a0_2 a1_0 a1_1 a1_2 = some r) :
  Calls Tryz.prog 82 #[.agg #[.bool a0_0, .int .u64 a0_1, .int .u64 a0_2], .agg #[.bool a1_0, .int .u64 a1_1, .int .u64 a1_2]] w fun e w' => e = .returned (.int .i64 r) ∧ Below w.heap.size w w' := by
 have hu104 := Tryz.underlying104
 have HB := Aside0.mk (Below.refl w.heap.size w)
 have H : (if a0_1 = a1_1 then (num_over.j0 k false a0_0 a0_1 a0_2 a1_0 a1_1 a1_2) else (num_over.j0 k (decide (a0_1 < a1_1)) a0_0 a0_1 a0_2 a1_0 a1_1 a1_2)) = some r := h
 clear h
 have HC3 := Aside0.mk H
 clear H
 go_enter Tryz.func82, Tryz.ntmps82
 go_upto_region 1 with (first | ((with_reducible refine gate_dst (N := 2) rfl ?_); refine box_event ?hg (N := 2) ?hd (cs := #[.bool a0_0, .int .u64 a0_1, .int .u64 a0_2]) (t := 104) ?hr ?_; (case hd => rfl); (case hg => rfl); (case hr => first | (go_simp; done) | (go_simp; rfl)); intro gb108 hg w4 hbox hb; have n0_ := Aside0.mk (below_step (bel HB) hb); have n1_ := Aside0.mk (hbox); have n2_ := Aside0.mk (by rw [hg]; exact (below_size (bel HB)) : w.heap.size ≤ gb108); have n3_ := n2_; clear HB; have HB := n0_; have BK108 := n1_; have GW108 := n2_; have GE108 := n3_; clear n0_ n1_ n2_ n3_; clear hb hbox hg) | ((with_reducible refine gate_dst (N := 3) rfl ?_); refine box_event ?hg (N := 3) ?hd (cs := #[.bool a1_0, .int .u64 a1_1, .int .u64 a1_2]) (t := 104) ?hr ?_; (case hd => rfl); (case hg => rfl); (case hr => first | (go_simp; done) | (go_simp; rfl)); intro gb109 hg w5 hbox hb; have n0_ := Aside0.mk (blk_below (g := gb108) (o := .cells #[.bool a0_0, .int .u64 a0_1, .int .u64 a0_2] 104 (0, 0)) (by (with_reducible repeat (first | refine blk_drewN ?_ _ | refine blk_drew ?_ | refine blk_alloc ?_ _)); exact BK108.out) hb); have n1_ := Aside0.mk (below_step (by repeat (first | (with_reducible first | exact HB.out | apply below_alloc | apply pw_below_drewN | apply below_drew1 | refine below_set ?_ GE108.out) | exact HB.out)) hb); have n2_ := Aside0.mk (hbox); have n3_ := Aside0.mk ((by rw [hg]; exact (below_size (by repeat (first | (with_reducible first | exact HB.out | apply below_alloc | apply pw_below_drewN | apply below_drew1 | refine below_set ?_ GE108.out) | exact HB.out))) : w.heap.size ≤ gb109)); have n4_ := Aside0.mk ((by rw [hg]; exact (below_size (by repeat (first | (with_reducible first | exact HB.out | apply below_alloc | apply pw_below_drewN | apply below_drew1 | refine below_set ?_ GE108.out) | exact HB.out))) : w.heap.size ≤ gb109)); have n5_ := Aside0.mk ((by rw [hg]; exact Nat.ne_of_lt (blk_lt (g := gb108) (o := .cells #[.bool a0_0, .int .u64 a0_1, .int .u64 a0_2] 104 (0, 0)) (by (with_reducible repeat (first | refine blk_drewN ?_ _ | refine blk_drew ?_ | refine blk_alloc ?_ _)); exact BK108.out)) : gb108 ≠ gb109)); have n6_ := Aside0.mk ((by rw [hg]; exact Nat.ne_of_gt (blk_lt (g := gb108) (o := .cells #[.bool a0_0, .int .u64 a0_1, .int .u64 a0_2] 104 (0, 0)) (by (with_reducible repeat (first | refine blk_drewN ?_ _ | refine blk_drew ?_ | refine blk_alloc ?_ _)); exact BK108.out)) : gb109 ≠ gb108)); clear BK108; clear HB; have BK108 := n0_; have HB := n1_; have BK109 := n2_; have GW109 := n3_; have GE109 := n4_; have NB108_109 := n5_; have NB109_108 := n6_; clear n0_ n1_ n2_ n3_ n4_ n5_ n6_; clear hb hbox hg))
 (try simp only [Act.put, List.setIfInBounds_toArray, List.set_cons_zero, List.set_cons_succ])
 go_cut [5] (fun v5 wc => ∃ (kq : Nat) (x5_2 : Bool), v5 = .bool x5_2 ∧ Aside0 (num_over.j0 kq x5_2 a0_0 a0_1 a0_2 a1_0 a1_1 a1_2 = some r) ∧ Aside0 (kq ≤ k) ∧ Aside0 (wc.heap[gb108]? = some (.cells #[.bool a0_0, .int .u64 a0_1, .int .u64 a0_2] 104 (0, 0))) ∧ Aside0 (wc.heap[gb109]? = some (.cells #[.bool a1_0, .int .u64 a1_1, .int .u64 a1_2] 104 (0, 0))) ∧ Aside0 (Below w.heap.size w wc))
 case first =>
  have H := HC3.out
  clear HC3
  by_cases c6 : a0_1 = a1_1
  ·rw [if_pos c6] at H
   have c6b0 : (a0_1 == a1_1) = true := beq_iff_eq.mpr c6
   have c6b1 : (a0_1 != a1_1) = false := bne_eq_false_iff_eq.mpr c6
   clear c6
   (first | rw [c6b0] | (simp only [i64_w, i32_w]; rw [c6b0]) | skip)
   have H' := Aside0.mk H
   clear H
   have hnb7 := NB108_109.out
   have hnc7 := NB109_108.out
   obtain ⟨hcz8_0, hcz8_1, hcz8_2⟩ := cel3 BK108
   obtain ⟨hfz8_0, hfz8_1, hfz8_2⟩ := frz3 BK108
   obtain ⟨hcz9_0, hcz9_1, hcz9_2⟩ := cel3 BK109
   obtain ⟨hfz9_0, hfz9_1, hfz9_2⟩ := frz3 BK109
   go_wp2
   go_meet
   case rel => exact ⟨_, (false), (by first | rfl | simp [*]), H', ⟨by first | omega | exact Nat.le_refl _⟩, ⟨by (with_reducible repeat (first | refine blk_drewN ?_ _ | refine blk_drew ?_ | refine blk_alloc ?_ _)); exact BK108.out⟩, ⟨by (with_reducible repeat (first | refine blk_drewN ?_ _ | refine blk_drew ?_ | refine blk_alloc ?_ _)); exact BK109.out⟩, ⟨by repeat (first | (with_reducible first | exact HB.out | apply below_alloc | apply pw_below_drewN | apply below_drew1 | refine below_set ?_ GE108.out | refine below_set ?_ GE109.out) | exact HB.out)⟩⟩
  ·rw [if_neg c6] at H
   have c6b0 : (a0_1 == a1_1) = false := beq_eq_false_iff_ne.mpr c6
   have c6b1 : (a0_1 != a1_1) = true := bne_iff_ne.mpr c6
   (first | rw [c6b0] | (simp only [i64_w, i32_w]; rw [c6b0]) | skip)
   have H' := Aside0.mk H
   clear H
   have hnb10 := NB108_109.out
   have hnc10 := NB109_108.out
   obtain ⟨hcz11_0, hcz11_1, hcz11_2⟩ := cel3 BK108
   obtain ⟨hfz11_0, hfz11_1, hfz11_2⟩ := frz3 BK108
   obtain ⟨hcz12_0, hcz12_1, hcz12_2⟩ := cel3 BK109
   obtain ⟨hfz12_0, hfz12_1, hfz12_2⟩ := frz3 BK109
   go_wp2
   go_meet
   case rel => exact ⟨_, (decide (a0_1 < a1_1)), (by first | rfl | simp [*]), H', ⟨by first | omega | exact Nat.le_refl _⟩, ⟨by (with_reducible repeat (first | refine blk_drewN ?_ _ | refine blk_drew ?_ | refine blk_alloc ?_ _)); exact BK108.out⟩, ⟨by (with_reducible repeat (first | refine blk_drewN ?_ _ | refine blk_drew ?_ | refine blk_alloc ?_ _)); exact BK109.out⟩, ⟨by repeat (first | (with_reducible first | exact HB.out | apply below_alloc | apply pw_below_drewN | apply below_drew1 | refine below_set ?_ GE108.out | refine below_set ?_ GE109.out) | exact HB.out)⟩⟩
 case rest =>
  clear HC3
  try clear c1
  try clear p2
  try clear c6
  try clear c6b0
  try clear c6b1
  try clear c7
  try clear c8
  try clear c10
  try clear hcz11_0
  try clear hcz11_1
  try clear hcz11_2
  try clear hcz12_0
  try clear hcz12_1
  try clear hcz12_2
  try clear hcz8_0
  try clear hcz8_1
  try clear hcz8_2
  try clear hcz9_0
  try clear hcz9_1
  try clear hcz9_2
  try clear hfz11_0
  try clear hfz11_1
  try clear hfz11_2
  try clear hfz12_0
  try clear hfz12_1
  try clear hfz12_2
  try clear hfz8_0
  try clear hfz8_1
  try clear hfz8_2
  try clear hfz9_0
  try clear hfz9_1
  try clear hfz9_2
  obtain ⟨kq, x5_2, rfl, HA, HJ2, BK108, BK109, HB⟩ := hcut
  cases kq with
  | zero => exact absurd HA.out (by simp [num_over.j0])
  | succ kj2 =>
   have H := HA.out
   clear HA
   simp only [num_over.j0] at H
   have HC13 := Aside0.mk H
   clear H
   go_upto_if 5 with (fail)
   go_cut [5] (fun v5 wc => ∃ (kq : Nat) (x5_12 : Bool), v5 = .bool x5_12 ∧ Aside0 (num_over.j1 kq x5_12 a0_0 a0_1 a0_2 a1_0 a1_1 a1_2 = some r) ∧ Aside0 (kq ≤ kj2) ∧ Aside0 (wc.heap[gb108]? = some (.cells #[.bool a0_0, .int .u64 a0_1, .int .u64 a0_2] 104 (0, 0))) ∧ Aside0 (wc.heap[gb109]? = some (.cells #[.bool a1_0, .int .u64 a1_1, .int .u64 a1_2] 104 (0, 0))) ∧ Aside0 (Below w.heap.size w wc))
   case first =>
    have H := HC13.out
    clear HC13
    by_cases c14 : x5_2 = true
    ·subst c14
     have H1 : (num_over.j1 kj2 true a0_0 a0_1 a0_2 a1_0 a1_1 a1_2) = some r := by rw [if_pos rfl] at H; exact H
     clear H
     have H := H1
     clear H1
     have H' := Aside0.mk H
     clear H
     go_wp2
     go_meet
     case rel => exact ⟨_, (true), (by first | rfl | simp [*]), H', ⟨by have := HJ2.out; first | omega | exact Nat.le_refl _⟩, ⟨by (with_reducible repeat (first | refine blk_drewN ?_ _ | refine blk_drew ?_ | refine blk_alloc ?_ _)); exact BK108.out⟩, ⟨by (with_reducible repeat (first | refine blk_drewN ?_ _ | refine blk_drew ?_ | refine blk_alloc ?_ _)); exact BK109.out⟩, ⟨by repeat (first | (with_reducible first | exact HB.out | apply below_alloc | apply pw_below_drewN | apply below_drew1 | refine below_set ?_ GE108.out | refine below_set ?_ GE109.out) | exact HB.out)⟩⟩
    ·replace c14 := Bool.eq_false_iff.mpr c14
     subst c14
     have H1 : (if a0_1 = a1_1 then (num_over.j1 kj2 (decide (a0_2 < a1_2)) a0_0 a0_1 a0_2 a1_0 a1_1 a1_2) else (num_over.j1 kj2 false a0_0 a0_1 a0_2 a1_0 a1_1 a1_2)) = some r := by rw [if_neg (show ¬ (false = true) by decide)] at H; exact H
     clear H
     have H := H1
     clear H1
     by_cases c15 : a0_1 = a1_1
     ·rw [if_pos c15] at H
      have c15b0 : (a0_1 == a1_1) = true := beq_iff_eq.mpr c15
      have c15b1 : (a0_1 != a1_1) = false := bne_eq_false_iff_eq.mpr c15
      clear c15
      (first | rw [c15b0] | (simp only [i64_w, i32_w]; rw [c15b0]) | skip)
      have H' := Aside0.mk H
      clear H
      have hnb16 := NB108_109.out
      have hnc16 := NB109_108.out
      obtain ⟨hcz17_0, hcz17_1, hcz17_2⟩ := cel3 BK108
      obtain ⟨hfz17_0, hfz17_1, hfz17_2⟩ := frz3 BK108
      obtain ⟨hcz18_0, hcz18_1, hcz18_2⟩ := cel3 BK109
      obtain ⟨hfz18_0, hfz18_1, hfz18_2⟩ := frz3 BK109
      go_wp2
      go_meet
      case rel => exact ⟨_, (decide (a0_2 < a1_2)), (by first | rfl | simp [*]), H', ⟨by have := HJ2.out; first | omega | exact Nat.le_refl _⟩, ⟨by (with_reducible repeat (first | refine blk_drewN ?_ _ | refine blk_drew ?_ | refine blk_alloc ?_ _)); exact BK108.out⟩, ⟨by (with_reducible repeat (first | refine blk_drewN ?_ _ | refine blk_drew ?_ | refine blk_alloc ?_ _)); exact BK109.out⟩, ⟨by repeat (first | (with_reducible first | exact HB.out | apply below_alloc | apply pw_below_drewN | apply below_drew1 | refine below_set ?_ GE108.out | refine below_set ?_ GE109.out) | exact HB.out)⟩⟩
     ·rw [if_neg c15] at H
      have c15b0 : (a0_1 == a1_1) = false := beq_eq_false_iff_ne.mpr c15
      have c15b1 : (a0_1 != a1_1) = true := bne_iff_ne.mpr c15
      (first | rw [c15b0] | (simp only [i64_w, i32_w]; rw [c15b0]) | skip)
      have H' := Aside0.mk H
      clear H
      have hnb19 := NB108_109.out
      have hnc19 := NB109_108.out
      obtain ⟨hcz20_0, hcz20_1, hcz20_2⟩ := cel3 BK108
      obtain ⟨hfz20_0, hfz20_1, hfz20_2⟩ := frz3 BK108
      obtain ⟨hcz21_0, hcz21_1, hcz21_2⟩ := cel3 BK109
      obtain ⟨hfz21_0, hfz21_1, hfz21_2⟩ := frz3 BK109
      go_wp2
      go_meet
      case rel => exact ⟨_, (false), (by first | rfl | simp [*]), H', ⟨by have := HJ2.out; first | omega | exact Nat.le_refl _⟩, ⟨by (with_reducible repeat (first | refine blk_drewN ?_ _ | refine blk_drew ?_ | refine blk_alloc ?_ _)); exact BK108.out⟩, ⟨by (with_reducible repeat (first | refine blk_drewN ?_ _ | refine blk_drew ?_ | refine blk_alloc ?_ _)); exact BK109.out⟩, ⟨by repeat (first | (with_reducible first | exact HB.out | apply below_alloc | apply pw_below_drewN | apply below_drew1 | refine below_set ?_ GE108.out | refine below_set ?_ GE109.out) | exact HB.out)⟩⟩
   case rest =>
    clear HC13
    try clear c1
    try clear p2
    try clear c6
    try clear c6b0
    try clear c6b1
    try clear c7
    try clear c8
    try clear c10
    try clear c14
    try clear c15
    try clear c15b0
    try clear c15b1
    try clear c16
    try clear c19
    try clear hcz11_0
    try clear hcz11_1
    try clear hcz11_2
    try clear hcz12_0
    try clear hcz12_1
    try clear hcz12_2
    try clear hcz17_0
    try clear hcz17_1
    try clear hcz17_2
    try clear hcz18_0
    try clear hcz18_1
    try clear hcz18_2
    try clear hcz20_0
    try clear hcz20_1
    try clear hcz20_2
    try clear hcz21_0
    try clear hcz21_1
    try clear hcz21_2
    try clear hcz8_0
    try clear hcz8_1
    try clear hcz8_2
    try clear hcz9_0
    try clear hcz9_1
    try clear hcz9_2
    try clear hfz11_0
    try clear hfz11_1
    try clear hfz11_2
    try clear hfz12_0
    try clear hfz12_1
    try clear hfz12_2
    try clear hfz17_0
    try clear hfz17_1
    try clear hfz17_2
    try clear hfz18_0
    try clear hfz18_1
    try clear hfz18_2
    try clear hfz20_0
    try clear hfz20_1
    try clear hfz20_2
    try clear hfz21_0
    try clear hfz21_1
    try clear hfz21_2
    try clear hfz8_0
    try clear hfz8_1
    try clear hfz8_2
    try clear hfz9_0
    try clear hfz9_1
    try clear hfz9_2
    try clear p2
    obtain ⟨kq, x5_12, rfl, HA, HJ12, BK108, BK109, HB⟩ := hcut
    cases kq with
    | zero => exact absurd HA.out (by simp [num_over.j1])
    | succ kj12 =>
     have H := HA.out
     clear HA
     simp only [num_over.j1] at H
     by_cases c22 : x5_12 = true
     ·subst c22
      have H1 : (some (-1)) = some r := by rw [if_pos rfl] at H; exact H
      clear H
      have H := H1
      clear H1
      obtain rfl := Option.some.inj H
      go_wp2
      go_ret
      exact ⟨by first | rfl | (simp [*] <;> rfl), by repeat (first | (with_reducible first | exact HB.out | apply below_alloc | apply pw_below_drewN | apply below_drew1 | refine below_set ?_ GE108.out | refine below_set ?_ GE109.out) | exact HB.out)⟩
     ·replace c22 := Bool.eq_false_iff.mpr c22
      subst c22
      have H1 : (if a0_1 = a1_1 then (if a0_2 = a1_2 then (some 0) else (some 1)) else (some 1)) = some r := by rw [if_neg (show ¬ (false = true) by decide)] at H; exact H
      clear H
      have H := H1
      clear H1
      by_cases c23 : a0_1 = a1_1
      ·rw [if_pos c23] at H
       have c23b0 : (a0_1 == a1_1) = true := beq_iff_eq.mpr c23
       have c23b1 : (a0_1 != a1_1) = false := bne_eq_false_iff_eq.mpr c23
       clear c23
       by_cases c24 : a0_2 = a1_2
       ·rw [if_pos c24] at H
        have c24b0 : (a0_2 == a1_2) = true := beq_iff_eq.mpr c24
        have c24b1 : (a0_2 != a1_2) = false := bne_eq_false_iff_eq.mpr c24
        clear c24
        obtain rfl := Option.some.inj H
        have hnb25 := NB108_109.out
        have hnc25 := NB109_108.out
        obtain ⟨hcz26_0, hcz26_1, hcz26_2⟩ := cel3 BK108
        obtain ⟨hfz26_0, hfz26_1, hfz26_2⟩ := frz3 BK108
        obtain ⟨hcz27_0, hcz27_1, hcz27_2⟩ := cel3 BK109
        obtain ⟨hfz27_0, hfz27_1, hfz27_2⟩ := frz3 BK109
        go_wp2
        go_ret
        exact ⟨by first | rfl | (simp [*] <;> rfl), by repeat (first | (with_reducible first | exact HB.out | apply below_alloc | apply pw_below_drewN | apply below_drew1 | refine below_set ?_ GE108.out | refine below_set ?_ GE109.out) | exact HB.out)⟩
       ·rw [if_neg c24] at H
        have c24b0 : (a0_2 == a1_2) = false := beq_eq_false_iff_ne.mpr c24
        have c24b1 : (a0_2 != a1_2) = true := bne_iff_ne.mpr c24
        obtain rfl := Option.some.inj H
        have hnb28 := NB108_109.out
        have hnc28 := NB109_108.out
        obtain ⟨hcz29_0, hcz29_1, hcz29_2⟩ := cel3 BK108
        obtain ⟨hfz29_0, hfz29_1, hfz29_2⟩ := frz3 BK108
        obtain ⟨hcz30_0, hcz30_1, hcz30_2⟩ := cel3 BK109
        obtain ⟨hfz30_0, hfz30_1, hfz30_2⟩ := frz3 BK109
        go_wp2
        go_ret
        exact ⟨by first | rfl | (simp [*] <;> rfl), by repeat (first | (with_reducible first | exact HB.out | apply below_alloc | apply pw_below_drewN | apply below_drew1 | refine below_set ?_ GE108.out | refine below_set ?_ GE109.out) | exact HB.out)⟩
      ·rw [if_neg c23] at H
       have c23b0 : (a0_1 == a1_1) = false := beq_eq_false_iff_ne.mpr c23
       have c23b1 : (a0_1 != a1_1) = true := bne_iff_ne.mpr c23
       obtain rfl := Option.some.inj H
       have hnb31 := NB108_109.out
       have hnc31 := NB109_108.out
       obtain ⟨hcz32_0, hcz32_1, hcz32_2⟩ := cel3 BK108
       obtain ⟨hfz32_0, hfz32_1, hfz32_2⟩ := frz3 BK108
       obtain ⟨hcz33_0, hcz33_1, hcz33_2⟩ := cel3 BK109
       obtain ⟨hfz33_0, hfz33_1, hfz33_2⟩ := frz3 BK109
       go_wp2
       go_ret
       exact ⟨by first | rfl | (simp [*] <;> rfl), by repeat (first | (with_reducible first | exact HB.out | apply below_alloc | apply pw_below_drewN | apply below_drew1 | refine below_set ?_ GE108.out | refine below_set ?_ GE109.out) | exact HB.out)⟩

end Go.Proofs.YtobkfbkhcghaeaaGreatDoor.PSb
namespace Go.Proofs.YtobkfbkhcghaeaaGreatDoor.PSb
open Go.RowKit Go.Proofs.YtobkfbkhcghaeaaGreatDoorW.PrintWords Go.Proofs.YtobkfbkhcghaeaaGreatDoorW.PrintLast Go.Proofs.YtobkfbkhcghaeaaGreatDoorW.PrintMore
attribute [local go_sem] max2_int min2_int max_two min_two max_three min_three max_four min_four   -- for this text's walks alone
set_option linter.unusedVariables false
set_option linter.unusedSimpArgs false

/-! ### num_CmpMul: function 55 -/
mutual
def num_CmpMul.j0 : Nat → Bool → Bool → Int → Int → Bool → Int → Int → Option (Int)
 | 0, _, _, _, _, _, _, _ => none
 | k + 1, x17, x117000, x117001, x117002, x118000, x118001, x118002 => if x17 = true then (some (-1)) else (if x117000 = true then (num_CmpMul.j1 k false x117000 x117001 x117002 x118000 x118001 x118002) else (num_CmpMul.j1 k x118000 x117000 x117001 x117002 x118000 x118001 x118002))
def num_CmpMul.j1 : Nat → Bool → Bool → Int → Int → Bool → Int → Int → Option (Int)
 | 0, _, _, _, _, _, _, _ => none
 | k + 1, x25, x117000, x117001, x117002, x118000, x118001, x118002 => if x25 = true then (some 1) else (if x117000 = true then ((num_over.f k x118000 x118001 x118002 x117000 x117001 x117002).bind fun t118 => (some t118)) else ((num_over.f k x117000 x117001 x117002 x118000 x118001 x118002).bind fun t119 => (some t119)))
end
def num_CmpMul.f (k : Nat) (a0 : Int) (a1 : Int) (a2 : Int) (a3 : Int) : Option (Int) := (num_product.f a0 a1).bind fun bt110 => ((num_product.f a2 a3).bind fun bt113 => (if bt110.1 = true then (num_CmpMul.j0 k (!bt113.1) bt110.1 bt110.2.1 bt110.2.2 bt113.1 bt113.2.1 bt113.2.2) else (num_CmpMul.j0 k false bt110.1 bt110.2.1 bt110.2.2 bt113.1 bt113.2.1 bt113.2.2)))
set_option maxHeartbeats 8000000 in
set_option maxRecDepth 100000 in
theorem num_CmpMul.calls (k : Nat) (a0 : Int) (a1 : Int) (a2 : Int) (a3 : Int) (r : Int) (w : World) (h : num_CmpMul.f k a0 a1 a2 a3 = some r) :
  Calls Tryz.prog 55 #[.int .i64 a0, .int .i64 a1, .int .i64 a2, .int .i64 a3] w fun e w' => e = .returned (.int .i64 r) ∧ Below w.heap.size w w' := by
 have hu104 := Tryz.underlying104
 have HB := Aside0.mk (Below.refl w.heap.size w)
 have H : ((num_product.f a0 a1).bind fun bt110 => ((num_product.f a2 a3).bind fun bt113 => (if bt110.1 = true then (num_CmpMul.j0 k (!bt113.1) bt110.1 bt110.2.1 bt110.2.2 bt113.1 bt113.2.1 bt113.2.2) else (num_CmpMul.j0 k false bt110.1 bt110.2.1 bt110.2.2 bt113.1 bt113.2.1 bt113.2.2)))) = some r := h
 clear h
 replace H := Option.bind_eq_some_iff.mp H
 obtain ⟨⟨t110, t111, t112⟩, A50, H⟩ := H
 replace H : ((num_product.f a2 a3).bind fun bt113 => (if t110 = true then (num_CmpMul.j0 k (!bt113.1) t110 t111 t112 bt113.1 bt113.2.1 bt113.2.2) else (num_CmpMul.j0 k false t110 t111 t112 bt113.1 bt113.2.1 bt113.2.2))) = some r := H
 have A5 := Aside0.mk A50
 clear A50
 replace H := Option.bind_eq_some_iff.mp H
 obtain ⟨⟨t113, t114, t115⟩, A60, H⟩ := H
 replace H : (if t110 = true then (num_CmpMul.j0 k (!t113) t110 t111 t112 t113 t114 t115) else (num_CmpMul.j0 k false t110 t111 t112 t113 t114 t115)) = some r := H
 have A6 := Aside0.mk A60
 clear A60
 have HC7 := Aside0.mk H
 clear H
 go_enter Tryz.func55, Tryz.ntmps55
 go_upto_region 2 with (first | ((with_reducible refine gate_callee (f := 81) rfl ?_); refine goesL_ (some 13) rfl rfl Tryz.func81 (by kernel_rfl) rfl #[.int .i64 a0, .int .i64 a1] rfl (by (try simp only [List.map_toArray, List.map_cons, List.map_nil]); first | done | rfl | (simp only [List.length_drop, List.length_take]; rfl)) ?_; (with_reducible refine (num_product.calls a0 a1 t110 t111 t112 _ A5.out).mono ?_); rintro e w8 ⟨rfl, hb⟩; refine ⟨_, rfl, ?_⟩; have n0_ := Aside0.mk (below_step (bel HB) hb); clear HB; have HB := n0_; clear n0_; (try clear hb); (try clear hb2); (try clear hk); (try clear hi)) | ((with_reducible refine gate_callee (f := 81) rfl ?_); refine goesL_ (some 16) rfl rfl Tryz.func81 (by kernel_rfl) rfl #[.int .i64 a2, .int .i64 a3] rfl (by (try simp only [List.map_toArray, List.map_cons, List.map_nil]); first | done | rfl | (simp only [List.length_drop, List.length_take]; rfl)) ?_; (with_reducible refine (num_product.calls a2 a3 t113 t114 t115 _ A6.out).mono ?_); rintro e w9 ⟨rfl, hb⟩; refine ⟨_, rfl, ?_⟩; have n0_ := Aside0.mk (below_step (bel HB) hb); clear HB; have HB := n0_; clear n0_; (try clear hb); (try clear hb2); (try clear hk); (try clear hi)) | ((with_reducible refine gate_dst (N := 9) rfl ?_); refine box_event ?hg (N := 9) ?hd (cs := #[.bool false, .int .u64 0, .int .u64 0]) (t := 104) ?hr ?_; (case hd => rfl); (case hg => rfl); (case hr => first | (go_simp; done) | (go_simp; rfl)); intro gb116 hg w10 hbox hb; have n0_ := Aside0.mk (below_step (bel HB) hb); have n1_ := Aside0.mk (hbox); have n2_ := Aside0.mk (by rw [hg]; exact (below_size (bel HB)) : w.heap.size ≤ gb116); have n3_ := n2_; clear HB; have HB := n0_; have BK116 := n1_; have GW116 := n2_; have GE116 := n3_; clear n0_ n1_ n2_ n3_; clear hb hbox hg) | ((with_reducible refine gate_dst (N := 10) rfl ?_); refine box_event ?hg (N := 10) ?hd (cs := #[.bool false, .int .u64 0, .int .u64 0]) (t := 104) ?hr ?_; (case hd => rfl); (case hg => rfl); (case hr => first | (go_simp; done) | (go_simp; rfl)); intro gb117 hg w11 hbox hb; have n0_ := Aside0.mk (blk_below (g := gb116) (o := .cells #[.bool false, .int .u64 0, .int .u64 0] 104 (0, 0)) (by (with_reducible repeat (first | refine blk_drewN ?_ _ | refine blk_drew ?_ | refine blk_alloc ?_ _)); exact BK116.out) hb); have n1_ := Aside0.mk (below_step (by repeat (first | (with_reducible first | exact HB.out | apply below_alloc | apply pw_below_drewN | apply below_drew1 | refine below_set ?_ GE116.out) | exact HB.out)) hb); have n2_ := Aside0.mk (hbox); have n3_ := Aside0.mk ((by rw [hg]; exact (below_size (by repeat (first | (with_reducible first | exact HB.out | apply below_alloc | apply pw_below_drewN | apply below_drew1 | refine below_set ?_ GE116.out) | exact HB.out))) : w.heap.size ≤ gb117)); have n4_ := Aside0.mk ((by rw [hg]; exact (below_size (by repeat (first | (with_reducible first | exact HB.out | apply below_alloc | apply pw_below_drewN | apply below_drew1 | refine below_set ?_ GE116.out) | exact HB.out))) : w.heap.size ≤ gb117)); have n5_ := Aside0.mk ((by rw [hg]; exact Nat.ne_of_lt (blk_lt (g := gb116) (o := .cells #[.bool false, .int .u64 0, .int .u64 0] 104 (0, 0)) (by (with_reducible repeat (first | refine blk_drewN ?_ _ | refine blk_drew ?_ | refine blk_alloc ?_ _)); exact BK116.out)) : gb116 ≠ gb117)); have n6_ := Aside0.mk ((by rw [hg]; exact Nat.ne_of_gt (blk_lt (g := gb116) (o := .cells #[.bool false, .int .u64 0, .int .u64 0] 104 (0, 0)) (by (with_reducible repeat (first | refine blk_drewN ?_ _ | refine blk_drew ?_ | refine blk_alloc ?_ _)); exact BK116.out)) : gb117 ≠ gb116)); clear BK116; clear HB; have BK116 := n0_; have HB := n1_; have BK117 := n2_; have GW117 := n3_; have GE117 := n4_; have NB116_117 := n5_; have NB117_116 := n6_; clear n0_ n1_ n2_ n3_ n4_ n5_ n6_; clear hb hbox hg; have hnb12 := NB116_117.out; have hnc12 := NB117_116.out; obtain ⟨hcz13_0, hcz13_1, hcz13_2⟩ := cel3 BK116; obtain ⟨hfz13_0, hfz13_1, hfz13_2⟩ := frz3 BK116; obtain ⟨hcz14_0, hcz14_1, hcz14_2⟩ := cel3 BK117; obtain ⟨hfz14_0, hfz14_1, hfz14_2⟩ := frz3 BK117))
 (try simp only [Act.put, List.setIfInBounds_toArray, List.set_cons_zero, List.set_cons_succ])
 go_cut [17] (fun v17 wc => ∃ (kq : Nat) (x17_6 : Bool), v17 = .bool x17_6 ∧ Aside0 (num_CmpMul.j0 kq x17_6 t110 t111 t112 t113 t114 t115 = some r) ∧ Aside0 (kq ≤ k) ∧ Aside0 (wc.heap[gb116]? = some (.cells #[.bool t110, .int .u64 t111, .int .u64 t112] 104 (0, 0))) ∧ Aside0 (wc.heap[gb117]? = some (.cells #[.bool t113, .int .u64 t114, .int .u64 t115] 104 (0, 0))) ∧ Aside0 (Below w.heap.size w wc))
 case first =>
  have H := HC7.out
  clear HC7
  by_cases c15 : t110 = true
  ·subst c15
   have H1 : (num_CmpMul.j0 k (!t113) true t111 t112 t113 t114 t115) = some r := by rw [if_pos rfl] at H; exact H
   clear H
   have H := H1
   clear H1
   have H' := Aside0.mk H
   clear H
   have hnb16 := NB116_117.out
   have hnc16 := NB117_116.out
   obtain ⟨hcz17_0, hcz17_1, hcz17_2⟩ := cel3 BK116
   obtain ⟨hfz17_0, hfz17_1, hfz17_2⟩ := frz3 BK116
   obtain ⟨hcz18_0, hcz18_1, hcz18_2⟩ := cel3 BK117
   obtain ⟨hfz18_0, hfz18_1, hfz18_2⟩ := frz3 BK117
   go_wp2
   go_meet
   case rel => exact ⟨_, (!t113), (by first | rfl | simp [*]), H', ⟨by first | omega | exact Nat.le_refl _⟩, ⟨by (with_reducible repeat (first | refine blk_drewN ?_ _ | refine blk_drew ?_ | refine blk_alloc ?_ _)); refine blk_far ?_ NB116_117.out _; (with_reducible repeat (first | refine blk_drewN ?_ _ | refine blk_drew ?_ | refine blk_alloc ?_ _)); refine blk_far ?_ NB116_117.out _; (with_reducible repeat (first | refine blk_drewN ?_ _ | refine blk_drew ?_ | refine blk_alloc ?_ _)); refine blk_far ?_ NB116_117.out _; (with_reducible repeat (first | refine blk_drewN ?_ _ | refine blk_drew ?_ | refine blk_alloc ?_ _)); refine blk_put (cs := #[.bool true, .int .u64 t111, .int .u64 0]) ?_ 2 _ rfl; (with_reducible repeat (first | refine blk_drewN ?_ _ | refine blk_drew ?_ | refine blk_alloc ?_ _)); refine blk_put (cs := #[.bool true, .int .u64 0, .int .u64 0]) ?_ 1 _ rfl; (with_reducible repeat (first | refine blk_drewN ?_ _ | refine blk_drew ?_ | refine blk_alloc ?_ _)); refine blk_put (cs := #[.bool false, .int .u64 0, .int .u64 0]) ?_ 0 _ rfl; (with_reducible repeat (first | refine blk_drewN ?_ _ | refine blk_drew ?_ | refine blk_alloc ?_ _)); exact BK116.out⟩, ⟨by (with_reducible repeat (first | refine blk_drewN ?_ _ | refine blk_drew ?_ | refine blk_alloc ?_ _)); refine blk_put (cs := #[.bool t113, .int .u64 t114, .int .u64 0]) ?_ 2 _ rfl; (with_reducible repeat (first | refine blk_drewN ?_ _ | refine blk_drew ?_ | refine blk_alloc ?_ _)); refine blk_put (cs := #[.bool t113, .int .u64 0, .int .u64 0]) ?_ 1 _ rfl; (with_reducible repeat (first | refine blk_drewN ?_ _ | refine blk_drew ?_ | refine blk_alloc ?_ _)); refine blk_put (cs := #[.bool false, .int .u64 0, .int .u64 0]) ?_ 0 _ rfl; (with_reducible repeat (first | refine blk_drewN ?_ _ | refine blk_drew ?_ | refine blk_alloc ?_ _)); refine blk_far ?_ NB117_116.out _; (with_reducible repeat (first | refine blk_drewN ?_ _ | refine blk_drew ?_ | refine blk_alloc ?_ _)); refine blk_far ?_ NB117_116.out _; (with_reducible repeat (first | refine blk_drewN ?_ _ | refine blk_drew ?_ | refine blk_alloc ?_ _)); refine blk_far ?_ NB117_116.out _; (with_reducible repeat (first | refine blk_drewN ?_ _ | refine blk_drew ?_ | refine blk_alloc ?_ _)); exact BK117.out⟩, ⟨by repeat (first | (with_reducible first | exact HB.out | apply below_alloc | apply pw_below_drewN | apply below_drew1 | refine below_set ?_ GE116.out | refine below_set ?_ GE117.out) | exact HB.out)⟩⟩
  ·replace c15 := Bool.eq_false_iff.mpr c15
   subst c15
   have H1 : (num_CmpMul.j0 k false false t111 t112 t113 t114 t115) = some r := by rw [if_neg (show ¬ (false = true) by decide)] at H; exact H
   clear H
   have H := H1
   clear H1
   have H' := Aside0.mk H
   clear H
   have hnb19 := NB116_117.out
   have hnc19 := NB117_116.out
   obtain ⟨hcz20_0, hcz20_1, hcz20_2⟩ := cel3 BK116
   obtain ⟨hfz20_0, hfz20_1, hfz20_2⟩ := frz3 BK116
   go_wp2
   go_meet
   case rel => exact ⟨_, (false), (by first | rfl | simp [*]), H', ⟨by first | omega | exact Nat.le_refl _⟩, ⟨by (with_reducible repeat (first | refine blk_drewN ?_ _ | refine blk_drew ?_ | refine blk_alloc ?_ _)); refine blk_far ?_ NB116_117.out _; (with_reducible repeat (first | refine blk_drewN ?_ _ | refine blk_drew ?_ | refine blk_alloc ?_ _)); refine blk_far ?_ NB116_117.out _; (with_reducible repeat (first | refine blk_drewN ?_ _ | refine blk_drew ?_ | refine blk_alloc ?_ _)); refine blk_far ?_ NB116_117.out _; (with_reducible repeat (first | refine blk_drewN ?_ _ | refine blk_drew ?_ | refine blk_alloc ?_ _)); refine blk_put (cs := #[.bool false, .int .u64 t111, .int .u64 0]) ?_ 2 _ rfl; (with_reducible repeat (first | refine blk_drewN ?_ _ | refine blk_drew ?_ | refine blk_alloc ?_ _)); refine blk_put (cs := #[.bool false, .int .u64 0, .int .u64 0]) ?_ 1 _ rfl; (with_reducible repeat (first | refine blk_drewN ?_ _ | refine blk_drew ?_ | refine blk_alloc ?_ _)); refine blk_put (cs := #[.bool false, .int .u64 0, .int .u64 0]) ?_ 0 _ rfl; (with_reducible repeat (first | refine blk_drewN ?_ _ | refine blk_drew ?_ | refine blk_alloc ?_ _)); exact BK116.out⟩, ⟨by (with_reducible repeat (first | refine blk_drewN ?_ _ | refine blk_drew ?_ | refine blk_alloc ?_ _)); refine blk_put (cs := #[.bool t113, .int .u64 t114, .int .u64 0]) ?_ 2 _ rfl; (with_reducible repeat (first | refine blk_drewN ?_ _ | refine blk_drew ?_ | refine blk_alloc ?_ _)); refine blk_put (cs := #[.bool t113, .int .u64 0, .int .u64 0]) ?_ 1 _ rfl; (with_reducible repeat (first | refine blk_drewN ?_ _ | refine blk_drew ?_ | refine blk_alloc ?_ _)); refine blk_put (cs := #[.bool false, .int .u64 0, .int .u64 0]) ?_ 0 _ rfl; (with_reducible repeat (first | refine blk_drewN ?_ _ | refine blk_drew ?_ | refine blk_alloc ?_ _)); refine blk_far ?_ NB117_116.out _; (with_reducible repeat (first | refine blk_drewN ?_ _ | refine blk_drew ?_ | refine blk_alloc ?_ _)); refine blk_far ?_ NB117_116.out _; (with_reducible repeat (first | refine blk_drewN ?_ _ | refine blk_drew ?_ | refine blk_alloc ?_ _)); refine blk_far ?_ NB117_116.out _; (with_reducible repeat (first | refine blk_drewN ?_ _ | refine blk_drew ?_ | refine blk_alloc ?_ _)); exact BK117.out⟩, ⟨by repeat (first | (with_reducible first | exact HB.out | apply below_alloc | apply pw_below_drewN | apply below_drew1 | refine below_set ?_ GE116.out | refine below_set ?_ GE117.out) | exact HB.out)⟩⟩
 case rest =>
  clear HC7
  try clear c1
  try clear p2
  try clear c5
  try clear c8
  try clear c12
  try clear c15
  try clear c16
  try clear c19
  try clear hcz13_0
  try clear hcz13_1
  try clear hcz13_2
  try clear hcz14_0
  try clear hcz14_1
  try clear hcz14_2
  try clear hcz17_0
  try clear hcz17_1
  try clear hcz17_2
  try clear hcz18_0
  try clear hcz18_1
  try clear hcz18_2
  try clear hcz20_0
  try clear hcz20_1
  try clear hcz20_2
  try clear hfz13_0
  try clear hfz13_1
  try clear hfz13_2
  try clear hfz14_0
  try clear hfz14_1
  try clear hfz14_2
  try clear hfz17_0
  try clear hfz17_1
  try clear hfz17_2
  try clear hfz18_0
  try clear hfz18_1
  try clear hfz18_2
  try clear hfz20_0
  try clear hfz20_1
  try clear hfz20_2
  obtain ⟨kq, x17_6, rfl, HA, HJ6, BK116, BK117, HB⟩ := hcut
  cases kq with
  | zero => exact absurd HA.out (by simp [num_CmpMul.j0])
  | succ kj6 =>
   have H := HA.out
   clear HA
   simp only [num_CmpMul.j0] at H
   by_cases c21 : x17_6 = true
   ·subst c21
    have H1 : (some (-1)) = some r := by rw [if_pos rfl] at H; exact H
    clear H
    have H := H1
    clear H1
    obtain rfl := Option.some.inj H
    go_wp2
    go_ret
    exact ⟨by first | rfl | (simp [*] <;> rfl), by repeat (first | (with_reducible first | exact HB.out | apply below_alloc | apply pw_below_drewN | apply below_drew1 | refine below_set ?_ GE116.out | refine below_set ?_ GE117.out) | exact HB.out)⟩
   ·replace c21 := Bool.eq_false_iff.mpr c21
    subst c21
    have H1 : (if t110 = true then (num_CmpMul.j1 kj6 false t110 t111 t112 t113 t114 t115) else (num_CmpMul.j1 kj6 t113 t110 t111 t112 t113 t114 t115)) = some r := by rw [if_neg (show ¬ (false = true) by decide)] at H; exact H
    clear H
    have H := H1
    clear H1
    have HC22 := Aside0.mk H
    clear H
    go_upto_region 4 with (fail)
    go_cut [25] (fun v25 wc => ∃ (kq : Nat) (x25_21 : Bool), v25 = .bool x25_21 ∧ Aside0 (num_CmpMul.j1 kq x25_21 t110 t111 t112 t113 t114 t115 = some r) ∧ Aside0 (kq ≤ kj6) ∧ Aside0 (wc.heap[gb116]? = some (.cells #[.bool t110, .int .u64 t111, .int .u64 t112] 104 (0, 0))) ∧ Aside0 (wc.heap[gb117]? = some (.cells #[.bool t113, .int .u64 t114, .int .u64 t115] 104 (0, 0))) ∧ Aside0 (Below w.heap.size w wc))
    case first =>
     have H := HC22.out
     clear HC22
     by_cases c23 : t110 = true
     ·subst c23
      have H1 : (num_CmpMul.j1 kj6 false true t111 t112 t113 t114 t115) = some r := by rw [if_pos rfl] at H; exact H
      clear H
      have H := H1
      clear H1
      have H' := Aside0.mk H
      clear H
      have hnb24 := NB116_117.out
      have hnc24 := NB117_116.out
      obtain ⟨hcz25_0, hcz25_1, hcz25_2⟩ := cel3 BK116
      obtain ⟨hfz25_0, hfz25_1, hfz25_2⟩ := frz3 BK116
      go_wp2
      go_meet
      case rel => exact ⟨_, (false), (by first | rfl | simp [*]), H', ⟨by have := HJ6.out; first | omega | exact Nat.le_refl _⟩, ⟨by (with_reducible repeat (first | refine blk_drewN ?_ _ | refine blk_drew ?_ | refine blk_alloc ?_ _)); exact BK116.out⟩, ⟨by (with_reducible repeat (first | refine blk_drewN ?_ _ | refine blk_drew ?_ | refine blk_alloc ?_ _)); exact BK117.out⟩, ⟨by repeat (first | (with_reducible first | exact HB.out | apply below_alloc | apply pw_below_drewN | apply below_drew1 | refine below_set ?_ GE116.out | refine below_set ?_ GE117.out) | exact HB.out)⟩⟩
     ·replace c23 := Bool.eq_false_iff.mpr c23
      subst c23
      have H1 : (num_CmpMul.j1 kj6 t113 false t111 t112 t113 t114 t115) = some r := by rw [if_neg (show ¬ (false = true) by decide)] at H; exact H
      clear H
      have H := H1
      clear H1
      have H' := Aside0.mk H
      clear H
      have hnb26 := NB116_117.out
      have hnc26 := NB117_116.out
      obtain ⟨hcz27_0, hcz27_1, hcz27_2⟩ := cel3 BK116
      obtain ⟨hfz27_0, hfz27_1, hfz27_2⟩ := frz3 BK116
      obtain ⟨hcz28_0, hcz28_1, hcz28_2⟩ := cel3 BK117
      obtain ⟨hfz28_0, hfz28_1, hfz28_2⟩ := frz3 BK117
      go_wp2
      go_meet
      case rel => exact ⟨_, (t113), (by first | rfl | simp [*]), H', ⟨by have := HJ6.out; first | omega | exact Nat.le_refl _⟩, ⟨by (with_reducible repeat (first | refine blk_drewN ?_ _ | refine blk_drew ?_ | refine blk_alloc ?_ _)); exact BK116.out⟩, ⟨by (with_reducible repeat (first | refine blk_drewN ?_ _ | refine blk_drew ?_ | refine blk_alloc ?_ _)); exact BK117.out⟩, ⟨by repeat (first | (with_reducible first | exact HB.out | apply below_alloc | apply pw_below_drewN | apply below_drew1 | refine below_set ?_ GE116.out | refine below_set ?_ GE117.out) | exact HB.out)⟩⟩
    case rest =>
     clear HC22
     try clear c1
     try clear c2
     try clear p2
     try clear c5
     try clear c8
     try clear c12
     try clear c15
     try clear c16
     try clear c19
     try clear c21
     try clear c23
     try clear c24
     try clear c26
     try clear hcz13_0
     try clear hcz13_1
     try clear hcz13_2
     try clear hcz14_0
     try clear hcz14_1
     try clear hcz14_2
     try clear hcz17_0
     try clear hcz17_1
     try clear hcz17_2
     try clear hcz18_0
     try clear hcz18_1
     try clear hcz18_2
     try clear hcz20_0
     try clear hcz20_1
     try clear hcz20_2
     try clear hcz25_0
     try clear hcz25_1
     try clear hcz25_2
     try clear hcz27_0
     try clear hcz27_1
     try clear hcz27_2
     try clear hcz28_0
     try clear hcz28_1
     try clear hcz28_2
     try clear hfz13_0
     try clear hfz13_1
     try clear hfz13_2
     try clear hfz14_0
     try clear hfz14_1
     try clear hfz14_2
     try clear hfz17_0
     try clear hfz17_1
     try clear hfz17_2
     try clear hfz18_0
     try clear hfz18_1
     try clear hfz18_2
     try clear hfz20_0
     try clear hfz20_1
     try clear hfz20_2
     try clear hfz25_0
     try clear hfz25_1
     try clear hfz25_2
     try clear hfz27_0
     try clear hfz27_1
     try clear hfz27_2
     try clear hfz28_0
     try clear hfz28_1
     try clear hfz28_2
     try clear p2
     obtain ⟨kq, x25_21, rfl, HA, HJ21, BK116, BK117, HB⟩ := hcut
     cases kq with
     | zero => exact absurd HA.out (by simp [num_CmpMul.j1])
     | succ kj21 =>
      have H := HA.out
      clear HA
      simp only [num_CmpMul.j1] at H
      by_cases c29 : x25_21 = true
      ·subst c29
       have H1 : (some 1) = some r := by rw [if_pos rfl] at H; exact H
       clear H
       have H := H1
       clear H1
       obtain rfl := Option.some.inj H
       go_wp2
       go_ret
       exact ⟨by first | rfl | (simp [*] <;> rfl), by repeat (first | (with_reducible first | exact HB.out | apply below_alloc | apply pw_below_drewN | apply below_drew1 | refine below_set ?_ GE116.out | refine below_set ?_ GE117.out) | exact HB.out)⟩
      ·replace c29 := Bool.eq_false_iff.mpr c29
       subst c29
       have H1 : (if t110 = true then ((num_over.f kj21 t113 t114 t115 t110 t111 t112).bind fun t118 => (some t118)) else ((num_over.f kj21 t110 t111 t112 t113 t114 t115).bind fun t119 => (some t119))) = some r := by rw [if_neg (show ¬ (false = true) by decide)] at H; exact H
       clear H
       have H := H1
       clear H1
       by_cases c30 : t110 = true
       ·subst c30
        have H1 : ((num_over.f kj21 t113 t114 t115 true t111 t112).bind fun t118 => (some t118)) = some r := by rw [if_pos rfl] at H; exact H
        clear H
        have H := H1
        clear H1
        replace H := Option.bind_eq_some_iff.mp H
        obtain ⟨t118, A310, H⟩ := H
        replace H : (some t118) = some r := H
        have A31 := Aside0.mk A310
        clear A310
        obtain rfl := Option.some.inj H
        have hnb32 := NB116_117.out
        have hnc32 := NB117_116.out
        obtain ⟨hcz33_0, hcz33_1, hcz33_2⟩ := cel3 BK116
        obtain ⟨hfz33_0, hfz33_1, hfz33_2⟩ := frz3 BK116
        obtain ⟨hcz34_0, hcz34_1, hcz34_2⟩ := cel3 BK117
        obtain ⟨hfz34_0, hfz34_1, hfz34_2⟩ := frz3 BK117
        go_wp2_with (first | ((with_reducible refine gate_callee (f := 82) rfl ?_); refine goesL_ (some 38) rfl rfl Tryz.func82 (by kernel_rfl) rfl #[.agg #[.bool t113, .int .u64 t114, .int .u64 t115], .agg #[.bool true, .int .u64 t111, .int .u64 t112]] rfl (by (try simp only [List.map_toArray, List.map_cons, List.map_nil]); first | done | rfl | (simp only [List.length_drop, List.length_take]; rfl)) ?_; (with_reducible refine (num_over.calls kj21 t113 t114 t115 true t111 t112 t118 _ A31.out).mono ?_); rintro e w35 ⟨rfl, hb⟩; refine ⟨_, rfl, ?_⟩; have n0_ := Aside0.mk (blk_below (g := gb116) (o := .cells #[.bool true, .int .u64 t111, .int .u64 t112] 104 (0, 0)) (by (with_reducible repeat (first | refine blk_drewN ?_ _ | refine blk_drew ?_ | refine blk_alloc ?_ _)); exact BK116.out) hb); have n1_ := Aside0.mk (blk_below (g := gb117) (o := .cells #[.bool t113, .int .u64 t114, .int .u64 t115] 104 (0, 0)) (by (with_reducible repeat (first | refine blk_drewN ?_ _ | refine blk_drew ?_ | refine blk_alloc ?_ _)); exact BK117.out) hb); have n2_ := Aside0.mk (below_step (by repeat (first | (with_reducible first | exact HB.out | apply below_alloc | apply pw_below_drewN | apply below_drew1 | refine below_set ?_ GE116.out | refine below_set ?_ GE117.out) | exact HB.out)) hb); clear BK116; clear BK117; clear HB; have BK116 := n0_; have BK117 := n1_; have HB := n2_; clear n0_ n1_ n2_; (try clear hb); (try clear hb2); (try clear hk); (try clear hi)))
        go_ret
        exact ⟨by first | rfl | (simp [*] <;> rfl), by repeat (first | (with_reducible first | exact HB.out | apply below_alloc | apply pw_below_drewN | apply below_drew1 | refine below_set ?_ GE116.out | refine below_set ?_ GE117.out) | exact HB.out)⟩
       ·replace c30 := Bool.eq_false_iff.mpr c30
        subst c30
        have H1 : ((num_over.f kj21 false t111 t112 t113 t114 t115).bind fun t119 => (some t119)) = some r := by rw [if_neg (show ¬ (false = true) by decide)] at H; exact H
        clear H
        have H := H1
        clear H1
        replace H := Option.bind_eq_some_iff.mp H
        obtain ⟨t119, A360, H⟩ := H
        replace H : (some t119) = some r := H
        have A36 := Aside0.mk A360
        clear A360
        obtain rfl := Option.some.inj H
        have hnb37 := NB116_117.out
        have hnc37 := NB117_116.out
        obtain ⟨hcz38_0, hcz38_1, hcz38_2⟩ := cel3 BK116
        obtain ⟨hfz38_0, hfz38_1, hfz38_2⟩ := frz3 BK116
        obtain ⟨hcz39_0, hcz39_1, hcz39_2⟩ := cel3 BK117
        obtain ⟨hfz39_0, hfz39_1, hfz39_2⟩ := frz3 BK117
        go_wp2_with (first | ((with_reducible refine gate_callee (f := 82) rfl ?_); refine goesL_ (some 41) rfl rfl Tryz.func82 (by kernel_rfl) rfl #[.agg #[.bool false, .int .u64 t111, .int .u64 t112], .agg #[.bool t113, .int .u64 t114, .int .u64 t115]] rfl (by (try simp only [List.map_toArray, List.map_cons, List.map_nil]); first | done | rfl | (simp only [List.length_drop, List.length_take]; rfl)) ?_; (with_reducible refine (num_over.calls kj21 false t111 t112 t113 t114 t115 t119 _ A36.out).mono ?_); rintro e w40 ⟨rfl, hb⟩; refine ⟨_, rfl, ?_⟩; have n0_ := Aside0.mk (blk_below (g := gb116) (o := .cells #[.bool false, .int .u64 t111, .int .u64 t112] 104 (0, 0)) (by (with_reducible repeat (first | refine blk_drewN ?_ _ | refine blk_drew ?_ | refine blk_alloc ?_ _)); exact BK116.out) hb); have n1_ := Aside0.mk (blk_below (g := gb117) (o := .cells #[.bool t113, .int .u64 t114, .int .u64 t115] 104 (0, 0)) (by (with_reducible repeat (first | refine blk_drewN ?_ _ | refine blk_drew ?_ | refine blk_alloc ?_ _)); exact BK117.out) hb); have n2_ := Aside0.mk (below_step (by repeat (first | (with_reducible first | exact HB.out | apply below_alloc | apply pw_below_drewN | apply below_drew1 | refine below_set ?_ GE116.out | refine below_set ?_ GE117.out) | exact HB.out)) hb); clear BK116; clear BK117; clear HB; have BK116 := n0_; have BK117 := n1_; have HB := n2_; clear n0_ n1_ n2_; (try clear hb); (try clear hb2); (try clear hk); (try clear hi)))
        go_ret
        exact ⟨by first | rfl | (simp [*] <;> rfl), by repeat (first | (with_reducible first | exact HB.out | apply below_alloc | apply pw_below_drewN | apply below_drew1 | refine below_set ?_ GE116.out | refine below_set ?_ GE117.out) | exact HB.out)⟩

/-! ### surd_Bound: function 34 -/
def surd_Bound.f (k : Nat) (a0 : Int) (a1 : Int) (a2 : Int) (a3 : Int) : Option (Bool) := (surd_in.f a0 0 1000000000).bind fun t120 => (if t120 = true then ((surd_in.f a1 0 1000000000).bind fun t121 => (if t121 = true then ((surd_root.f a2 a3).bind fun t122 => (if t122 = true then (if (wrap64 ((wrap64 ((wrap64 (a0 * a3)) - (wrap64 (a1 * a3)))) - (wrap64 (a1 * a2)))) ≤ 0 then (some true) else ((num_CmpMul.f k (wrap64 ((wrap64 ((wrap64 (a0 * a3)) - (wrap64 (a1 * a3)))) - (wrap64 (a1 * a2)))) (wrap64 ((wrap64 ((wrap64 (a0 * a3)) - (wrap64 (a1 * a3)))) - (wrap64 (a1 * a2)))) (wrap64 ((wrap64 (4 * a1)) * a1)) (wrap64 (a2 * a3))).bind fun t123 => (some (decide (t123 ≤ 0))))) else (some false))) else (some false))) else (some false))
set_option maxHeartbeats 8000000 in
set_option maxRecDepth 100000 in
theorem surd_Bound.calls (k : Nat) (a0 : Int) (a1 : Int) (a2 : Int) (a3 : Int) (r : Bool) (w : World) (h : surd_Bound.f k a0 a1 a2 a3 = some r) :
  Calls Tryz.prog 34 #[.int .i64 a0, .int .i64 a1, .int .i64 a2, .int .i64 a3] w fun e w' => e = .returned (.bool r) ∧ Below w.heap.size w w' := by
 have HB := Aside0.mk (Below.refl w.heap.size w)
 have H : ((surd_in.f a0 0 1000000000).bind fun t120 => (if t120 = true then ((surd_in.f a1 0 1000000000).bind fun t121 => (if t121 = true then ((surd_root.f a2 a3).bind fun t122 => (if t122 = true then (if (wrap64 ((wrap64 ((wrap64 (a0 * a3)) - (wrap64 (a1 * a3)))) - (wrap64 (a1 * a2)))) ≤ 0 then (some true) else ((num_CmpMul.f k (wrap64 ((wrap64 ((wrap64 (a0 * a3)) - (wrap64 (a1 * a3)))) - (wrap64 (a1 * a2)))) (wrap64 ((wrap64 ((wrap64 (a0 * a3)) - (wrap64 (a1 * a3)))) - (wrap64 (a1 * a2)))) (wrap64 ((wrap64 (4 * a1)) * a1)) (wrap64 (a2 * a3))).bind fun t123 => (some (decide (t123 ≤ 0))))) else (some false))) else (some false))) else (some false))) = some r := h
 clear h
 replace H := Option.bind_eq_some_iff.mp H
 obtain ⟨t120, A50, H⟩ := H
 replace H : (if t120 = true then ((surd_in.f a1 0 1000000000).bind fun t121 => (if t121 = true then ((surd_root.f a2 a3).bind fun t122 => (if t122 = true then (if (wrap64 ((wrap64 ((wrap64 (a0 * a3)) - (wrap64 (a1 * a3)))) - (wrap64 (a1 * a2)))) ≤ 0 then (some true) else ((num_CmpMul.f k (wrap64 ((wrap64 ((wrap64 (a0 * a3)) - (wrap64 (a1 * a3)))) - (wrap64 (a1 * a2)))) (wrap64 ((wrap64 ((wrap64 (a0 * a3)) - (wrap64 (a1 * a3)))) - (wrap64 (a1 * a2)))) (wrap64 ((wrap64 (4 * a1)) * a1)) (wrap64 (a2 * a3))).bind fun t123 => (some (decide (t123 ≤ 0))))) else (some false))) else (some false))) else (some false)) = some r := H
 have A5 := Aside0.mk A50
 clear A50
 by_cases c6 : t120 = true
 ·subst c6
  have H1 : ((surd_in.f a1 0 1000000000).bind fun t121 => (if t121 = true then ((surd_root.f a2 a3).bind fun t122 => (if t122 = true then (if (wrap64 ((wrap64 ((wrap64 (a0 * a3)) - (wrap64 (a1 * a3)))) - (wrap64 (a1 * a2)))) ≤ 0 then (some true) else ((num_CmpMul.f k (wrap64 ((wrap64 ((wrap64 (a0 * a3)) - (wrap64 (a1 * a3)))) - (wrap64 (a1 * a2)))) (wrap64 ((wrap64 ((wrap64 (a0 * a3)) - (wrap64 (a1 * a3)))) - (wrap64 (a1 * a2)))) (wrap64 ((wrap64 (4 * a1)) * a1)) (wrap64 (a2 * a3))).bind fun t123 => (some (decide (t123 ≤ 0))))) else (some false))) else (some false))) = some r := by rw [if_pos rfl] at H; exact H
  clear H
  have H := H1
  clear H1
  replace H := Option.bind_eq_some_iff.mp H
  obtain ⟨t121, A70, H⟩ := H
  replace H : (if t121 = true then ((surd_root.f a2 a3).bind fun t122 => (if t122 = true then (if (wrap64 ((wrap64 ((wrap64 (a0 * a3)) - (wrap64 (a1 * a3)))) - (wrap64 (a1 * a2)))) ≤ 0 then (some true) else ((num_CmpMul.f k (wrap64 ((wrap64 ((wrap64 (a0 * a3)) - (wrap64 (a1 * a3)))) - (wrap64 (a1 * a2)))) (wrap64 ((wrap64 ((wrap64 (a0 * a3)) - (wrap64 (a1 * a3)))) - (wrap64 (a1 * a2)))) (wrap64 ((wrap64 (4 * a1)) * a1)) (wrap64 (a2 * a3))).bind fun t123 => (some (decide (t123 ≤ 0))))) else (some false))) else (some false)) = some r := H
  have A7 := Aside0.mk A70
  clear A70
  by_cases c8 : t121 = true
  ·subst c8
   have H1 : ((surd_root.f a2 a3).bind fun t122 => (if t122 = true then (if (wrap64 ((wrap64 ((wrap64 (a0 * a3)) - (wrap64 (a1 * a3)))) - (wrap64 (a1 * a2)))) ≤ 0 then (some true) else ((num_CmpMul.f k (wrap64 ((wrap64 ((wrap64 (a0 * a3)) - (wrap64 (a1 * a3)))) - (wrap64 (a1 * a2)))) (wrap64 ((wrap64 ((wrap64 (a0 * a3)) - (wrap64 (a1 * a3)))) - (wrap64 (a1 * a2)))) (wrap64 ((wrap64 (4 * a1)) * a1)) (wrap64 (a2 * a3))).bind fun t123 => (some (decide (t123 ≤ 0))))) else (some false))) = some r := by rw [if_pos rfl] at H; exact H
   clear H
   have H := H1
   clear H1
   replace H := Option.bind_eq_some_iff.mp H
   obtain ⟨t122, A90, H⟩ := H
   replace H : (if t122 = true then (if (wrap64 ((wrap64 ((wrap64 (a0 * a3)) - (wrap64 (a1 * a3)))) - (wrap64 (a1 * a2)))) ≤ 0 then (some true) else ((num_CmpMul.f k (wrap64 ((wrap64 ((wrap64 (a0 * a3)) - (wrap64 (a1 * a3)))) - (wrap64 (a1 * a2)))) (wrap64 ((wrap64 ((wrap64 (a0 * a3)) - (wrap64 (a1 * a3)))) - (wrap64 (a1 * a2)))) (wrap64 ((wrap64 (4 * a1)) * a1)) (wrap64 (a2 * a3))).bind fun t123 => (some (decide (t123 ≤ 0))))) else (some false)) = some r := H
   have A9 := Aside0.mk A90
   clear A90
   by_cases c10 : t122 = true
   ·subst c10
    have H1 : (if (wrap64 ((wrap64 ((wrap64 (a0 * a3)) - (wrap64 (a1 * a3)))) - (wrap64 (a1 * a2)))) ≤ 0 then (some true) else ((num_CmpMul.f k (wrap64 ((wrap64 ((wrap64 (a0 * a3)) - (wrap64 (a1 * a3)))) - (wrap64 (a1 * a2)))) (wrap64 ((wrap64 ((wrap64 (a0 * a3)) - (wrap64 (a1 * a3)))) - (wrap64 (a1 * a2)))) (wrap64 ((wrap64 (4 * a1)) * a1)) (wrap64 (a2 * a3))).bind fun t123 => (some (decide (t123 ≤ 0))))) = some r := by rw [if_pos rfl] at H; exact H
    clear H
    have H := H1
    clear H1
    by_cases c11 : (wrap64 ((wrap64 ((wrap64 (a0 * a3)) - (wrap64 (a1 * a3)))) - (wrap64 (a1 * a2)))) ≤ 0
    ·rw [if_pos c11] at H
     have c11b0 : decide ((wrap64 ((wrap64 ((wrap64 (a0 * a3)) - (wrap64 (a1 * a3)))) - (wrap64 (a1 * a2)))) ≤ 0) = true := decide_eq_true c11
     clear c11
     obtain rfl := Option.some.inj H
     go_enter Tryz.func34, Tryz.ntmps34
     go_wp2_with (first | ((with_reducible refine gate_callee (f := 53) rfl ?_); refine goesL_ (some 11) rfl rfl Tryz.func53 (by kernel_rfl) rfl #[.int .i64 a0, .int .i64 0, .int .i64 1000000000] rfl (by (try simp only [List.map_toArray, List.map_cons, List.map_nil]); first | done | rfl | (simp only [List.length_drop, List.length_take]; rfl)) ?_; (with_reducible refine (surd_in.calls a0 0 1000000000 true _ A5.out).mono ?_); rintro e w' ⟨rfl, ⟨nd, rfl⟩⟩; refine ⟨_, rfl, ?_⟩) | (go_at_call 53; (with_reducible refine (surd_in.calls a1 0 1000000000 true _ A7.out).mono ?_); rintro e w' ⟨rfl, ⟨nd, rfl⟩⟩) | (go_at_call 54; (with_reducible refine (surd_root.calls a2 a3 true _ A9.out).mono ?_); rintro e w' ⟨rfl, ⟨nd, rfl⟩⟩))
     go_ret
     exact ⟨by first | rfl | (simp [*] <;> rfl), bel HB⟩
    ·rw [if_neg c11] at H
     have c11b0 : decide ((wrap64 ((wrap64 ((wrap64 (a0 * a3)) - (wrap64 (a1 * a3)))) - (wrap64 (a1 * a2)))) ≤ 0) = false := decide_eq_false c11
     clear c11
     replace H := Option.bind_eq_some_iff.mp H
     obtain ⟨t123, A120, H⟩ := H
     replace H : (some (decide (t123 ≤ 0))) = some r := H
     have A12 := Aside0.mk A120
     clear A120
     obtain rfl := Option.some.inj H
     go_enter Tryz.func34, Tryz.ntmps34
     go_wp2_with (first | ((with_reducible refine gate_callee (f := 53) rfl ?_); refine goesL_ (some 11) rfl rfl Tryz.func53 (by kernel_rfl) rfl #[.int .i64 a0, .int .i64 0, .int .i64 1000000000] rfl (by (try simp only [List.map_toArray, List.map_cons, List.map_nil]); first | done | rfl | (simp only [List.length_drop, List.length_take]; rfl)) ?_; (with_reducible refine (surd_in.calls a0 0 1000000000 true _ A5.out).mono ?_); rintro e w' ⟨rfl, ⟨nd, rfl⟩⟩; refine ⟨_, rfl, ?_⟩) | (go_at_call 53; (with_reducible refine (surd_in.calls a1 0 1000000000 true _ A7.out).mono ?_); rintro e w' ⟨rfl, ⟨nd, rfl⟩⟩) | (go_at_call 54; (with_reducible refine (surd_root.calls a2 a3 true _ A9.out).mono ?_); rintro e w' ⟨rfl, ⟨nd, rfl⟩⟩) | (go_at_call 55; (with_reducible refine (num_CmpMul.calls k (wrap64 ((wrap64 ((wrap64 (a0 * a3)) - (wrap64 (a1 * a3)))) - (wrap64 (a1 * a2)))) (wrap64 ((wrap64 ((wrap64 (a0 * a3)) - (wrap64 (a1 * a3)))) - (wrap64 (a1 * a2)))) (wrap64 ((wrap64 (4 * a1)) * a1)) (wrap64 (a2 * a3)) t123 _ A12.out).mono ?_); rintro e w13 ⟨rfl, hb⟩; have n0_ := Aside0.mk (below_step (bel HB) hb); clear HB; have HB := n0_; clear n0_; (try clear hb); (try clear hb2); (try clear hk); (try clear hi)))
     go_ret
     exact ⟨by first | rfl | (simp [*] <;> rfl), bel HB⟩
   ·replace c10 := Bool.eq_false_iff.mpr c10
    subst c10
    have H1 : (some false) = some r := by rw [if_neg (show ¬ (false = true) by decide)] at H; exact H
    clear H
    have H := H1
    clear H1
    obtain rfl := Option.some.inj H
    go_enter Tryz.func34, Tryz.ntmps34
    go_wp2_with (first | ((with_reducible refine gate_callee (f := 53) rfl ?_); refine goesL_ (some 11) rfl rfl Tryz.func53 (by kernel_rfl) rfl #[.int .i64 a0, .int .i64 0, .int .i64 1000000000] rfl (by (try simp only [List.map_toArray, List.map_cons, List.map_nil]); first | done | rfl | (simp only [List.length_drop, List.length_take]; rfl)) ?_; (with_reducible refine (surd_in.calls a0 0 1000000000 true _ A5.out).mono ?_); rintro e w' ⟨rfl, ⟨nd, rfl⟩⟩; refine ⟨_, rfl, ?_⟩) | (go_at_call 53; (with_reducible refine (surd_in.calls a1 0 1000000000 true _ A7.out).mono ?_); rintro e w' ⟨rfl, ⟨nd, rfl⟩⟩) | (go_at_call 54; (with_reducible refine (surd_root.calls a2 a3 false _ A9.out).mono ?_); rintro e w' ⟨rfl, ⟨nd, rfl⟩⟩))
    go_ret
    exact ⟨by first | rfl | (simp [*] <;> rfl), bel HB⟩
  ·replace c8 := Bool.eq_false_iff.mpr c8
   subst c8
   have H1 : (some false) = some r := by rw [if_neg (show ¬ (false = true) by decide)] at H; exact H
   clear H
   have H := H1
   clear H1
   obtain rfl := Option.some.inj H
   go_enter Tryz.func34, Tryz.ntmps34
   go_wp2_with (first | ((with_reducible refine gate_callee (f := 53) rfl ?_); refine goesL_ (some 11) rfl rfl Tryz.func53 (by kernel_rfl) rfl #[.int .i64 a0, .int .i64 0, .int .i64 1000000000] rfl (by (try simp only [List.map_toArray, List.map_cons, List.map_nil]); first | done | rfl | (simp only [List.length_drop, List.length_take]; rfl)) ?_; (with_reducible refine (surd_in.calls a0 0 1000000000 true _ A5.out).mono ?_); rintro e w' ⟨rfl, ⟨nd, rfl⟩⟩; refine ⟨_, rfl, ?_⟩) | (go_at_call 53; (with_reducible refine (surd_in.calls a1 0 1000000000 false _ A7.out).mono ?_); rintro e w' ⟨rfl, ⟨nd, rfl⟩⟩))
   go_ret
   exact ⟨by first | rfl | (simp [*] <;> rfl), bel HB⟩
 ·replace c6 := Bool.eq_false_iff.mpr c6
  subst c6
  have H1 : (some false) = some r := by rw [if_neg (show ¬ (false = true) by decide)] at H; exact H
  clear H
  have H := H1
  clear H1
  obtain rfl := Option.some.inj H
  go_enter Tryz.func34, Tryz.ntmps34
  go_wp2_with (first | ((with_reducible refine gate_callee (f := 53) rfl ?_); refine goesL_ (some 11) rfl rfl Tryz.func53 (by kernel_rfl) rfl #[.int .i64 a0, .int .i64 0, .int .i64 1000000000] rfl (by (try simp only [List.map_toArray, List.map_cons, List.map_nil]); first | done | rfl | (simp only [List.length_drop, List.length_take]; rfl)) ?_; (with_reducible refine (surd_in.calls a0 0 1000000000 false _ A5.out).mono ?_); rintro e w' ⟨rfl, ⟨nd, rfl⟩⟩; refine ⟨_, rfl, ?_⟩))
  go_ret
  exact ⟨by first | rfl | (simp [*] <;> rfl), bel HB⟩

/-- THE ONE PURE STATEMENT of surd_Bound: yours. -/
def surd_Bound.Pure : Prop := ∀ (a0 : Int) (a1 : Int) (a2 : Int) (a3 : Int), (Lit.int .i64 a0).wf = true → (Lit.int .i64 a1).wf = true → (Lit.int .i64 a2).wf = true → (Lit.int .i64 a3).wf = true → ∃ k, surd_Bound.f k a0 a1 a2 a3 = some true
theorem surd_Bound.walk (P : surd_Bound.Pure) (a0 : Int) (a1 : Int) (a2 : Int) (a3 : Int) (w : World) (w0 : (Lit.int .i64 a0).wf = true) (w1 : (Lit.int .i64 a1).wf = true) (w2 : (Lit.int .i64 a2).wf = true) (w3 : (Lit.int .i64 a3).wf = true) :
  Calls Tryz.prog 34 #[.int .i64 a0, .int .i64 a1, .int .i64 a2, .int .i64 a3] w fun e w' => e = .returned (.bool true) ∧ Below w.heap.size w w' := by
 obtain ⟨k, h⟩ := P a0 a1 a2 a3 w0 w1 w2 w3
 refine (surd_Bound.calls k a0 a1 a2 a3 true w h).mono ?_
 rintro e w' ⟨rfl, hd⟩
 exact ⟨rfl, hd⟩

end Go.Proofs.YtobkfbkhcghaeaaGreatDoor.PSb
namespace Go.Proofs.YtobkfbkhcghaeaaGreatDoor.PSb
open Go.RowKit Go.Proofs.YtobkfbkhcghaeaaGreatDoor.PSb Go.Proofs.YtobkfbkhcghaeaaGreatDoorW.PrintWords Go.Proofs.YtobkfbkhcghaeaaGreatDoorW.PrintLast Go.Proofs.YtobkfbkhcghaeaaGreatDoorW.PrintMore 
set_option linter.unusedVariables false
set_option linter.unusedSimpArgs false

theorem w64 {x : Int} (h0 : -9223372036854775808 ≤ x) (h1 : x ≤ 9223372036854775807) : wrap64 x = x := by unfold wrap64; omega
theorem wu64 {x : Int} (h0 : 0 ≤ x) (h1 : x < 18446744073709551616) : IntKind.u64.wrap x = x := by rw [IntKind.wrap_u64]; omega
theorem wf_i64 {a : Int} (h : (Lit.int .i64 a).wf = true) : -9223372036854775808 ≤ a ∧ a ≤ 9223372036854775807 := by
 simp [Lit.wf, IntKind.min, IntKind.max, IntKind.signed, IntKind.bits] at h
 omega
theorem mul_bd {x y : Int} (a b : Int) (h1 : -a ≤ x) (h2 : x ≤ a) (h3 : -b ≤ y) (h4 : y ≤ b) : -(a * b) ≤ x * y ∧ x * y ≤ a * b := by
 have hx : x.natAbs ≤ a.natAbs := by omega
 have hy : y.natAbs ≤ b.natAbs := by omega
 have h := Nat.mul_le_mul hx hy
 rw [← Int.natAbs_mul, ← Int.natAbs_mul] at h
 have ha : 0 ≤ a * b := Int.mul_nonneg (by omega) (by omega)
 omega
theorem mul_bd0 {x y : Int} (a b : Int) (h1 : 0 ≤ x) (h2 : x ≤ a) (h3 : 0 ≤ y) (h4 : y ≤ b) : 0 ≤ x * y ∧ x * y ≤ a * b :=
 ⟨Int.mul_nonneg h1 h3, Int.mul_le_mul h2 h4 h3 (Int.le_trans h1 h2)⟩
theorem g_if {c : Prop} [Decidable c] {X : Option Bool} (h : ¬ c → X = some true) : (if c then some true else X) = some true := by
 by_cases g : c
 ·rw [if_pos g]
 ·rw [if_neg g]; exact h g

theorem mask32 {x : Int} (h0 : 0 ≤ x) (h1 : x < 18446744073709551616) : Go.bits .and .u64 x 4294967295 = x % 4294967296 :=
 bits_mask .u64 64 (by decide) (fun n h h' => by rw [IntKind.wrap_u64]; omega) 32 (by decide) x h0 h1
theorem bits_or_pos {x y : Int} (hx0 : 0 ≤ x) (hx1 : x < 18446744073709551616) (hy0 : 0 ≤ y) (hy1 : y < 18446744073709551616) : (Go.bits .or .u64 x y > 0) ↔ (x ≠ 0 ∨ y ≠ 0) := by
 obtain ⟨a, rfl⟩ := Int.eq_ofNat_of_zero_le hx0
 obtain ⟨b, rfl⟩ := Int.eq_ofNat_of_zero_le hy0
 rw [(bits_nat .u64 64 (by decide) (fun n h h' => by rw [IntKind.wrap_u64]; omega) a b (by omega) (by omega)).2]
 have h1 : a ≤ a ||| b := Nat.left_le_or
 have h2 : b ≤ a ||| b := Nat.right_le_or
 constructor
 ·intro h
  by_cases ha : a = 0
  ·subst ha
   right
   rw [Nat.zero_or] at h
   omega
  ·left; omega
 ·intro h; omega
theorem mul_parts {a b : Int} (ha0 : 0 ≤ a) (ha1 : a < 18446744073709551616) (hb0 : 0 ≤ b) (hb1 : b < 18446744073709551616) :
  ∃ p q r s : Int, (a / 4294967296) * (b / 4294967296) = p ∧ (a / 4294967296) * (b % 4294967296) = q ∧ (a % 4294967296) * (b / 4294967296) = r ∧ (a % 4294967296) * (b % 4294967296) = s ∧
   a * b = p * 18446744073709551616 + (q + r) * 4294967296 + s ∧ 0 ≤ p ∧ p ≤ 18446744065119617025 ∧ 0 ≤ q ∧ q ≤ 18446744065119617025 ∧ 0 ≤ r ∧ r ≤ 18446744065119617025 ∧ 0 ≤ s ∧ s ≤ 18446744065119617025 := by
 have e : a = (a / 4294967296) * 4294967296 + a % 4294967296 := by omega
 have f : b = (b / 4294967296) * 4294967296 + b % 4294967296 := by omega
 refine ⟨_, _, _, _, rfl, rfl, rfl, rfl, ?_, ?_⟩
 ·have g : ((a / 4294967296) * 4294967296 + a % 4294967296) * ((b / 4294967296) * 4294967296 + b % 4294967296) = (a / 4294967296) * (b / 4294967296) * 18446744073709551616 + ((a / 4294967296) * (b % 4294967296) + (a % 4294967296) * (b / 4294967296)) * 4294967296 + (a % 4294967296) * (b % 4294967296) := by
   generalize a / 4294967296 = x; generalize a % 4294967296 = y; generalize b / 4294967296 = z; generalize b % 4294967296 = t
   grind
  rw [← e, ← f] at g
  exact g
 ·have h1 := mul_bd0 (x := a / 4294967296) (y := b / 4294967296) 4294967295 4294967295 (by omega) (by omega) (by omega) (by omega)
  have h2 := mul_bd0 (x := a / 4294967296) (y := b % 4294967296) 4294967295 4294967295 (by omega) (by omega) (by omega) (by omega)
  have h3 := mul_bd0 (x := a % 4294967296) (y := b / 4294967296) 4294967295 4294967295 (by omega) (by omega) (by omega) (by omega)
  have h4 := mul_bd0 (x := a % 4294967296) (y := b % 4294967296) 4294967295 4294967295 (by omega) (by omega) (by omega) (by omega)
  omega
theorem mul64_is (a b : Int) (ha0 : 0 ≤ a) (ha1 : a < 18446744073709551616) (hb0 : 0 ≤ b) (hb1 : b < 18446744073709551616) :
  bits_Mul64.f a b = some (a * b / 18446744073709551616, a * b % 18446744073709551616) := by
 obtain ⟨p, q, r, s, hp, hq, hr, hs, he, b1⟩ := mul_parts ha0 ha1 hb0 hb1
 unfold bits_Mul64.f
 rw [mask32 ha0 ha1, mask32 hb0 hb1, hp, hq, hr, hs, he]
 simp only [IntKind.wrap_u64]
 rw [mask32 (by omega) (by omega)]
 congr 2 <;> omega

/-- How one number compares to another. -/
def cmpI (x y : Int) : Int := if x < y then -1 else if x = y then 0 else 1
/-- A number of 128 bits, its side first. -/
theorem side_is (a : Int) (h0 : -9223372036854775808 ≤ a) (h1 : a ≤ 9223372036854775807) : num_side.f a = some (a.natAbs : Int) := by
 unfold num_side.f
 simp only [IntKind.wrap_u64]
 split <;> (congr 1; omega)
theorem natAbs_mul_i (a b : Int) : (a.natAbs : Int) * (b.natAbs : Int) = ((a * b).natAbs : Int) := by
 rw [Int.natAbs_mul]; simp
theorem natAbs_bd (a b : Int) (ha0 : -9223372036854775808 ≤ a) (ha1 : a ≤ 9223372036854775807) (hb0 : -9223372036854775808 ≤ b) (hb1 : b ≤ 9223372036854775807) : ((a * b).natAbs : Int) ≤ 85070591730234615865843651857942052864 := by
 have := mul_bd (x := a) (y := b) 9223372036854775808 9223372036854775808 (by omega) (by omega) (by omega) (by omega)
 omega
theorem neg_mul_iff (a b : Int) : (a * b < 0) ↔ ((decide (a < 0)) != (decide (b < 0))) = true ∧ a * b ≠ 0 := by
 rcases Int.lt_trichotomy a 0 with h | h | h <;> rcases Int.lt_trichotomy b 0 with g | g | g
 ·have := Int.mul_pos_of_neg_of_neg h g
  simp [h, g]; omega
 ·subst g; simp
 ·have := Int.mul_neg_of_neg_of_pos h g
  have hb : ¬ b < 0 := by omega
  simp [h, hb]; omega
 ·subst h; simp
 ·subst h; simp
 ·subst h; simp
 ·have := Int.mul_neg_of_pos_of_neg h g
  have ha : ¬ a < 0 := by omega
  simp [g, ha]; omega
 ·subst g; simp
 ·have := Int.mul_pos h g
  have ha : ¬ a < 0 := by omega
  have hb : ¬ b < 0 := by omega
  simp [ha, hb]; omega
theorem product_is (a b : Int) (ha0 : -9223372036854775808 ≤ a) (ha1 : a ≤ 9223372036854775807) (hb0 : -9223372036854775808 ≤ b) (hb1 : b ≤ 9223372036854775807) :
  num_product.f a b = some (decide (a * b < 0), ((a * b).natAbs : Int) / 18446744073709551616, ((a * b).natAbs : Int) % 18446744073709551616) := by
 have hbd := natAbs_bd a b ha0 ha1 hb0 hb1
 unfold num_product.f
 rw [side_is a ha0 ha1, side_is b hb0 hb1]
 simp only [Option.bind_some]
 rw [mul64_is _ _ (by omega) (by omega) (by omega) (by omega), natAbs_mul_i]
 simp only [Option.bind_some]
 have hn := neg_mul_iff a b
 split
 ·rename_i h
  congr 2
  rw [decide_eq_decide]
  rw [bits_or_pos (by omega) (by omega) (by omega) (by omega), hn]
  constructor
  ·intro g; exact ⟨h, by omega⟩
  ·intro g; have := g.2; omega
 ·rename_i h
  congr 2
  have : ¬ a * b < 0 := fun g => h (hn.1 g).1
  simp [this]
theorem over_is (k : Nat) (x y : Bool) (a b : Int) :
  num_over.f (k + 2) x (a / 18446744073709551616) (a % 18446744073709551616) y (b / 18446744073709551616) (b % 18446744073709551616) = some (cmpI a b) := by
 unfold num_over.f
 simp only [num_over.j0, num_over.j1]
 unfold cmpI
 split
 ·rename_i h
  simp only [h, Bool.false_eq_true, if_false, if_true]
  by_cases h1 : a % 18446744073709551616 < b % 18446744073709551616
  ·simp only [h1, decide_true, if_true]
   rw [if_pos (by omega)]
  ·simp only [h1, decide_false, Bool.false_eq_true, if_false]
   rw [if_neg (show ¬ a < b by omega)]
   by_cases h2 : a % 18446744073709551616 = b % 18446744073709551616
   ·rw [if_pos h2, if_pos (by omega)]
   ·rw [if_neg h2, if_neg (by omega)]
 ·rename_i h
  by_cases h1 : a / 18446744073709551616 < b / 18446744073709551616
  ·simp only [h1, decide_true, if_true]
   rw [if_pos (by omega)]
  ·simp only [h1, decide_false, Bool.false_eq_true, if_false, h]
   rw [if_neg (show ¬ a < b by omega), if_neg (by omega)]
theorem cmpmul_is (k : Nat) (a b c d : Int) (ha0 : -9223372036854775808 ≤ a) (ha1 : a ≤ 9223372036854775807) (hb0 : -9223372036854775808 ≤ b) (hb1 : b ≤ 9223372036854775807)
  (hc0 : -9223372036854775808 ≤ c) (hc1 : c ≤ 9223372036854775807) (hd0 : -9223372036854775808 ≤ d) (hd1 : d ≤ 9223372036854775807) :
  num_CmpMul.f (k + 4) a b c d = some (cmpI (a * b) (c * d)) := by
 unfold num_CmpMul.f
 rw [product_is a b ha0 ha1 hb0 hb1, product_is c d hc0 hc1 hd0 hd1]
 generalize a * b = x
 generalize c * d = y
 simp only [Option.bind_some, num_CmpMul.j0, num_CmpMul.j1, over_is]
 unfold cmpI
 by_cases hx : x < 0 <;> by_cases hy : y < 0 <;> simp only [hx, hy, decide_true, decide_false, if_true, if_false, Bool.not_true, Bool.not_false, Bool.false_eq_true]
 ·congr 1; repeat' split
  all_goals omega
 ·congr 1; repeat' split
  all_goals omega
 ·congr 1; repeat' split
  all_goals omega
 ·congr 1; repeat' split
  all_goals omega

abbrev inB (n a b : Int) : Prop := a ≤ n ∧ n ≤ b
theorem in_is (n a b : Int) : surd_in.f n a b = some (decide (inB n a b)) := by
 unfold surd_in.f inB
 split
 ·rename_i h; congr 1; rw [decide_eq_decide]; omega
 ·rename_i h; congr 1; symm; rw [decide_eq_false_iff_not]; omega
theorem root_is (p q : Int) : surd_root.f p q = some (decide (inB p 0 1000000 ∧ inB q 1 1000000)) := by
 unfold surd_root.f
 rw [in_is, in_is]
 simp only [Option.bind_some]
 by_cases h : inB p 0 1000000 <;> by_cases g : inB q 1 1000000 <;> simp [h, g]
theorem cmpI_cases (x y : Int) : cmpI x y = -1 ∧ x < y ∨ cmpI x y = 0 ∧ x = y ∨ cmpI x y = 1 ∧ y < x := by
 unfold cmpI; repeat' split
 all_goals omega

abbrev boundP (v w p q : Int) : Prop := inB v 0 1000000000 ∧ inB w 0 1000000000 ∧ inB p 0 1000000 ∧ inB q 1 1000000 ∧ (v * q - w * q - w * p ≤ 0 ∨ (v * q - w * q - w * p) * (v * q - w * q - w * p) ≤ 4 * w * w * (p * q))
theorem bound_is (k : Nat) (v w p q : Int) : surd_Bound.f (k + 4) v w p q = some (decide (boundP v w p q)) := by
 unfold surd_Bound.f boundP
 rw [in_is, in_is, root_is]
 simp only [Option.bind_some]
 by_cases h1 : inB v 0 1000000000 <;> by_cases h2 : inB w 0 1000000000 <;> by_cases h3 : inB p 0 1000000 <;> by_cases h4 : inB q 1 1000000 <;> simp [h1, h2, h3, h4]
 unfold inB at h1 h2 h3 h4
 have b1 := mul_bd0 (x := v) (y := q) 1000000000 1000000 (by omega) (by omega) (by omega) (by omega)
 have b2 := mul_bd0 (x := w) (y := q) 1000000000 1000000 (by omega) (by omega) (by omega) (by omega)
 have b3 := mul_bd0 (x := w) (y := p) 1000000000 1000000 (by omega) (by omega) (by omega) (by omega)
 have b4 := mul_bd0 (x := p) (y := q) 1000000 1000000 (by omega) (by omega) (by omega) (by omega)
 have b5 := mul_bd0 (x := 4 * w) (y := w) 4000000000 1000000000 (by omega) (by omega) (by omega) (by omega)
 rw [w64 (x := v * q) (by omega) (by omega), w64 (x := w * q) (by omega) (by omega), w64 (x := w * p) (by omega) (by omega), w64 (x := p * q) (by omega) (by omega), w64 (x := 4 * w) (by omega) (by omega), w64 (x := 4 * w * w) (by omega) (by omega)]
 rw [w64 (x := v * q - w * q) (by omega) (by omega), w64 (x := v * q - w * q - w * p) (by omega) (by omega)]
 rw [cmpmul_is k _ _ _ _ (by omega) (by omega) (by omega) (by omega) (by omega) (by omega) (by omega) (by omega)]
 generalize v * q - w * q - w * p = a
 simp only [Option.bind_some]
 have hc := cmpI_cases (a * a) (4 * w * w * (p * q))
 by_cases ha : a ≤ 0
 ·simp [ha]
 ·simp only [ha, if_false, decide_false, Bool.false_or, Option.some.injEq, decide_eq_decide]
  omega

theorem bound_c (v w p q : Int) (W : World) : Calls Tryz.prog 34 #[.int .i64 v, .int .i64 w, .int .i64 p, .int .i64 q] W fun e w' => e = .returned (.bool (decide (boundP v w p q))) ∧ Below W.heap.size W w' :=
 surd_Bound.calls 4 v w p q _ W (bound_is 0 v w p q)

end Go.Proofs.YtobkfbkhcghaeaaGreatDoor.PSb
