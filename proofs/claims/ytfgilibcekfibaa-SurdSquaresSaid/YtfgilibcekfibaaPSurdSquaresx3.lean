-- PRINTED BY print.sh 35421559b90ae4d0a3588c463048766b98c2df88dd9212a6774a882060cdf62d: not written by this session
import Derived.Test.YtfgilibcekfibaaPSurdSquaresx0
import Derived.Test.YtfgilibcekfibaaPSurdSquaresx2
namespace Go.Proofs.Ytfgilibcekfibaa.PSurdSquares
open Go.RowKit Go.Proofs.YtfgilibcekfibaaW.PrintWords Go.Proofs.YtfgilibcekfibaaW.PrintLast Go.Proofs.YtfgilibcekfibaaW.PrintMore
attribute [local go_sem] max2_int min2_int max_two min_two max_three min_three max_four min_four   -- for this text's walks alone
set_option linter.unusedVariables false
set_option linter.unusedSimpArgs false

/-! ### tocsinlaw2_SurdSquares: function 4 -/
def tocsinlaw2_SurdSquares.j0 : Nat → Int → Int → Int → Int → Bool → Option (Bool)
  | 0, _, _, _, _, _ => none
  | k + 1, x0, x1, x2, x3, x42 => if x42 = true then (some true) else (if (wrap64 ((wrap64 (x0 * x3)) + (wrap64 (x1 * x2)))) < 0 then (if (wrap64 ((wrap64 (x0 * x3)) + (wrap64 (x1 * x2)))) > 0 then ((surd_Sign.f k x0 x1 (wrap64 (x2 * x2)) (wrap64 (x3 * x3))).bind fun t139 => (some (t139 == 1))) else ((surd_Sign.f k x0 x1 (wrap64 (x2 * x2)) (wrap64 (x3 * x3))).bind fun t140 => (some (t140 == (-1))))) else (if (wrap64 ((wrap64 (x0 * x3)) + (wrap64 (x1 * x2)))) > 0 then ((surd_Sign.f k x0 x1 (wrap64 (x2 * x2)) (wrap64 (x3 * x3))).bind fun t141 => (some (t141 == 1))) else ((surd_Sign.f k x0 x1 (wrap64 (x2 * x2)) (wrap64 (x3 * x3))).bind fun t142 => (some (t142 == 0)))))
def tocsinlaw2_SurdSquares.f (k : Nat) (a0 : Int) (a1 : Int) (a2 : Int) (a3 : Int) : Option (Bool) := (tocsinlaw2_awake.f k).bind fun t138 => (if t138 = true then (if a0 < (-1000000000) then (tocsinlaw2_SurdSquares.j0 k a0 a1 a2 a3 true) else (if a0 > 1000000000 then (tocsinlaw2_SurdSquares.j0 k a0 a1 a2 a3 true) else (if a1 < (-1000000000) then (tocsinlaw2_SurdSquares.j0 k a0 a1 a2 a3 true) else (if a1 > 1000000000 then (tocsinlaw2_SurdSquares.j0 k a0 a1 a2 a3 true) else (if a2 < 0 then (tocsinlaw2_SurdSquares.j0 k a0 a1 a2 a3 true) else (if a2 > 1000 then (tocsinlaw2_SurdSquares.j0 k a0 a1 a2 a3 true) else (if a3 < 1 then (tocsinlaw2_SurdSquares.j0 k a0 a1 a2 a3 true) else (tocsinlaw2_SurdSquares.j0 k a0 a1 a2 a3 (decide (a3 > 1000)))))))))) else (some false))
theorem tocsinlaw2_SurdSquares.mono_l : ∀ k, (∀ y0 y1 y2 y3 y4, LeO (tocsinlaw2_SurdSquares.j0 k y0 y1 y2 y3 y4) (tocsinlaw2_SurdSquares.j0 (k + 1) y0 y1 y2 y3 y4))
  | 0 => fun _ _ _ _ _ r h => by simp [tocsinlaw2_SurdSquares.j0] at h
  | k + 1 => by
    have ih0 := tocsinlaw2_SurdSquares.mono_l k
    · intro y0 y1 y2 y3 y4
      unfold tocsinlaw2_SurdSquares.j0
      repeat' first
      | (with_reducible exact ih0 _ _ _ _ _)
      | (with_reducible exact surd_Sign.mono _ _ _ _ _)
      | (with_reducible exact tocsinlaw2_awake.mono _)
      | (with_reducible exact LeO.refl _)
      | (with_reducible exact LeO.none _)
      | (with_reducible refine LeO.ite ?_ ?_)
      | (with_reducible refine LeO.bind ?_ (fun _ => ?_))
      | exact ih0 _ _ _ _ _
      | exact surd_Sign.mono _ _ _ _ _
      | exact tocsinlaw2_awake.mono _
      | exact LeO.none _
      | refine LeO.ite ?_ ?_
      | refine LeO.bind ?_ (fun _ => ?_)
theorem tocsinlaw2_SurdSquares.mono : ∀ a0 a1 a2 a3 k, LeO (tocsinlaw2_SurdSquares.f k a0 a1 a2 a3) (tocsinlaw2_SurdSquares.f (k + 1) a0 a1 a2 a3) := by
  intro a0 a1 a2 a3 k
  have ih0 := tocsinlaw2_SurdSquares.mono_l k
  unfold tocsinlaw2_SurdSquares.f
  repeat' first
      | (with_reducible exact ih0 _ _ _ _ _)
      | (with_reducible exact surd_Sign.mono _ _ _ _ _)
      | (with_reducible exact tocsinlaw2_awake.mono _)
      | (with_reducible exact LeO.refl _)
      | (with_reducible exact LeO.none _)
      | (with_reducible refine LeO.ite ?_ ?_)
      | (with_reducible refine LeO.bind ?_ (fun _ => ?_))
      | exact ih0 _ _ _ _ _
      | exact surd_Sign.mono _ _ _ _ _
      | exact tocsinlaw2_awake.mono _
      | exact LeO.none _
      | refine LeO.ite ?_ ?_
      | refine LeO.bind ?_ (fun _ => ?_)
set_option maxHeartbeats 8000000 in
set_option maxRecDepth 100000 in
theorem tocsinlaw2_SurdSquares.calls (k : Nat) (a0 : Int) (a1 : Int) (a2 : Int) (a3 : Int) (r : Bool) (w : World) (h : tocsinlaw2_SurdSquares.f k a0 a1 a2 a3 = some r) :
    Calls Try.prog 4 #[.int .i64 a0, .int .i64 a1, .int .i64 a2, .int .i64 a3] w fun e w' => e = .returned (.bool r) ∧ Below w.heap.size w w' := by
  have hu23 := Try.underlying23
  have HB := Aside0.mk (Below.refl w.heap.size w)
  have H : ((tocsinlaw2_awake.f k).bind fun t138 => (if t138 = true then (if a0 < (-1000000000) then (tocsinlaw2_SurdSquares.j0 k a0 a1 a2 a3 true) else (if a0 > 1000000000 then (tocsinlaw2_SurdSquares.j0 k a0 a1 a2 a3 true) else (if a1 < (-1000000000) then (tocsinlaw2_SurdSquares.j0 k a0 a1 a2 a3 true) else (if a1 > 1000000000 then (tocsinlaw2_SurdSquares.j0 k a0 a1 a2 a3 true) else (if a2 < 0 then (tocsinlaw2_SurdSquares.j0 k a0 a1 a2 a3 true) else (if a2 > 1000 then (tocsinlaw2_SurdSquares.j0 k a0 a1 a2 a3 true) else (if a3 < 1 then (tocsinlaw2_SurdSquares.j0 k a0 a1 a2 a3 true) else (tocsinlaw2_SurdSquares.j0 k a0 a1 a2 a3 (decide (a3 > 1000)))))))))) else (some false))) = some r := h
  clear h
  replace H := Option.bind_eq_some_iff.mp H
  obtain ⟨t138, A50, H⟩ := H
  replace H : (if t138 = true then (if a0 < (-1000000000) then (tocsinlaw2_SurdSquares.j0 k a0 a1 a2 a3 true) else (if a0 > 1000000000 then (tocsinlaw2_SurdSquares.j0 k a0 a1 a2 a3 true) else (if a1 < (-1000000000) then (tocsinlaw2_SurdSquares.j0 k a0 a1 a2 a3 true) else (if a1 > 1000000000 then (tocsinlaw2_SurdSquares.j0 k a0 a1 a2 a3 true) else (if a2 < 0 then (tocsinlaw2_SurdSquares.j0 k a0 a1 a2 a3 true) else (if a2 > 1000 then (tocsinlaw2_SurdSquares.j0 k a0 a1 a2 a3 true) else (if a3 < 1 then (tocsinlaw2_SurdSquares.j0 k a0 a1 a2 a3 true) else (tocsinlaw2_SurdSquares.j0 k a0 a1 a2 a3 (decide (a3 > 1000)))))))))) else (some false)) = some r := H
  have A5 := Aside0.mk A50
  clear A50
  by_cases c6 : t138 = true
  · subst c6
    have H1 : (if a0 < (-1000000000) then (tocsinlaw2_SurdSquares.j0 k a0 a1 a2 a3 true) else (if a0 > 1000000000 then (tocsinlaw2_SurdSquares.j0 k a0 a1 a2 a3 true) else (if a1 < (-1000000000) then (tocsinlaw2_SurdSquares.j0 k a0 a1 a2 a3 true) else (if a1 > 1000000000 then (tocsinlaw2_SurdSquares.j0 k a0 a1 a2 a3 true) else (if a2 < 0 then (tocsinlaw2_SurdSquares.j0 k a0 a1 a2 a3 true) else (if a2 > 1000 then (tocsinlaw2_SurdSquares.j0 k a0 a1 a2 a3 true) else (if a3 < 1 then (tocsinlaw2_SurdSquares.j0 k a0 a1 a2 a3 true) else (tocsinlaw2_SurdSquares.j0 k a0 a1 a2 a3 (decide (a3 > 1000)))))))))) = some r := by rw [if_pos rfl] at H; exact H
    clear H
    have H := H1
    clear H1
    have HC7 := Aside0.mk H
    clear H
    go_enter Try.func4, Try.ntmps4
    go_upto_region 3 with (first | ((with_reducible refine gate_callee (f := 10) rfl ?_); refine goesL_ (some 11) rfl rfl Try.func10 (by kernel_rfl) rfl #[] rfl (by (try simp only [List.map_toArray, List.map_cons, List.map_nil]); first | done | rfl | (simp only [List.length_drop, List.length_take]; rfl)) ?_; (with_reducible refine (tocsinlaw2_awake.calls k  true _ A5.out).mono ?_); rintro e w8 ⟨rfl, hb⟩; refine ⟨_, rfl, ?_⟩; have n0_ := Aside0.mk (below_step (by repeat (first | (with_reducible first | exact HB.out | apply below_alloc | apply pw_below_drewN | apply below_drew1) | exact HB.out)) hb); clear HB; have HB := n0_; clear n0_; (try clear hb); (try clear hb2); (try clear hk); (try clear hi)))
    (try simp only [Act.put, List.setIfInBounds_toArray, List.set_cons_zero, List.set_cons_succ])
    go_cut [42] (fun v42 wc => ∃ (kq : Nat) (x42_6 : Bool), v42 = .bool x42_6 ∧ Aside0 (tocsinlaw2_SurdSquares.j0 kq a0 a1 a2 a3 x42_6 = some r) ∧ Aside0 (kq ≤ k) ∧ Aside0 (Below w.heap.size w wc))
    case first =>
      have H := HC7.out
      clear HC7
      by_cases c9 : a0 < (-1000000000)
      · rw [if_pos c9] at H
        have c9b0 : decide (a0 < (-1000000000)) = true := decide_eq_true c9
        clear c9
        (first | rw [c9b0] | (simp only [i64_w, i32_w]; rw [c9b0]) | skip)
        have H' := Aside0.mk H
        clear H
        go_wp2
        go_meet
        case rel => exact ⟨_, (true), (by first | rfl | (simp; done) | (simp [*]; done)), H', ⟨by first | omega | exact Nat.le_refl _⟩, ⟨by repeat (first | (with_reducible first | exact HB.out | apply below_alloc | apply pw_below_drewN | apply below_drew1) | exact HB.out)⟩⟩
      · rw [if_neg c9] at H
        have c9b0 : decide (a0 < (-1000000000)) = false := decide_eq_false c9
        clear c9
        (first | rw [c9b0] | (simp only [i64_w, i32_w]; rw [c9b0]) | skip)
        by_cases c10 : a0 > 1000000000
        · rw [if_pos c10] at H
          have c10b0 : decide (1000000000 < a0) = true := decide_eq_true c10
          clear c10
          have H' := Aside0.mk H
          clear H
          go_wp2
          go_meet
          case rel => exact ⟨_, (true), (by first | rfl | (simp; done) | (simp [*]; done)), H', ⟨by first | omega | exact Nat.le_refl _⟩, ⟨by repeat (first | (with_reducible first | exact HB.out | apply below_alloc | apply pw_below_drewN | apply below_drew1) | exact HB.out)⟩⟩
        · rw [if_neg c10] at H
          have c10b0 : decide (1000000000 < a0) = false := decide_eq_false c10
          clear c10
          by_cases c11 : a1 < (-1000000000)
          · rw [if_pos c11] at H
            have c11b0 : decide (a1 < (-1000000000)) = true := decide_eq_true c11
            clear c11
            have H' := Aside0.mk H
            clear H
            go_wp2
            go_meet
            case rel => exact ⟨_, (true), (by first | rfl | (simp; done) | (simp [*]; done)), H', ⟨by first | omega | exact Nat.le_refl _⟩, ⟨by repeat (first | (with_reducible first | exact HB.out | apply below_alloc | apply pw_below_drewN | apply below_drew1) | exact HB.out)⟩⟩
          · rw [if_neg c11] at H
            have c11b0 : decide (a1 < (-1000000000)) = false := decide_eq_false c11
            clear c11
            by_cases c12 : a1 > 1000000000
            · rw [if_pos c12] at H
              have c12b0 : decide (1000000000 < a1) = true := decide_eq_true c12
              clear c12
              have H' := Aside0.mk H
              clear H
              go_wp2
              go_meet
              case rel => exact ⟨_, (true), (by first | rfl | (simp; done) | (simp [*]; done)), H', ⟨by first | omega | exact Nat.le_refl _⟩, ⟨by repeat (first | (with_reducible first | exact HB.out | apply below_alloc | apply pw_below_drewN | apply below_drew1) | exact HB.out)⟩⟩
            · rw [if_neg c12] at H
              have c12b0 : decide (1000000000 < a1) = false := decide_eq_false c12
              clear c12
              by_cases c13 : a2 < 0
              · rw [if_pos c13] at H
                have c13b0 : decide (a2 < 0) = true := decide_eq_true c13
                clear c13
                have H' := Aside0.mk H
                clear H
                go_wp2
                go_meet
                case rel => exact ⟨_, (true), (by first | rfl | (simp; done) | (simp [*]; done)), H', ⟨by first | omega | exact Nat.le_refl _⟩, ⟨by repeat (first | (with_reducible first | exact HB.out | apply below_alloc | apply pw_below_drewN | apply below_drew1) | exact HB.out)⟩⟩
              · rw [if_neg c13] at H
                have c13b0 : decide (a2 < 0) = false := decide_eq_false c13
                clear c13
                by_cases c14 : a2 > 1000
                · rw [if_pos c14] at H
                  have c14b0 : decide (1000 < a2) = true := decide_eq_true c14
                  clear c14
                  have H' := Aside0.mk H
                  clear H
                  go_wp2
                  go_meet
                  case rel => exact ⟨_, (true), (by first | rfl | (simp; done) | (simp [*]; done)), H', ⟨by first | omega | exact Nat.le_refl _⟩, ⟨by repeat (first | (with_reducible first | exact HB.out | apply below_alloc | apply pw_below_drewN | apply below_drew1) | exact HB.out)⟩⟩
                · rw [if_neg c14] at H
                  have c14b0 : decide (1000 < a2) = false := decide_eq_false c14
                  clear c14
                  by_cases c15 : a3 < 1
                  · rw [if_pos c15] at H
                    have c15b0 : decide (a3 < 1) = true := decide_eq_true c15
                    clear c15
                    have H' := Aside0.mk H
                    clear H
                    go_wp2
                    go_meet
                    case rel => exact ⟨_, (true), (by first | rfl | (simp; done) | (simp [*]; done)), H', ⟨by first | omega | exact Nat.le_refl _⟩, ⟨by repeat (first | (with_reducible first | exact HB.out | apply below_alloc | apply pw_below_drewN | apply below_drew1) | exact HB.out)⟩⟩
                  · rw [if_neg c15] at H
                    have c15b0 : decide (a3 < 1) = false := decide_eq_false c15
                    clear c15
                    have H' := Aside0.mk H
                    clear H
                    go_wp2
                    go_meet
                    case rel => exact ⟨_, (decide (a3 > 1000)), (by first | rfl | (simp; done) | (simp [*]; done)), H', ⟨by first | omega | exact Nat.le_refl _⟩, ⟨by repeat (first | (with_reducible first | exact HB.out | apply below_alloc | apply pw_below_drewN | apply below_drew1) | exact HB.out)⟩⟩
    case rest =>
      clear HC7
      try clear c1
      try clear p2
      try clear c4
      try clear c6
      try clear c9
      try clear c9b0
      try clear c10
      try clear c10b0
      try clear c11
      try clear c11b0
      try clear c12
      try clear c12b0
      try clear c13
      try clear c13b0
      try clear c14
      try clear c14b0
      try clear c15
      try clear c15b0
      obtain ⟨kq, x42_6, rfl, HA, HJ6, HB⟩ := hcut
      cases kq with
      | zero => exact absurd HA.out (by simp [tocsinlaw2_SurdSquares.j0])
      | succ kj6 =>
        have H := HA.out
        clear HA
        simp only [tocsinlaw2_SurdSquares.j0] at H
        by_cases c16 : x42_6 = true
        · subst c16
          have H1 : (some true) = some r := by rw [if_pos rfl] at H; exact H
          clear H
          have H := H1
          clear H1
          obtain rfl := Option.some.inj H
          go_wp2
          go_ret
          exact ⟨by first | rfl | (simp [errW_none, errW_some] <;> rfl) | (simp [*, errW_none, errW_some] <;> rfl), by repeat (first | (with_reducible first | exact HB.out | apply below_alloc | apply pw_below_drewN | apply below_drew1) | exact HB.out)⟩
        · replace c16 := Bool.eq_false_iff.mpr c16
          subst c16
          have H1 : (if (wrap64 ((wrap64 (a0 * a3)) + (wrap64 (a1 * a2)))) < 0 then (if (wrap64 ((wrap64 (a0 * a3)) + (wrap64 (a1 * a2)))) > 0 then ((surd_Sign.f kj6 a0 a1 (wrap64 (a2 * a2)) (wrap64 (a3 * a3))).bind fun t139 => (some (t139 == 1))) else ((surd_Sign.f kj6 a0 a1 (wrap64 (a2 * a2)) (wrap64 (a3 * a3))).bind fun t140 => (some (t140 == (-1))))) else (if (wrap64 ((wrap64 (a0 * a3)) + (wrap64 (a1 * a2)))) > 0 then ((surd_Sign.f kj6 a0 a1 (wrap64 (a2 * a2)) (wrap64 (a3 * a3))).bind fun t141 => (some (t141 == 1))) else ((surd_Sign.f kj6 a0 a1 (wrap64 (a2 * a2)) (wrap64 (a3 * a3))).bind fun t142 => (some (t142 == 0))))) = some r := by rw [if_neg (show ¬ (false = true) by decide)] at H; exact H
          clear H
          have H := H1
          clear H1
          by_cases c17 : (wrap64 ((wrap64 (a0 * a3)) + (wrap64 (a1 * a2)))) < 0
          · rw [if_pos c17] at H
            have c17b0 : decide ((wrap64 ((wrap64 (a0 * a3)) + (wrap64 (a1 * a2)))) < 0) = true := decide_eq_true c17
            clear c17
            by_cases c18 : (wrap64 ((wrap64 (a0 * a3)) + (wrap64 (a1 * a2)))) > 0
            · rw [if_pos c18] at H
              have c18b0 : decide (0 < (wrap64 ((wrap64 (a0 * a3)) + (wrap64 (a1 * a2))))) = true := decide_eq_true c18
              clear c18
              replace H := Option.bind_eq_some_iff.mp H
              obtain ⟨t139, A190, H⟩ := H
              replace H : (some (t139 == 1)) = some r := H
              have A19 := Aside0.mk A190
              clear A190
              obtain rfl := Option.some.inj H
              go_wp2_with (first | ((with_reducible refine gate_callee (f := 12) rfl ?_); refine goesL_ (some 63) rfl rfl Try.func12 (by kernel_rfl) rfl #[.agg #[.int .i64 a0, .int .i64 a1, .int .i64 (wrap64 (a2 * a2)), .int .i64 (wrap64 (a3 * a3))]] rfl (by (try simp only [List.map_toArray, List.map_cons, List.map_nil]); first | done | rfl | (simp only [List.length_drop, List.length_take]; rfl)) ?_; (with_reducible refine (surd_Sign.calls kj6 a0 a1 (wrap64 (a2 * a2)) (wrap64 (a3 * a3)) t139 _ A19.out).mono ?_); rintro e w20 ⟨rfl, hb⟩; refine ⟨_, rfl, ?_⟩; have n0_ := Aside0.mk (below_step (by repeat (first | (with_reducible first | exact HB.out | apply below_alloc | apply pw_below_drewN | apply below_drew1) | exact HB.out)) hb); clear HB; have HB := n0_; clear n0_; (try clear hb); (try clear hb2); (try clear hk); (try clear hi)))
              go_ret
              exact ⟨by first | rfl | (simp [errW_none, errW_some] <;> rfl) | (simp [*, errW_none, errW_some] <;> rfl), by repeat (first | (with_reducible first | exact HB.out | apply below_alloc | apply pw_below_drewN | apply below_drew1) | exact HB.out)⟩
            · rw [if_neg c18] at H
              have c18b0 : decide (0 < (wrap64 ((wrap64 (a0 * a3)) + (wrap64 (a1 * a2))))) = false := decide_eq_false c18
              clear c18
              replace H := Option.bind_eq_some_iff.mp H
              obtain ⟨t140, A210, H⟩ := H
              replace H : (some (t140 == (-1))) = some r := H
              have A21 := Aside0.mk A210
              clear A210
              obtain rfl := Option.some.inj H
              go_wp2_with (first | ((with_reducible refine gate_callee (f := 12) rfl ?_); refine goesL_ (some 63) rfl rfl Try.func12 (by kernel_rfl) rfl #[.agg #[.int .i64 a0, .int .i64 a1, .int .i64 (wrap64 (a2 * a2)), .int .i64 (wrap64 (a3 * a3))]] rfl (by (try simp only [List.map_toArray, List.map_cons, List.map_nil]); first | done | rfl | (simp only [List.length_drop, List.length_take]; rfl)) ?_; (with_reducible refine (surd_Sign.calls kj6 a0 a1 (wrap64 (a2 * a2)) (wrap64 (a3 * a3)) t140 _ A21.out).mono ?_); rintro e w22 ⟨rfl, hb⟩; refine ⟨_, rfl, ?_⟩; have n0_ := Aside0.mk (below_step (by repeat (first | (with_reducible first | exact HB.out | apply below_alloc | apply pw_below_drewN | apply below_drew1) | exact HB.out)) hb); clear HB; have HB := n0_; clear n0_; (try clear hb); (try clear hb2); (try clear hk); (try clear hi)))
              go_ret
              exact ⟨by first | rfl | (simp [errW_none, errW_some] <;> rfl) | (simp [*, errW_none, errW_some] <;> rfl), by repeat (first | (with_reducible first | exact HB.out | apply below_alloc | apply pw_below_drewN | apply below_drew1) | exact HB.out)⟩
          · rw [if_neg c17] at H
            have c17b0 : decide ((wrap64 ((wrap64 (a0 * a3)) + (wrap64 (a1 * a2)))) < 0) = false := decide_eq_false c17
            clear c17
            by_cases c23 : (wrap64 ((wrap64 (a0 * a3)) + (wrap64 (a1 * a2)))) > 0
            · rw [if_pos c23] at H
              have c23b0 : decide (0 < (wrap64 ((wrap64 (a0 * a3)) + (wrap64 (a1 * a2))))) = true := decide_eq_true c23
              clear c23
              replace H := Option.bind_eq_some_iff.mp H
              obtain ⟨t141, A240, H⟩ := H
              replace H : (some (t141 == 1)) = some r := H
              have A24 := Aside0.mk A240
              clear A240
              obtain rfl := Option.some.inj H
              go_wp2_with (first | ((with_reducible refine gate_callee (f := 12) rfl ?_); refine goesL_ (some 63) rfl rfl Try.func12 (by kernel_rfl) rfl #[.agg #[.int .i64 a0, .int .i64 a1, .int .i64 (wrap64 (a2 * a2)), .int .i64 (wrap64 (a3 * a3))]] rfl (by (try simp only [List.map_toArray, List.map_cons, List.map_nil]); first | done | rfl | (simp only [List.length_drop, List.length_take]; rfl)) ?_; (with_reducible refine (surd_Sign.calls kj6 a0 a1 (wrap64 (a2 * a2)) (wrap64 (a3 * a3)) t141 _ A24.out).mono ?_); rintro e w25 ⟨rfl, hb⟩; refine ⟨_, rfl, ?_⟩; have n0_ := Aside0.mk (below_step (by repeat (first | (with_reducible first | exact HB.out | apply below_alloc | apply pw_below_drewN | apply below_drew1) | exact HB.out)) hb); clear HB; have HB := n0_; clear n0_; (try clear hb); (try clear hb2); (try clear hk); (try clear hi)))
              go_ret
              exact ⟨by first | rfl | (simp [errW_none, errW_some] <;> rfl) | (simp [*, errW_none, errW_some] <;> rfl), by repeat (first | (with_reducible first | exact HB.out | apply below_alloc | apply pw_below_drewN | apply below_drew1) | exact HB.out)⟩
            · rw [if_neg c23] at H
              have c23b0 : decide (0 < (wrap64 ((wrap64 (a0 * a3)) + (wrap64 (a1 * a2))))) = false := decide_eq_false c23
              clear c23
              replace H := Option.bind_eq_some_iff.mp H
              obtain ⟨t142, A260, H⟩ := H
              replace H : (some (t142 == 0)) = some r := H
              have A26 := Aside0.mk A260
              clear A260
              obtain rfl := Option.some.inj H
              go_wp2_with (first | ((with_reducible refine gate_callee (f := 12) rfl ?_); refine goesL_ (some 63) rfl rfl Try.func12 (by kernel_rfl) rfl #[.agg #[.int .i64 a0, .int .i64 a1, .int .i64 (wrap64 (a2 * a2)), .int .i64 (wrap64 (a3 * a3))]] rfl (by (try simp only [List.map_toArray, List.map_cons, List.map_nil]); first | done | rfl | (simp only [List.length_drop, List.length_take]; rfl)) ?_; (with_reducible refine (surd_Sign.calls kj6 a0 a1 (wrap64 (a2 * a2)) (wrap64 (a3 * a3)) t142 _ A26.out).mono ?_); rintro e w27 ⟨rfl, hb⟩; refine ⟨_, rfl, ?_⟩; have n0_ := Aside0.mk (below_step (by repeat (first | (with_reducible first | exact HB.out | apply below_alloc | apply pw_below_drewN | apply below_drew1) | exact HB.out)) hb); clear HB; have HB := n0_; clear n0_; (try clear hb); (try clear hb2); (try clear hk); (try clear hi)))
              go_ret
              exact ⟨by first | rfl | (simp [errW_none, errW_some] <;> rfl) | (simp [*, errW_none, errW_some] <;> rfl), by repeat (first | (with_reducible first | exact HB.out | apply below_alloc | apply pw_below_drewN | apply below_drew1) | exact HB.out)⟩
  · replace c6 := Bool.eq_false_iff.mpr c6
    subst c6
    have H1 : (some false) = some r := by rw [if_neg (show ¬ (false = true) by decide)] at H; exact H
    clear H
    have H := H1
    clear H1
    obtain rfl := Option.some.inj H
    go_enter Try.func4, Try.ntmps4
    go_wp2_with (first | ((with_reducible refine gate_callee (f := 10) rfl ?_); refine goesL_ (some 11) rfl rfl Try.func10 (by kernel_rfl) rfl #[] rfl (by (try simp only [List.map_toArray, List.map_cons, List.map_nil]); first | done | rfl | (simp only [List.length_drop, List.length_take]; rfl)) ?_; (with_reducible refine (tocsinlaw2_awake.calls k  false _ A5.out).mono ?_); rintro e w28 ⟨rfl, hb⟩; refine ⟨_, rfl, ?_⟩; have n0_ := Aside0.mk (below_step (by repeat (first | (with_reducible first | exact HB.out | apply below_alloc | apply pw_below_drewN | apply below_drew1) | exact HB.out)) hb); clear HB; have HB := n0_; clear n0_; (try clear hb); (try clear hb2); (try clear hk); (try clear hi)))
    go_ret
    exact ⟨by first | rfl | (simp [errW_none, errW_some] <;> rfl) | (simp [*, errW_none, errW_some] <;> rfl), by repeat (first | (with_reducible first | exact HB.out | apply below_alloc | apply pw_below_drewN | apply below_drew1) | exact HB.out)⟩

/-- THE ONE PURE STATEMENT of tocsinlaw2_SurdSquares: yours. -/
def tocsinlaw2_SurdSquares.Pure : Prop := ∀ (a0 : Int) (a1 : Int) (a2 : Int) (a3 : Int), (Lit.int .i64 a0).wf = true → (Lit.int .i64 a1).wf = true → (Lit.int .i64 a2).wf = true → (Lit.int .i64 a3).wf = true → ∃ k, tocsinlaw2_SurdSquares.f k a0 a1 a2 a3 = some true
theorem tocsinlaw2_SurdSquares.walk (P : tocsinlaw2_SurdSquares.Pure) (a0 : Int) (a1 : Int) (a2 : Int) (a3 : Int) (w : World) (w0 : (Lit.int .i64 a0).wf = true) (w1 : (Lit.int .i64 a1).wf = true) (w2 : (Lit.int .i64 a2).wf = true) (w3 : (Lit.int .i64 a3).wf = true) :
    Calls Try.prog 4 #[.int .i64 a0, .int .i64 a1, .int .i64 a2, .int .i64 a3] w fun e w' => e = .returned (.bool true) ∧ Below w.heap.size w w' := by
  obtain ⟨k, h⟩ := P a0 a1 a2 a3 w0 w1 w2 w3
  refine (tocsinlaw2_SurdSquares.calls k a0 a1 a2 a3 true w h).mono ?_
  rintro e w' ⟨rfl, hd⟩
  exact ⟨rfl, hd⟩

end Go.Proofs.Ytfgilibcekfibaa.PSurdSquares
