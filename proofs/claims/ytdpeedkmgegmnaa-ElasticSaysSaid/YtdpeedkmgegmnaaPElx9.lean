-- functions and contracts as the kit's print.py writes them, the roots chosen in this session (wip/proots.sh)
import Derived.Test.YtdpeedkmgegmnaaPElx0
import Derived.Test.YtdpeedkmgegmnaaStEl
import Derived.Test.YtdpeedkmgegmnaaPElx1
import Derived.Test.YtdpeedkmgegmnaaPElx2
import Derived.Test.YtdpeedkmgegmnaaPElx3
import Derived.Test.YtdpeedkmgegmnaaPElCost
import Derived.Test.YtdpeedkmgegmnaaPElx5
import Derived.Test.YtdpeedkmgegmnaaPElx7
import Derived.Test.YtdpeedkmgegmnaaPElx8
namespace Go.Proofs.Ytdpeedkmgegmnaa.PEl
open Go.RowKit Go.Proofs.YtdpeedkmgegmnaaW.PrintWords Go.Proofs.YtdpeedkmgegmnaaW.PrintLast Go.Proofs.YtdpeedkmgegmnaaW.PrintMore
attribute [local go_sem] max2_int min2_int max_two min_two max_three min_three max_four min_four   -- for this text's walks alone
set_option linter.unusedVariables false
set_option linter.unusedSimpArgs false

/-! ### tocsinlaw13_ElasticSays: function 8 -/
def tocsinlaw13_ElasticSays.j0 : Nat → List (S29) → Int → List Int → Bool → Option (Bool)
 | 0, _, _, _, _ => none
 | k + 1, x0, x1, x2, x28 => if x28 = true then (some true) else ((elastic_Press.f k x0 x1).bind fun bt311 => ((tocsinlaw13_own.f k x0).bind fun t315 => ((tocsinref1_Press.f k t315 x1).bind fun bt318 => ((elastic_Floor.f k x0).bind fun bt322 => ((tocsinlaw13_own.f k x0).bind fun t324 => ((tocsinref1_Floor.f k t324).bind fun bt327 => ((elastic_Cost.f k x0 x2).bind fun bt329 => ((tocsinlaw13_own.f k x0).bind fun t331 => ((tocsinref1_Cost.f k t331 x2).bind fun bt334 => ((tocsinlaw13_shares.f k bt311.1 bt318.1).bind fun t336 => (if t336 = true then (if bt311.2 = bt318.2 then (if bt322.1 = bt327.1 then (if (bt322.2 == bt327.2) = true then (if bt329.1 = bt334.1 then (some (bt329.2 == bt334.2)) else (some false)) else (some false)) else (some false)) else (some false)) else (some false))))))))))))
def tocsinlaw13_ElasticSays.f (k : Nat) (l0 : List (S29)) (a1 : Int) (l2 : List Int) : Option (Bool) := (tocsinlaw13_awake.f k).bind fun t310 => (if t310 = true then (if (l0.length : Int) > 25 then (tocsinlaw13_ElasticSays.j0 k l0 a1 l2 true) else (tocsinlaw13_ElasticSays.j0 k l0 a1 l2 (decide ((l2.length : Int) > 25)))) else (some false))
theorem tocsinlaw13_ElasticSays.mono_l : ∀ k, (∀ y0 y1 y2 y3, LeO (tocsinlaw13_ElasticSays.j0 k y0 y1 y2 y3) (tocsinlaw13_ElasticSays.j0 (k + 1) y0 y1 y2 y3))
 | 0 => fun _ _ _ _ r h => by simp [tocsinlaw13_ElasticSays.j0] at h
 | k + 1 => by
  have ih0 := tocsinlaw13_ElasticSays.mono_l k
  ·intro y0 y1 y2 y3
   unfold tocsinlaw13_ElasticSays.j0
   repeat' first
   | (with_reducible exact ih0 _ _ _ _)
   | (with_reducible exact elastic_Cost.mono _ _ _)
   | (with_reducible exact elastic_Floor.mono _ _)
   | (with_reducible exact elastic_Press.mono _ _ _)
   | (with_reducible exact tocsinlaw13_awake.mono _)
   | (with_reducible exact tocsinlaw13_own.mono _ _)
   | (with_reducible exact tocsinlaw13_shares.mono _ _ _)
   | (with_reducible exact tocsinref1_Cost.mono _ _ _)
   | (with_reducible exact tocsinref1_Floor.mono _ _)
   | (with_reducible exact tocsinref1_Press.mono _ _ _)
   | (with_reducible exact LeO.refl _)
   | (with_reducible exact LeO.none _)
   | (with_reducible refine LeO.ite ?_ ?_)
   | (with_reducible refine LeO.bind ?_ (fun _ => ?_))
   | exact ih0 _ _ _ _
   | exact elastic_Cost.mono _ _ _
   | exact elastic_Floor.mono _ _
   | exact elastic_Press.mono _ _ _
   | exact tocsinlaw13_awake.mono _
   | exact tocsinlaw13_own.mono _ _
   | exact tocsinlaw13_shares.mono _ _ _
   | exact tocsinref1_Cost.mono _ _ _
   | exact tocsinref1_Floor.mono _ _
   | exact tocsinref1_Press.mono _ _ _
   | exact LeO.none _
   | refine LeO.ite ?_ ?_
   | refine LeO.bind ?_ (fun _ => ?_)
theorem tocsinlaw13_ElasticSays.mono : ∀ a0 a1 a2 k, LeO (tocsinlaw13_ElasticSays.f k a0 a1 a2) (tocsinlaw13_ElasticSays.f (k + 1) a0 a1 a2) := by
 intro a0 a1 a2 k
 have ih0 := tocsinlaw13_ElasticSays.mono_l k
 unfold tocsinlaw13_ElasticSays.f
 repeat' first
   | (with_reducible exact ih0 _ _ _ _)
   | (with_reducible exact elastic_Cost.mono _ _ _)
   | (with_reducible exact elastic_Floor.mono _ _)
   | (with_reducible exact elastic_Press.mono _ _ _)
   | (with_reducible exact tocsinlaw13_awake.mono _)
   | (with_reducible exact tocsinlaw13_own.mono _ _)
   | (with_reducible exact tocsinlaw13_shares.mono _ _ _)
   | (with_reducible exact tocsinref1_Cost.mono _ _ _)
   | (with_reducible exact tocsinref1_Floor.mono _ _)
   | (with_reducible exact tocsinref1_Press.mono _ _ _)
   | (with_reducible exact LeO.refl _)
   | (with_reducible exact LeO.none _)
   | (with_reducible refine LeO.ite ?_ ?_)
   | (with_reducible refine LeO.bind ?_ (fun _ => ?_))
   | exact ih0 _ _ _ _
   | exact elastic_Cost.mono _ _ _
   | exact elastic_Floor.mono _ _
   | exact elastic_Press.mono _ _ _
   | exact tocsinlaw13_awake.mono _
   | exact tocsinlaw13_own.mono _ _
   | exact tocsinlaw13_shares.mono _ _ _
   | exact tocsinref1_Cost.mono _ _ _
   | exact tocsinref1_Floor.mono _ _
   | exact tocsinref1_Press.mono _ _ _
   | exact LeO.none _
   | refine LeO.ite ?_ ?_
   | refine LeO.bind ?_ (fun _ => ?_)
set_option maxHeartbeats 8000000 in
set_option maxRecDepth 100000 in
theorem tocsinlaw13_ElasticSays.calls (k : Nat) (A0 : Option Addr) (c0 : Nat) (l0 : List (S29)) (a1 : Int) (A2 : Option Addr) (c2 : Nat) (l2 : List Int) (r : Bool) (w : World) (hr0 : Kd.C k29 w A0 l0.length l0) (hc0 : l0.length ≤ c0) (hr2 : Kd.C (Kd.int .i64) w A2 l2.length l2) (hc2 : l2.length ≤ c2) (h : tocsinlaw13_ElasticSays.f k l0 a1 l2 = some r) (hr_ : r = true) :
  Calls Try.prog 8 #[.slice A0 l0.length c0, .int .i64 a1, .slice A2 l2.length c2] w fun e w' => e = .returned (.bool r) ∧ Below w.heap.size w w' := by
 have HR0 := Aside0.mk hr0
 have HC0 := Aside0.mk hc0
 clear hr0 hc0
 have HR2 := Aside0.mk hr2
 have HC2 := Aside0.mk hc2
 clear hr2 hc2
 have HB := Aside0.mk (Below.refl w.heap.size w)
 have H : ((tocsinlaw13_awake.f k).bind fun t310 => (if t310 = true then (if (l0.length : Int) > 25 then (tocsinlaw13_ElasticSays.j0 k l0 a1 l2 true) else (tocsinlaw13_ElasticSays.j0 k l0 a1 l2 (decide ((l2.length : Int) > 25)))) else (some false))) = some r := h
 clear h
 replace H := Option.bind_eq_some_iff.mp H
 obtain ⟨t310, A40, H⟩ := H
 replace H : (if t310 = true then (if (l0.length : Int) > 25 then (tocsinlaw13_ElasticSays.j0 k l0 a1 l2 true) else (tocsinlaw13_ElasticSays.j0 k l0 a1 l2 (decide ((l2.length : Int) > 25)))) else (some false)) = some r := H
 have A4 := Aside0.mk A40
 clear A40
 by_cases c5 : t310 = true
 ·subst c5
  have H1 : (if (l0.length : Int) > 25 then (tocsinlaw13_ElasticSays.j0 k l0 a1 l2 true) else (tocsinlaw13_ElasticSays.j0 k l0 a1 l2 (decide ((l2.length : Int) > 25)))) = some r := by rw [if_pos rfl] at H; exact H
  clear H
  have H := H1
  clear H1
  have HC6 := Aside0.mk H
  clear H
  go_enter Try.func8, Try.ntmps8
  go_upto_region 3 with (first | ((with_reducible refine gate_callee (f := 9) rfl ?_); refine goesL_ (some 19) rfl rfl Try.func9 (by kernel_rfl) rfl #[] rfl (by (try simp only [List.map_toArray, List.map_cons, List.map_nil]); first | done | rfl | (simp only [List.length_drop, List.length_take]; rfl)) ?_; (with_reducible refine (tocsinlaw13_awake.calls k  true _ A4.out).mono ?_); rintro e w7 ⟨rfl, hb⟩; refine ⟨_, rfl, ?_⟩; have n0_ := Aside0.mk (below_step (by repeat (first | (with_reducible first | exact HB.out | apply below_alloc | apply pw_below_drewN | apply below_drew1) | exact HB.out)) hb); clear HB; have HB := n0_; clear n0_; (try clear hb); (try clear hb2); (try clear hk); (try clear hi)))
  (try simp only [Act.put, List.setIfInBounds_toArray, List.set_cons_zero, List.set_cons_succ])
  go_cut [28] (fun v28 wc => ∃ (kq : Nat) (x28_5 : Bool), v28 = .bool x28_5 ∧ Aside0 (tocsinlaw13_ElasticSays.j0 kq l0 a1 l2 x28_5 = some r) ∧ Aside0 (kq ≤ k) ∧ Aside0 (Below w.heap.size w wc))
  case first =>
   have H := HC6.out
   clear HC6
   by_cases c8 : (l0.length : Int) > 25
   ·rw [if_pos c8] at H
    have c8b0 : decide (25 < (l0.length : Int)) = true := decide_eq_true c8
    have c8b1 : decide (25 < l0.length) = true := decide_eq_true (by omega)
    clear c8
    (first | rw [c8b0] | (simp only [i64_w, i32_w]; rw [c8b0]) | skip)
    have H' := Aside0.mk H
    clear H
    go_wp2
    go_meet
    case rel => exact ⟨_, (true), (by first | rfl | (simp; done) | (simp [*]; done)), H', ⟨by first | omega | exact Nat.le_refl _⟩, ⟨by repeat (first | (with_reducible first | exact HB.out | apply below_alloc | apply pw_below_drewN | apply below_drew1) | exact HB.out)⟩⟩
   ·rw [if_neg c8] at H
    have c8b0 : decide (25 < (l0.length : Int)) = false := decide_eq_false c8
    have c8b1 : decide (25 < l0.length) = false := decide_eq_false (by omega)
    clear c8
    (first | rw [c8b0] | (simp only [i64_w, i32_w]; rw [c8b0]) | skip)
    have H' := Aside0.mk H
    clear H
    go_wp2
    go_meet
    case rel => exact ⟨_, (decide ((l2.length : Int) > 25)), (by first | rfl | (simp; done) | (simp [*]; done)), H', ⟨by first | omega | exact Nat.le_refl _⟩, ⟨by repeat (first | (with_reducible first | exact HB.out | apply below_alloc | apply pw_below_drewN | apply below_drew1) | exact HB.out)⟩⟩
  case rest =>
   clear HC6
   try clear c2
   try clear p2
   try clear c5
   try clear c8
   try clear c8b0
   try clear c8b1
   obtain ⟨kq, x28_5, rfl, HA, HJ5, HB⟩ := hcut
   cases kq with
   | zero => exact absurd HA.out (by simp [tocsinlaw13_ElasticSays.j0])
   | succ kj5 =>
    have H := HA.out
    clear HA
    simp only [tocsinlaw13_ElasticSays.j0] at H
    by_cases c9 : x28_5 = true
    ·subst c9
     have H1 : (some true) = some r := by rw [if_pos rfl] at H; exact H
     clear H
     have H := H1
     clear H1
     obtain rfl := Option.some.inj H
     go_wp2
     go_ret
     exact ⟨by first | rfl | (simp [errW_none, errW_some] <;> rfl) | (simp [*, errW_none, errW_some] <;> rfl), by repeat (first | (with_reducible first | exact HB.out | apply below_alloc | apply pw_below_drewN | apply below_drew1) | exact HB.out)⟩
    ·replace c9 := Bool.eq_false_iff.mpr c9
     subst c9
     have H1 : ((elastic_Press.f kj5 l0 a1).bind fun bt311 => ((tocsinlaw13_own.f kj5 l0).bind fun t315 => ((tocsinref1_Press.f kj5 t315 a1).bind fun bt318 => ((elastic_Floor.f kj5 l0).bind fun bt322 => ((tocsinlaw13_own.f kj5 l0).bind fun t324 => ((tocsinref1_Floor.f kj5 t324).bind fun bt327 => ((elastic_Cost.f kj5 l0 l2).bind fun bt329 => ((tocsinlaw13_own.f kj5 l0).bind fun t331 => ((tocsinref1_Cost.f kj5 t331 l2).bind fun bt334 => ((tocsinlaw13_shares.f kj5 bt311.1 bt318.1).bind fun t336 => (if t336 = true then (if bt311.2 = bt318.2 then (if bt322.1 = bt327.1 then (if (bt322.2 == bt327.2) = true then (if bt329.1 = bt334.1 then (some (bt329.2 == bt334.2)) else (some false)) else (some false)) else (some false)) else (some false)) else (some false)))))))))))) = some r := by rw [if_neg (show ¬ (false = true) by decide)] at H; exact H
     clear H
     have H := H1
     clear H1
     replace H := Option.bind_eq_some_iff.mp H
     obtain ⟨⟨t311, t312⟩, A100, H⟩ := H
     replace H : ((tocsinlaw13_own.f kj5 l0).bind fun t315 => ((tocsinref1_Press.f kj5 t315 a1).bind fun bt318 => ((elastic_Floor.f kj5 l0).bind fun bt322 => ((tocsinlaw13_own.f kj5 l0).bind fun t324 => ((tocsinref1_Floor.f kj5 t324).bind fun bt327 => ((elastic_Cost.f kj5 l0 l2).bind fun bt329 => ((tocsinlaw13_own.f kj5 l0).bind fun t331 => ((tocsinref1_Cost.f kj5 t331 l2).bind fun bt334 => ((tocsinlaw13_shares.f kj5 t311 bt318.1).bind fun t336 => (if t336 = true then (if t312 = bt318.2 then (if bt322.1 = bt327.1 then (if (bt322.2 == bt327.2) = true then (if bt329.1 = bt334.1 then (some (bt329.2 == bt334.2)) else (some false)) else (some false)) else (some false)) else (some false)) else (some false))))))))))) = some r := H
     have A10 := Aside0.mk A100
     clear A100
     replace H := Option.bind_eq_some_iff.mp H
     obtain ⟨t315, A110, H⟩ := H
     replace H : ((tocsinref1_Press.f kj5 t315 a1).bind fun bt318 => ((elastic_Floor.f kj5 l0).bind fun bt322 => ((tocsinlaw13_own.f kj5 l0).bind fun t324 => ((tocsinref1_Floor.f kj5 t324).bind fun bt327 => ((elastic_Cost.f kj5 l0 l2).bind fun bt329 => ((tocsinlaw13_own.f kj5 l0).bind fun t331 => ((tocsinref1_Cost.f kj5 t331 l2).bind fun bt334 => ((tocsinlaw13_shares.f kj5 t311 bt318.1).bind fun t336 => (if t336 = true then (if t312 = bt318.2 then (if bt322.1 = bt327.1 then (if (bt322.2 == bt327.2) = true then (if bt329.1 = bt334.1 then (some (bt329.2 == bt334.2)) else (some false)) else (some false)) else (some false)) else (some false)) else (some false)))))))))) = some r := H
     have A11 := Aside0.mk A110
     clear A110
     replace H := Option.bind_eq_some_iff.mp H
     obtain ⟨⟨t318, t319⟩, A120, H⟩ := H
     replace H : ((elastic_Floor.f kj5 l0).bind fun bt322 => ((tocsinlaw13_own.f kj5 l0).bind fun t324 => ((tocsinref1_Floor.f kj5 t324).bind fun bt327 => ((elastic_Cost.f kj5 l0 l2).bind fun bt329 => ((tocsinlaw13_own.f kj5 l0).bind fun t331 => ((tocsinref1_Cost.f kj5 t331 l2).bind fun bt334 => ((tocsinlaw13_shares.f kj5 t311 t318).bind fun t336 => (if t336 = true then (if t312 = t319 then (if bt322.1 = bt327.1 then (if (bt322.2 == bt327.2) = true then (if bt329.1 = bt334.1 then (some (bt329.2 == bt334.2)) else (some false)) else (some false)) else (some false)) else (some false)) else (some false))))))))) = some r := H
     have A12 := Aside0.mk A120
     clear A120
     replace H := Option.bind_eq_some_iff.mp H
     obtain ⟨⟨t322, t323⟩, A130, H⟩ := H
     replace H : ((tocsinlaw13_own.f kj5 l0).bind fun t324 => ((tocsinref1_Floor.f kj5 t324).bind fun bt327 => ((elastic_Cost.f kj5 l0 l2).bind fun bt329 => ((tocsinlaw13_own.f kj5 l0).bind fun t331 => ((tocsinref1_Cost.f kj5 t331 l2).bind fun bt334 => ((tocsinlaw13_shares.f kj5 t311 t318).bind fun t336 => (if t336 = true then (if t312 = t319 then (if t322 = bt327.1 then (if (t323 == bt327.2) = true then (if bt329.1 = bt334.1 then (some (bt329.2 == bt334.2)) else (some false)) else (some false)) else (some false)) else (some false)) else (some false)))))))) = some r := H
     have A13 := Aside0.mk A130
     clear A130
     replace H := Option.bind_eq_some_iff.mp H
     obtain ⟨t324, A140, H⟩ := H
     replace H : ((tocsinref1_Floor.f kj5 t324).bind fun bt327 => ((elastic_Cost.f kj5 l0 l2).bind fun bt329 => ((tocsinlaw13_own.f kj5 l0).bind fun t331 => ((tocsinref1_Cost.f kj5 t331 l2).bind fun bt334 => ((tocsinlaw13_shares.f kj5 t311 t318).bind fun t336 => (if t336 = true then (if t312 = t319 then (if t322 = bt327.1 then (if (t323 == bt327.2) = true then (if bt329.1 = bt334.1 then (some (bt329.2 == bt334.2)) else (some false)) else (some false)) else (some false)) else (some false)) else (some false))))))) = some r := H
     have A14 := Aside0.mk A140
     clear A140
     replace H := Option.bind_eq_some_iff.mp H
     obtain ⟨⟨t327, t328⟩, A150, H⟩ := H
     replace H : ((elastic_Cost.f kj5 l0 l2).bind fun bt329 => ((tocsinlaw13_own.f kj5 l0).bind fun t331 => ((tocsinref1_Cost.f kj5 t331 l2).bind fun bt334 => ((tocsinlaw13_shares.f kj5 t311 t318).bind fun t336 => (if t336 = true then (if t312 = t319 then (if t322 = t327 then (if (t323 == t328) = true then (if bt329.1 = bt334.1 then (some (bt329.2 == bt334.2)) else (some false)) else (some false)) else (some false)) else (some false)) else (some false)))))) = some r := H
     have A15 := Aside0.mk A150
     clear A150
     replace H := Option.bind_eq_some_iff.mp H
     obtain ⟨⟨t329, t330⟩, A160, H⟩ := H
     replace H : ((tocsinlaw13_own.f kj5 l0).bind fun t331 => ((tocsinref1_Cost.f kj5 t331 l2).bind fun bt334 => ((tocsinlaw13_shares.f kj5 t311 t318).bind fun t336 => (if t336 = true then (if t312 = t319 then (if t322 = t327 then (if (t323 == t328) = true then (if t329 = bt334.1 then (some (t330 == bt334.2)) else (some false)) else (some false)) else (some false)) else (some false)) else (some false))))) = some r := H
     have A16 := Aside0.mk A160
     clear A160
     replace H := Option.bind_eq_some_iff.mp H
     obtain ⟨t331, A170, H⟩ := H
     replace H : ((tocsinref1_Cost.f kj5 t331 l2).bind fun bt334 => ((tocsinlaw13_shares.f kj5 t311 t318).bind fun t336 => (if t336 = true then (if t312 = t319 then (if t322 = t327 then (if (t323 == t328) = true then (if t329 = bt334.1 then (some (t330 == bt334.2)) else (some false)) else (some false)) else (some false)) else (some false)) else (some false)))) = some r := H
     have A17 := Aside0.mk A170
     clear A170
     replace H := Option.bind_eq_some_iff.mp H
     obtain ⟨⟨t334, t335⟩, A180, H⟩ := H
     replace H : ((tocsinlaw13_shares.f kj5 t311 t318).bind fun t336 => (if t336 = true then (if t312 = t319 then (if t322 = t327 then (if (t323 == t328) = true then (if t329 = t334 then (some (t330 == t335)) else (some false)) else (some false)) else (some false)) else (some false)) else (some false))) = some r := H
     have A18 := Aside0.mk A180
     clear A180
     replace H := Option.bind_eq_some_iff.mp H
     obtain ⟨t336, A190, H⟩ := H
     replace H : (if t336 = true then (if t312 = t319 then (if t322 = t327 then (if (t323 == t328) = true then (if t329 = t334 then (some (t330 == t335)) else (some false)) else (some false)) else (some false)) else (some false)) else (some false)) = some r := H
     have A19 := Aside0.mk A190
     clear A190
     by_cases c20 : t336 = true
     ·subst c20
      have H1 : (if t312 = t319 then (if t322 = t327 then (if (t323 == t328) = true then (if t329 = t334 then (some (t330 == t335)) else (some false)) else (some false)) else (some false)) else (some false)) = some r := by rw [if_pos rfl] at H; exact H
      clear H
      have H := H1
      clear H1
      by_cases c21 : t312 = t319
      ·rw [if_pos c21] at H
       have c21b0 : (t312 == t319) = true := beq_iff_eq.mpr c21
       have c21b1 : (t312 != t319) = false := bne_eq_false_iff_eq.mpr c21
       clear c21
       by_cases c22 : t322 = t327
       ·rw [if_pos c22] at H
        have c22b0 : (t322 == t327) = true := beq_iff_eq.mpr c22
        have c22b1 : (t322 != t327) = false := bne_eq_false_iff_eq.mpr c22
        clear c22
        by_cases c23 : (t323 == t328) = true
        ·rw [if_pos c23] at H
         have c23b0 : (t323 == t328) = true := c23
         (try (have c23b1 : decide (t323 = t328) = true := by simpa using c23))
         (try (have c23b2 : (t323 == t328) = true := by simpa using c23))
         clear c23
         by_cases c24 : t329 = t334
         ·rw [if_pos c24] at H
          have c24b0 : (t329 == t334) = true := beq_iff_eq.mpr c24
          have c24b1 : (t329 != t334) = false := bne_eq_false_iff_eq.mpr c24
          clear c24
          obtain rfl := Option.some.inj H
          go_wp2_with (first | ((with_reducible refine gate_callee (f := 10) rfl ?_); refine goesL_ (some 32) rfl rfl Try.func10 (by kernel_rfl) rfl #[.slice A0 l0.length c0, .int .i64 a1] rfl (by (try simp only [List.map_toArray, List.map_cons, List.map_nil]); first | done | rfl | (simp only [List.length_drop, List.length_take]; rfl)) ?_; (with_reducible refine (elastic_Press.calls kj5 _ _ l0 a1 t311 t312 _ ?side1 ?side2 A10.out).mono ?_); (case side1 => repeat (first | exact (Kd.C_below HR0.out HB.out) | (with_reducible refine Kd.C_alloc ?_ _) | (with_reducible refine Kd.C_drewN ?_ _) | (with_reducible refine Kd.C_drew ?_))); (case side2 => exact HC0.out); rintro e w25 ⟨v313, rfl, ho0, hb⟩; refine ⟨_, rfl, ?_⟩; have n0_ := Aside0.mk (Kd.R_lower ho0 (below_size (by repeat (first | (with_reducible first | exact HB.out | apply below_alloc | apply pw_below_drewN | apply below_drew1) | exact HB.out)))); have n1_ := Aside0.mk (below_step (by repeat (first | (with_reducible first | exact HB.out | apply below_alloc | apply pw_below_drewN | apply below_drew1) | exact HB.out)) hb); clear HB; have HO314 := n0_; have HB := n1_; clear n0_ n1_; (try clear hb); (try clear hb2); (try clear hk); (try clear hi); (try clear ho0)) | ((with_reducible refine gate_callee (f := 15) rfl ?_); refine goesL_ (some 37) rfl rfl Try.func15 (by kernel_rfl) rfl #[.slice A0 l0.length c0] rfl (by (try simp only [List.map_toArray, List.map_cons, List.map_nil]); first | done | rfl | (simp only [List.length_drop, List.length_take]; rfl)) ?_; (with_reducible refine (tocsinlaw13_own.calls kj5 _ _ l0 t315 _ ?side1 ?side2 A11.out).mono ?_); (case side1 => repeat (first | exact (Kd.C_below HR0.out HB.out) | (with_reducible refine Kd.C_alloc ?_ _) | (with_reducible refine Kd.C_drewN ?_ _) | (with_reducible refine Kd.C_drew ?_))); (case side2 => exact HC0.out); rintro e w26 ⟨v316, rfl, ho0, hb⟩; refine ⟨_, rfl, ?_⟩; have n0_ := Aside0.mk (Kd.R_below (by (with_reducible repeat (first | apply Kd.R_alloc | apply Kd.R_drewN | apply Kd.R_drew)); exact HO314.out) hb); have n1_ := Aside0.mk (Kd.R_lower ho0 (below_size (by repeat (first | (with_reducible first | exact HB.out | apply below_alloc | apply pw_below_drewN | apply below_drew1) | exact HB.out)))); have n2_ := Aside0.mk (below_step (by repeat (first | (with_reducible first | exact HB.out | apply below_alloc | apply pw_below_drewN | apply below_drew1) | exact HB.out)) hb); clear HO314; clear HB; have HO314 := n0_; have HO317 := n1_; have HB := n2_; clear n0_ n1_ n2_; (try clear hb); (try clear hb2); (try clear hk); (try clear hi); (try clear ho0); obtain ⟨Ao27, co27, eo27⟩ := Kd.R_slice HO317.out; subst eo27) | ((with_reducible refine gate_callee (f := 14) rfl ?_); refine goesL_ (some 39) rfl rfl Try.func14 (by kernel_rfl) rfl #[.slice Ao27 t315.length co27, .int .i64 a1] rfl (by (try simp only [List.map_toArray, List.map_cons, List.map_nil]); first | done | rfl | (simp only [List.length_drop, List.length_take]; rfl)) ?_; (with_reducible refine (tocsinref1_Press.calls kj5 _ _ t315 a1 t318 t319 _ ?side1 ?side2 A12.out).mono ?_); (case side1 => repeat (first | exact (Kd.R_reads' HO317.out).2.2 | (with_reducible refine Kd.C_alloc ?_ _) | (with_reducible refine Kd.C_drewN ?_ _) | (with_reducible refine Kd.C_drew ?_))); (case side2 => exact (Kd.R_reads' HO317.out).2.1); rintro e w28 ⟨v320, rfl, ho0, hb⟩; refine ⟨_, rfl, ?_⟩; have n0_ := Aside0.mk (Kd.R_elder' (by (with_reducible repeat (first | apply Kd.R_alloc | apply Kd.R_drewN | apply Kd.R_drew)); exact HO314.out) (Kd.R_base ho0) hb); have n1_ := Aside0.mk (Kd.R_below (by (with_reducible repeat (first | apply Kd.R_alloc | apply Kd.R_drewN | apply Kd.R_drew)); exact HO317.out) hb); have n2_ := Aside0.mk (Kd.R_lower (Kd.R_new' ho0 (Kd.R_lt (by (with_reducible repeat (first | apply Kd.R_alloc | apply Kd.R_drewN | apply Kd.R_drew)); exact HO314.out))) (below_size (by repeat (first | (with_reducible first | exact HB.out | apply below_alloc | apply pw_below_drewN | apply below_drew1) | exact HB.out)))); have n3_ := Aside0.mk (below_step (by repeat (first | (with_reducible first | exact HB.out | apply below_alloc | apply pw_below_drewN | apply below_drew1) | exact HB.out)) hb); clear HO314; clear HO317; clear HB; have HO314 := n0_; have HO317 := n1_; have HO321 := n2_; have HB := n3_; clear n0_ n1_ n2_ n3_; (try clear hb); (try clear hb2); (try clear hk); (try clear hi); (try clear ho0)) | ((with_reducible refine gate_callee (f := 11) rfl ?_); refine goesL_ (some 44) rfl rfl Try.func11 (by kernel_rfl) rfl #[.slice A0 l0.length c0] rfl (by (try simp only [List.map_toArray, List.map_cons, List.map_nil]); first | done | rfl | (simp only [List.length_drop, List.length_take]; rfl)) ?_; (with_reducible refine (elastic_Floor.calls kj5 _ _ l0 t322 t323 _ ?side1 ?side2 A13.out).mono ?_); (case side1 => repeat (first | exact (Kd.C_below HR0.out HB.out) | (with_reducible refine Kd.C_alloc ?_ _) | (with_reducible refine Kd.C_drewN ?_ _) | (with_reducible refine Kd.C_drew ?_))); (case side2 => exact HC0.out); rintro e w29 ⟨rfl, hb⟩; refine ⟨_, rfl, ?_⟩; have n0_ := Aside0.mk (Kd.R_below (by (with_reducible repeat (first | apply Kd.R_alloc | apply Kd.R_drewN | apply Kd.R_drew)); exact HO314.out) hb); have n1_ := Aside0.mk (Kd.R_below (by (with_reducible repeat (first | apply Kd.R_alloc | apply Kd.R_drewN | apply Kd.R_drew)); exact HO317.out) hb); have n2_ := Aside0.mk (Kd.R_below (by (with_reducible repeat (first | apply Kd.R_alloc | apply Kd.R_drewN | apply Kd.R_drew)); exact HO321.out) hb); have n3_ := Aside0.mk (below_step (by repeat (first | (with_reducible first | exact HB.out | apply below_alloc | apply pw_below_drewN | apply below_drew1) | exact HB.out)) hb); clear HO314; clear HO317; clear HO321; clear HB; have HO314 := n0_; have HO317 := n1_; have HO321 := n2_; have HB := n3_; clear n0_ n1_ n2_ n3_; (try clear hb); (try clear hb2); (try clear hk); (try clear hi)) | ((with_reducible refine gate_callee (f := 15) rfl ?_); refine goesL_ (some 49) rfl rfl Try.func15 (by kernel_rfl) rfl #[.slice A0 l0.length c0] rfl (by (try simp only [List.map_toArray, List.map_cons, List.map_nil]); first | done | rfl | (simp only [List.length_drop, List.length_take]; rfl)) ?_; (with_reducible refine (tocsinlaw13_own.calls kj5 _ _ l0 t324 _ ?side1 ?side2 A14.out).mono ?_); (case side1 => repeat (first | exact (Kd.C_below HR0.out HB.out) | (with_reducible refine Kd.C_alloc ?_ _) | (with_reducible refine Kd.C_drewN ?_ _) | (with_reducible refine Kd.C_drew ?_))); (case side2 => exact HC0.out); rintro e w30 ⟨v325, rfl, ho0, hb⟩; refine ⟨_, rfl, ?_⟩; have n0_ := Aside0.mk (Kd.R_below (by (with_reducible repeat (first | apply Kd.R_alloc | apply Kd.R_drewN | apply Kd.R_drew)); exact HO314.out) hb); have n1_ := Aside0.mk (Kd.R_elder' (by (with_reducible repeat (first | apply Kd.R_alloc | apply Kd.R_drewN | apply Kd.R_drew)); exact HO317.out) (Kd.R_base ho0) hb); have n2_ := Aside0.mk (Kd.R_below (by (with_reducible repeat (first | apply Kd.R_alloc | apply Kd.R_drewN | apply Kd.R_drew)); exact HO321.out) hb); have n3_ := Aside0.mk (Kd.R_lower (Kd.R_new' ho0 (Kd.R_lt (by (with_reducible repeat (first | apply Kd.R_alloc | apply Kd.R_drewN | apply Kd.R_drew)); exact HO317.out))) (below_size (by repeat (first | (with_reducible first | exact HB.out | apply below_alloc | apply pw_below_drewN | apply below_drew1) | exact HB.out)))); have n4_ := Aside0.mk (below_step (by repeat (first | (with_reducible first | exact HB.out | apply below_alloc | apply pw_below_drewN | apply below_drew1) | exact HB.out)) hb); clear HO314; clear HO317; clear HO321; clear HB; have HO314 := n0_; have HO317 := n1_; have HO321 := n2_; have HO326 := n3_; have HB := n4_; clear n0_ n1_ n2_ n3_ n4_; (try clear hb); (try clear hb2); (try clear hk); (try clear hi); (try clear ho0); obtain ⟨Ao31, co31, eo31⟩ := Kd.R_slice HO326.out; subst eo31) | ((with_reducible refine gate_callee (f := 16) rfl ?_); refine goesL_ (some 50) rfl rfl Try.func16 (by kernel_rfl) rfl #[.slice Ao31 t324.length co31] rfl (by (try simp only [List.map_toArray, List.map_cons, List.map_nil]); first | done | rfl | (simp only [List.length_drop, List.length_take]; rfl)) ?_; (with_reducible refine (tocsinref1_Floor.calls kj5 _ _ t324 t327 t328 _ ?side1 ?side2 A15.out).mono ?_); (case side1 => repeat (first | exact (Kd.R_reads' HO326.out).2.2 | (with_reducible refine Kd.C_alloc ?_ _) | (with_reducible refine Kd.C_drewN ?_ _) | (with_reducible refine Kd.C_drew ?_))); (case side2 => exact (Kd.R_reads' HO326.out).2.1); rintro e w32 ⟨rfl, hb⟩; refine ⟨_, rfl, ?_⟩; have n0_ := Aside0.mk (Kd.R_below (by (with_reducible repeat (first | apply Kd.R_alloc | apply Kd.R_drewN | apply Kd.R_drew)); exact HO314.out) hb); have n1_ := Aside0.mk (Kd.R_below (by (with_reducible repeat (first | apply Kd.R_alloc | apply Kd.R_drewN | apply Kd.R_drew)); exact HO317.out) hb); have n2_ := Aside0.mk (Kd.R_below (by (with_reducible repeat (first | apply Kd.R_alloc | apply Kd.R_drewN | apply Kd.R_drew)); exact HO321.out) hb); have n3_ := Aside0.mk (Kd.R_below (by (with_reducible repeat (first | apply Kd.R_alloc | apply Kd.R_drewN | apply Kd.R_drew)); exact HO326.out) hb); have n4_ := Aside0.mk (below_step (by repeat (first | (with_reducible first | exact HB.out | apply below_alloc | apply pw_below_drewN | apply below_drew1) | exact HB.out)) hb); clear HO314; clear HO317; clear HO321; clear HO326; clear HB; have HO314 := n0_; have HO317 := n1_; have HO321 := n2_; have HO326 := n3_; have HB := n4_; clear n0_ n1_ n2_ n3_ n4_; (try clear hb); (try clear hb2); (try clear hk); (try clear hi)) | ((with_reducible refine gate_callee (f := 12) rfl ?_); refine goesL_ (some 56) rfl rfl Try.func12 (by kernel_rfl) rfl #[.slice A0 l0.length c0, .slice A2 l2.length c2] rfl (by (try simp only [List.map_toArray, List.map_cons, List.map_nil]); first | done | rfl | (simp only [List.length_drop, List.length_take]; rfl)) ?_; (with_reducible refine (elastic_Cost.calls kj5 _ _ l0 _ _ l2 t329 t330 _ ?side1 ?side2 ?side3 ?side4 A16.out).mono ?_); (case side1 => repeat (first | exact (Kd.C_below HR0.out HB.out) | (with_reducible refine Kd.C_alloc ?_ _) | (with_reducible refine Kd.C_drewN ?_ _) | (with_reducible refine Kd.C_drew ?_))); (case side2 => exact HC0.out); (case side3 => repeat (first | exact (Kd.C_below HR2.out HB.out) | (with_reducible refine Kd.C_alloc ?_ _) | (with_reducible refine Kd.C_drewN ?_ _) | (with_reducible refine Kd.C_drew ?_))); (case side4 => exact HC2.out); rintro e w33 ⟨rfl, hb⟩; refine ⟨_, rfl, ?_⟩; have n0_ := Aside0.mk (Kd.R_below (by (with_reducible repeat (first | apply Kd.R_alloc | apply Kd.R_drewN | apply Kd.R_drew)); exact HO314.out) hb); have n1_ := Aside0.mk (Kd.R_below (by (with_reducible repeat (first | apply Kd.R_alloc | apply Kd.R_drewN | apply Kd.R_drew)); exact HO317.out) hb); have n2_ := Aside0.mk (Kd.R_below (by (with_reducible repeat (first | apply Kd.R_alloc | apply Kd.R_drewN | apply Kd.R_drew)); exact HO321.out) hb); have n3_ := Aside0.mk (Kd.R_below (by (with_reducible repeat (first | apply Kd.R_alloc | apply Kd.R_drewN | apply Kd.R_drew)); exact HO326.out) hb); have n4_ := Aside0.mk (below_step (by repeat (first | (with_reducible first | exact HB.out | apply below_alloc | apply pw_below_drewN | apply below_drew1) | exact HB.out)) hb); clear HO314; clear HO317; clear HO321; clear HO326; clear HB; have HO314 := n0_; have HO317 := n1_; have HO321 := n2_; have HO326 := n3_; have HB := n4_; clear n0_ n1_ n2_ n3_ n4_; (try clear hb); (try clear hb2); (try clear hk); (try clear hi)) | ((with_reducible refine gate_callee (f := 15) rfl ?_); refine goesL_ (some 61) rfl rfl Try.func15 (by kernel_rfl) rfl #[.slice A0 l0.length c0] rfl (by (try simp only [List.map_toArray, List.map_cons, List.map_nil]); first | done | rfl | (simp only [List.length_drop, List.length_take]; rfl)) ?_; (with_reducible refine (tocsinlaw13_own.calls kj5 _ _ l0 t331 _ ?side1 ?side2 A17.out).mono ?_); (case side1 => repeat (first | exact (Kd.C_below HR0.out HB.out) | (with_reducible refine Kd.C_alloc ?_ _) | (with_reducible refine Kd.C_drewN ?_ _) | (with_reducible refine Kd.C_drew ?_))); (case side2 => exact HC0.out); rintro e w34 ⟨v332, rfl, ho0, hb⟩; refine ⟨_, rfl, ?_⟩; have n0_ := Aside0.mk (Kd.R_below (by (with_reducible repeat (first | apply Kd.R_alloc | apply Kd.R_drewN | apply Kd.R_drew)); exact HO314.out) hb); have n1_ := Aside0.mk (Kd.R_elder' (by (with_reducible repeat (first | apply Kd.R_alloc | apply Kd.R_drewN | apply Kd.R_drew)); exact HO317.out) (Kd.R_base ho0) hb); have n2_ := Aside0.mk (Kd.R_below (by (with_reducible repeat (first | apply Kd.R_alloc | apply Kd.R_drewN | apply Kd.R_drew)); exact HO321.out) hb); have n3_ := Aside0.mk (Kd.R_elder' (by (with_reducible repeat (first | apply Kd.R_alloc | apply Kd.R_drewN | apply Kd.R_drew)); exact HO326.out) (Kd.R_base ho0) hb); have n4_ := Aside0.mk (Kd.R_lower (Kd.R_new' (Kd.R_new' ho0 (Kd.R_lt (by (with_reducible repeat (first | apply Kd.R_alloc | apply Kd.R_drewN | apply Kd.R_drew)); exact HO317.out))) (Kd.R_lt (by (with_reducible repeat (first | apply Kd.R_alloc | apply Kd.R_drewN | apply Kd.R_drew)); exact HO326.out))) (below_size (by repeat (first | (with_reducible first | exact HB.out | apply below_alloc | apply pw_below_drewN | apply below_drew1) | exact HB.out)))); have n5_ := Aside0.mk (below_step (by repeat (first | (with_reducible first | exact HB.out | apply below_alloc | apply pw_below_drewN | apply below_drew1) | exact HB.out)) hb); clear HO314; clear HO317; clear HO321; clear HO326; clear HB; have HO314 := n0_; have HO317 := n1_; have HO321 := n2_; have HO326 := n3_; have HO333 := n4_; have HB := n5_; clear n0_ n1_ n2_ n3_ n4_ n5_; (try clear hb); (try clear hb2); (try clear hk); (try clear hi); (try clear ho0); obtain ⟨Ao35, co35, eo35⟩ := Kd.R_slice HO333.out; subst eo35) | ((with_reducible refine gate_callee (f := 17) rfl ?_); refine goesL_ (some 63) rfl rfl Try.func17 (by kernel_rfl) rfl #[.slice Ao35 t331.length co35, .slice A2 l2.length c2] rfl (by (try simp only [List.map_toArray, List.map_cons, List.map_nil]); first | done | rfl | (simp only [List.length_drop, List.length_take]; rfl)) ?_; (with_reducible refine (tocsinref1_Cost.calls kj5 _ _ t331 _ _ l2 t334 t335 _ ?side1 ?side2 ?side3 ?side4 A18.out).mono ?_); (case side1 => repeat (first | exact (Kd.R_reads' HO333.out).2.2 | (with_reducible refine Kd.C_alloc ?_ _) | (with_reducible refine Kd.C_drewN ?_ _) | (with_reducible refine Kd.C_drew ?_))); (case side2 => exact (Kd.R_reads' HO333.out).2.1); (case side3 => repeat (first | exact (Kd.C_below HR2.out HB.out) | (with_reducible refine Kd.C_alloc ?_ _) | (with_reducible refine Kd.C_drewN ?_ _) | (with_reducible refine Kd.C_drew ?_))); (case side4 => exact HC2.out); rintro e w36 ⟨rfl, hb⟩; refine ⟨_, rfl, ?_⟩; have n0_ := Aside0.mk (Kd.R_below (by (with_reducible repeat (first | apply Kd.R_alloc | apply Kd.R_drewN | apply Kd.R_drew)); exact HO314.out) hb); have n1_ := Aside0.mk (Kd.R_below (by (with_reducible repeat (first | apply Kd.R_alloc | apply Kd.R_drewN | apply Kd.R_drew)); exact HO317.out) hb); have n2_ := Aside0.mk (Kd.R_below (by (with_reducible repeat (first | apply Kd.R_alloc | apply Kd.R_drewN | apply Kd.R_drew)); exact HO321.out) hb); have n3_ := Aside0.mk (Kd.R_below (by (with_reducible repeat (first | apply Kd.R_alloc | apply Kd.R_drewN | apply Kd.R_drew)); exact HO326.out) hb); have n4_ := Aside0.mk (Kd.R_below (by (with_reducible repeat (first | apply Kd.R_alloc | apply Kd.R_drewN | apply Kd.R_drew)); exact HO333.out) hb); have n5_ := Aside0.mk (below_step (by repeat (first | (with_reducible first | exact HB.out | apply below_alloc | apply pw_below_drewN | apply below_drew1) | exact HB.out)) hb); clear HO314; clear HO317; clear HO321; clear HO326; clear HO333; clear HB; have HO314 := n0_; have HO317 := n1_; have HO321 := n2_; have HO326 := n3_; have HO333 := n4_; have HB := n5_; clear n0_ n1_ n2_ n3_ n4_ n5_; (try clear hb); (try clear hb2); (try clear hk); (try clear hi); obtain ⟨Ao37, co37, eo37⟩ := Kd.R_slice HO314.out; subst eo37; obtain ⟨Ao38, co38, eo38⟩ := Kd.R_slice HO321.out; subst eo38) | ((with_reducible refine gate_callee (f := 13) rfl ?_); refine goesL_ (some 68) rfl rfl Try.func13 (by kernel_rfl) rfl #[.slice Ao37 t311.length co37, .slice Ao38 t318.length co38] rfl (by (try simp only [List.map_toArray, List.map_cons, List.map_nil]); first | done | rfl | (simp only [List.length_drop, List.length_take]; rfl)) ?_; (with_reducible refine (tocsinlaw13_shares.calls kj5 _ _ t311 _ _ t318 true _ ?side1 ?side2 ?side3 ?side4 A19.out).mono ?_); (case side1 => repeat (first | exact (Kd.R_reads' HO314.out).2.2 | (with_reducible refine Kd.C_alloc ?_ _) | (with_reducible refine Kd.C_drewN ?_ _) | (with_reducible refine Kd.C_drew ?_))); (case side2 => exact (Kd.R_reads' HO314.out).2.1); (case side3 => repeat (first | exact (Kd.R_reads' HO321.out).2.2 | (with_reducible refine Kd.C_alloc ?_ _) | (with_reducible refine Kd.C_drewN ?_ _) | (with_reducible refine Kd.C_drew ?_))); (case side4 => exact (Kd.R_reads' HO321.out).2.1); rintro e w' ⟨rfl, ⟨nd, rfl⟩⟩; refine ⟨_, rfl, ?_⟩))
          go_ret
          exact ⟨by first | rfl | (simp [errW_none, errW_some] <;> rfl) | (simp [*, errW_none, errW_some] <;> rfl), by repeat (first | (with_reducible first | exact HB.out | apply below_alloc | apply pw_below_drewN | apply below_drew1) | exact HB.out)⟩
         ·rw [if_neg c24] at H
          have c24b0 : (t329 == t334) = false := beq_eq_false_iff_ne.mpr c24
          have c24b1 : (t329 != t334) = true := bne_iff_ne.mpr c24
          obtain rfl := Option.some.inj H
          exact absurd hr_ (by decide)
        ·rw [if_neg c23] at H
         have c23b0 : (t323 == t328) = false := by simpa using c23
         (try (have c23b1 : decide (t323 = t328) = false := by simpa using c23))
         (try (have c23b2 : (t323 == t328) = false := by simpa using c23))
         (try (have c23b3 : ¬ (t323 = t328) := by simpa using c23))
         clear c23
         obtain rfl := Option.some.inj H
         exact absurd hr_ (by decide)
       ·rw [if_neg c22] at H
        have c22b0 : (t322 == t327) = false := beq_eq_false_iff_ne.mpr c22
        have c22b1 : (t322 != t327) = true := bne_iff_ne.mpr c22
        obtain rfl := Option.some.inj H
        exact absurd hr_ (by decide)
      ·rw [if_neg c21] at H
       have c21b0 : (t312 == t319) = false := beq_eq_false_iff_ne.mpr c21
       have c21b1 : (t312 != t319) = true := bne_iff_ne.mpr c21
       obtain rfl := Option.some.inj H
       exact absurd hr_ (by decide)
     ·replace c20 := Bool.eq_false_iff.mpr c20
      subst c20
      have H1 : (some false) = some r := by rw [if_neg (show ¬ (false = true) by decide)] at H; exact H
      clear H
      have H := H1
      clear H1
      obtain rfl := Option.some.inj H
      exact absurd hr_ (by decide)
 ·replace c5 := Bool.eq_false_iff.mpr c5
  subst c5
  have H1 : (some false) = some r := by rw [if_neg (show ¬ (false = true) by decide)] at H; exact H
  clear H
  have H := H1
  clear H1
  obtain rfl := Option.some.inj H
  exact absurd hr_ (by decide)

-- NOT PRINTED: function 7 (tocsinlaw13_ElasticKnown)

end Go.Proofs.Ytdpeedkmgegmnaa.PEl
