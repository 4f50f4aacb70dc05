-- functions and contracts as the kit's print.py writes them, the roots chosen in this session (wip/proots.sh)
-- slim
import Derived.Test.YtobkfbkhcghaeaaGreatDoorPRvx0
import Derived.Test.YtobkfbkhcghaeaaGreatDoorStRv
import Derived.Test.YtobkfbkhcghaeaaGreatDoorStGr
import Derived.Test.YtobkfbkhcghaeaaGreatDoorStRf
import Derived.Test.YtobkfbkhcghaeaaGreatDoorPRvx6
import Derived.Test.YtobkfbkhcghaeaaGreatDoorRvP
import Derived.Test.YtobkfbkhcghaeaaGreatDoorRvQ
namespace Go.Proofs.YtobkfbkhcghaeaaGreatDoor.PRv
open Go.RowKit Go.Proofs.YtobkfbkhcghaeaaGreatDoorW.PrintWords Go.Proofs.YtobkfbkhcghaeaaGreatDoorW.PrintLast Go.Proofs.YtobkfbkhcghaeaaGreatDoorW.PrintMore
attribute [local go_sem] max2_int min2_int max_two min_two max_three min_three max_four min_four   -- for this text's walks alone
set_option linter.unusedVariables false
set_option linter.unusedSimpArgs false

/-! ### tocsinlaw24_RivalSays: function 3 -/
mutual
def tocsinlaw24_RivalSays.j0 : Nat → List (S45) → List Int → Int → Int → Int → Int → Bool → Option (Bool)
 |0, _, _, _, _, _, _, _ => none
 |k + 1, x0, x1, x2, x3, x4, x5, x33 => if x33 = true then (some true) else ((tocsinlaw24_own.f k x0).bind fun t298 => ((rival_Worth.f k x0 x1).bind fun bt301 => ((rival_Best.f k x0).bind fun bt303 => ((tocsinref8_Best.f k t298).bind fun bt305 => ((rival_Greedy.f x0).bind fun bt307 => ((tocsinref8_Greedy.f k t298).bind fun bt311 => ((tocsinref8_GoodTrace.f k t298 x1).bind fun t315 => (if (t315 != (bt301.2 == 0)) = true then (tocsinlaw24_RivalSays.j1 k x2 x3 x4 x5 bt303.1 bt303.2 bt305.1 bt305.2 bt307.1 bt307.2 bt311.1 bt311.2 true) else (if bt301.2 = 0 then ((tocsinref8_Value.f k t298 x1).bind fun t316 => (if bt301.1 = t316 then (tocsinlaw24_RivalSays.j1 k x2 x3 x4 x5 bt303.1 bt303.2 bt305.1 bt305.2 bt307.1 bt307.2 bt311.1 bt311.2 false) else (tocsinlaw24_RivalSays.j1 k x2 x3 x4 x5 bt303.1 bt303.2 bt305.1 bt305.2 bt307.1 bt307.2 bt311.1 bt311.2 true))) else (if bt301.2 = 1 then (tocsinlaw24_RivalSays.j1 k x2 x3 x4 x5 bt303.1 bt303.2 bt305.1 bt305.2 bt307.1 bt307.2 bt311.1 bt311.2 (bt301.1 != 0)) else (tocsinlaw24_RivalSays.j1 k x2 x3 x4 x5 bt303.1 bt303.2 bt305.1 bt305.2 bt307.1 bt307.2 bt311.1 bt311.2 true)))))))))))
def tocsinlaw24_RivalSays.j1 : Nat → Int → Int → Int → Int → Int → Int → Int → Int → List Int → Int → List Int → Int → Bool → Option (Bool)
 |0, _, _, _, _, _, _, _, _, _, _, _, _, _ => none
 |k + 1, x2, x3, x4, x5, x16, x17, x18, x19, x20, x21, x22, x23, x90 => if x90 = true then (some false) else (if x4 ≥ 0 then (if x5 ≥ 0 then (if x4 ≤ 1000000000 then (if x5 ≤ 1000000000 then ((tocsinref1_Good.f 0 0 x2 x3).bind fun t317 => (if x16 = x18 then (if x17 = x19 then ((tocsinlaw24_ints.f k x20 x22).bind fun t318 => (if t318 = true then (if x21 = x23 then ((rival_Beats.f x2 x3 x4 x5).bind fun t319 => (if t317 = true then ((tocsinref1_Bound.f k x5 x4 x2 x3).bind fun t320 => (some (t319 == (!t320)))) else (some (t319 == false)))) else (some false)) else (some false))) else (some false)) else (some false))) else (if x16 = x18 then (if x17 = x19 then ((tocsinlaw24_ints.f k x20 x22).bind fun t321 => (if t321 = true then (if x21 = x23 then ((rival_Beats.f x2 x3 x4 x5).bind fun t322 => (some (t322 == false))) else (some false)) else (some false))) else (some false)) else (some false))) else (if x16 = x18 then (if x17 = x19 then ((tocsinlaw24_ints.f k x20 x22).bind fun t323 => (if t323 = true then (if x21 = x23 then ((rival_Beats.f x2 x3 x4 x5).bind fun t324 => (some (t324 == false))) else (some false)) else (some false))) else (some false)) else (some false))) else (if x16 = x18 then (if x17 = x19 then ((tocsinlaw24_ints.f k x20 x22).bind fun t325 => (if t325 = true then (if x21 = x23 then ((rival_Beats.f x2 x3 x4 x5).bind fun t326 => (some (t326 == false))) else (some false)) else (some false))) else (some false)) else (some false))) else (if x16 = x18 then (if x17 = x19 then ((tocsinlaw24_ints.f k x20 x22).bind fun t327 => (if t327 = true then (if x21 = x23 then ((rival_Beats.f x2 x3 x4 x5).bind fun t328 => (some (t328 == false))) else (some false)) else (some false))) else (some false)) else (some false)))
end
def tocsinlaw24_RivalSays.f (k : Nat) (l0 : List (S45)) (l1 : List Int) (a2 : Int) (a3 : Int) (a4 : Int) (a5 : Int) : Option (Bool) := (tocsinlaw24_awake.f k).bind fun t296 => (if t296 = true then ((tocsinlaw24_heavy.f k l0 8 60).bind fun t297 => (if t297 = true then (tocsinlaw24_RivalSays.j0 k l0 l1 a2 a3 a4 a5 true) else (tocsinlaw24_RivalSays.j0 k l0 l1 a2 a3 a4 a5 (decide ((l1.length : Int) > 200))))) else (some false))
theorem says_no : ∀ (k : Nat) (x2 x3 x4 x5 x16 x17 x18 x19 : Int) (x20 : List Int) (x21 : Int) (x22 : List Int) (x23 : Int), ¬ tocsinlaw24_RivalSays.j1 k x2 x3 x4 x5 x16 x17 x18 x19 x20 x21 x22 x23 true = some true
 |0, _, _, _, _, _, _, _, _, _, _, _, _ => fun h => by simp [tocsinlaw24_RivalSays.j1] at h
 |_ + 1, _, _, _, _, _, _, _, _, _, _, _, _ => fun h => by simp [tocsinlaw24_RivalSays.j1] at h
set_option maxHeartbeats 8000000 in
set_option maxRecDepth 100000 in
theorem tocsinlaw24_RivalSays.calls (k : Nat) (A0 : Option Addr) (c0 : Nat) (l0 : List (S45)) (A1 : Option Addr) (c1 : Nat) (l1 : List Int) (a2 : Int) (a3 : Int) (a4 : Int) (a5 : Int) (r : Bool) (w : World) (hTb : Tab w) (hr0 : Kd.C k45 w A0 l0.length l0) (hc0 : l0.length ≤ c0) (hr1 : Kd.C (Kd.int .i64) w A1 l1.length l1) (hc1 : l1.length ≤ c1) (h : tocsinlaw24_RivalSays.f k l0 l1 a2 a3 a4 a5 = some r) (hr_ : r = true) :
  Calls Tryz.prog 3 #[.slice A0 l0.length c0, .slice A1 l1.length c1, .int .i64 a2, .int .i64 a3, .int .i64 a4, .int .i64 a5] w fun e w' => e = .returned (.bool r) ∧ Below w.heap.size w w' := by
 have HTb := Aside0.mk hTb
 clear hTb
 have hu40 := Tryz.underlying40
 have HR0 := Aside0.mk hr0
 have HC0 := Aside0.mk hc0
 clear hr0 hc0
 have HR1 := Aside0.mk hr1
 have HC1 := Aside0.mk hc1
 clear hr1 hc1
 have HB := Aside0.mk (Below.refl w.heap.size w)
 have H : ((tocsinlaw24_awake.f k).bind fun t296 => (if t296 = true then ((tocsinlaw24_heavy.f k l0 8 60).bind fun t297 => (if t297 = true then (tocsinlaw24_RivalSays.j0 k l0 l1 a2 a3 a4 a5 true) else (tocsinlaw24_RivalSays.j0 k l0 l1 a2 a3 a4 a5 (decide ((l1.length : Int) > 200))))) else (some false))) = some r := h
 clear h
 replace H := Option.bind_eq_some_iff.mp H
 obtain ⟨t296, A70, H⟩ := H
 replace H : (if t296 = true then ((tocsinlaw24_heavy.f k l0 8 60).bind fun t297 => (if t297 = true then (tocsinlaw24_RivalSays.j0 k l0 l1 a2 a3 a4 a5 true) else (tocsinlaw24_RivalSays.j0 k l0 l1 a2 a3 a4 a5 (decide ((l1.length : Int) > 200))))) else (some false)) = some r := H
 have A7 := Aside0.mk A70
 clear A70
 by_cases c8 : t296 = true
 ·subst c8
  have H1 : ((tocsinlaw24_heavy.f k l0 8 60).bind fun t297 => (if t297 = true then (tocsinlaw24_RivalSays.j0 k l0 l1 a2 a3 a4 a5 true) else (tocsinlaw24_RivalSays.j0 k l0 l1 a2 a3 a4 a5 (decide ((l1.length : Int) > 200))))) = some r := by rw [if_pos rfl] at H; exact H
  clear H
  have H := H1
  clear H1
  have HC9 := Aside0.mk H
  clear H
  go_enter Tryz.func3, Tryz.ntmps3
  go_upto_region 3 with (first | ((with_reducible refine gate_callee (f := 4) rfl ?_); refine goesL_ (some 25) rfl rfl Tryz.func4 (by kernel_rfl) rfl #[] rfl (by (try simp only [List.map_toArray, List.map_cons, List.map_nil]); first | done | rfl | (simp only [List.length_drop, List.length_take]; rfl)) ?_; (with_reducible refine (tocsinlaw24_awake.calls k  true _ (tab_below HTb.out (bel HB)) A7.out rfl).mono ?_); rintro e w10 ⟨rfl, hb⟩; refine ⟨_, rfl, ?_⟩; have n0_ := Aside0.mk (below_step (bel HB) hb); clear HB; have HB := n0_; clear n0_; (try clear hb); (try clear hb2); (try clear hk); (try clear hi)))
  (try simp only [Act.put, List.setIfInBounds_toArray, List.set_cons_zero, List.set_cons_succ])
  go_cut [33] (fun v33 wc => ∃ (kq : Nat) (x33_8 : Bool), v33 = .bool x33_8 ∧ Aside0 (tocsinlaw24_RivalSays.j0 kq l0 l1 a2 a3 a4 a5 x33_8 = some r) ∧ Aside0 (kq ≤ k) ∧ Aside0 (Below w.heap.size w wc))
  case first =>
   have H := HC9.out
   clear HC9
   replace H := Option.bind_eq_some_iff.mp H
   obtain ⟨t297, A110, H⟩ := H
   replace H : (if t297 = true then (tocsinlaw24_RivalSays.j0 k l0 l1 a2 a3 a4 a5 true) else (tocsinlaw24_RivalSays.j0 k l0 l1 a2 a3 a4 a5 (decide ((l1.length : Int) > 200)))) = some r := H
   have A11 := Aside0.mk A110
   clear A110
   by_cases c12 : t297 = true
   ·subst c12
    have H1 : (tocsinlaw24_RivalSays.j0 k l0 l1 a2 a3 a4 a5 true) = some r := by rw [if_pos rfl] at H; exact H
    clear H
    have H := H1
    clear H1
    have H' := Aside0.mk H
    clear H
    go_wp2_with (first | ((with_reducible refine gate_callee (f := 5) rfl ?_); refine goesL_ (some 28) rfl rfl Tryz.func5 (by kernel_rfl) rfl #[.slice A0 l0.length c0, .int .i64 8, .int .i64 60] rfl (by (try simp only [List.map_toArray, List.map_cons, List.map_nil]); first | done | rfl | (simp only [List.length_drop, List.length_take]; rfl)) ?_; (with_reducible refine (tocsinlaw24_heavy.calls k _ _ l0 8 60 true _ ?side1 ?side2 A11.out).mono ?_); (case side1 => repeat (first | exact (Kd.C_below HR0.out HB.out) | (with_reducible refine Kd.C_alloc ?_ _) | (with_reducible refine Kd.C_drewN ?_ _) | (with_reducible refine Kd.C_drew ?_))); (case side2 => exact HC0.out); rintro e w' ⟨rfl, ⟨nd, rfl⟩⟩; refine ⟨_, rfl, ?_⟩))
    go_meet
    case rel => exact ⟨_, (true), (by first | rfl | simp [*]), H', ⟨by first | omega | exact Nat.le_refl _⟩, ⟨bel HB⟩⟩
   ·replace c12 := Bool.eq_false_iff.mpr c12
    subst c12
    have H1 : (tocsinlaw24_RivalSays.j0 k l0 l1 a2 a3 a4 a5 (decide ((l1.length : Int) > 200))) = some r := by rw [if_neg (show ¬ (false = true) by decide)] at H; exact H
    clear H
    have H := H1
    clear H1
    have H' := Aside0.mk H
    clear H
    go_wp2_with (first | ((with_reducible refine gate_callee (f := 5) rfl ?_); refine goesL_ (some 28) rfl rfl Tryz.func5 (by kernel_rfl) rfl #[.slice A0 l0.length c0, .int .i64 8, .int .i64 60] rfl (by (try simp only [List.map_toArray, List.map_cons, List.map_nil]); first | done | rfl | (simp only [List.length_drop, List.length_take]; rfl)) ?_; (with_reducible refine (tocsinlaw24_heavy.calls k _ _ l0 8 60 false _ ?side1 ?side2 A11.out).mono ?_); (case side1 => repeat (first | exact (Kd.C_below HR0.out HB.out) | (with_reducible refine Kd.C_alloc ?_ _) | (with_reducible refine Kd.C_drewN ?_ _) | (with_reducible refine Kd.C_drew ?_))); (case side2 => exact HC0.out); rintro e w' ⟨rfl, ⟨nd, rfl⟩⟩; refine ⟨_, rfl, ?_⟩))
    go_meet
    case rel => exact ⟨_, (decide ((l1.length : Int) > 200)), (by first | rfl | simp [*]), H', ⟨by first | omega | exact Nat.le_refl _⟩, ⟨bel HB⟩⟩
  case rest =>
   clear HC9
   try clear c1
   try clear p2
   try clear c3
   try clear c4
   try clear c5
   try clear c8
   try clear c12
   obtain ⟨kq, x33_8, rfl, HA, HJ8, HB⟩ := hcut
   cases kq with
   |zero => exact absurd HA.out (by simp [tocsinlaw24_RivalSays.j0])
   |succ kj8 =>
    have H := HA.out
    clear HA
    simp only [tocsinlaw24_RivalSays.j0] at H
    by_cases c13 : x33_8 = true
    ·subst c13
     have H1 : (some true) = some r := by rw [if_pos rfl] at H; exact H
     clear H
     have H := H1
     clear H1
     obtain rfl := Option.some.inj H
     go_wp2
     go_ret
     exact ⟨by first | rfl | (simp [*] <;> rfl), bel HB⟩
    ·replace c13 := Bool.eq_false_iff.mpr c13
     subst c13
     have H1 : ((tocsinlaw24_own.f kj8 l0).bind fun t298 => ((rival_Worth.f kj8 l0 l1).bind fun bt301 => ((rival_Best.f kj8 l0).bind fun bt303 => ((tocsinref8_Best.f kj8 t298).bind fun bt305 => ((rival_Greedy.f l0).bind fun bt307 => ((tocsinref8_Greedy.f kj8 t298).bind fun bt311 => ((tocsinref8_GoodTrace.f kj8 t298 l1).bind fun t315 => (if (t315 != (bt301.2 == 0)) = true then (tocsinlaw24_RivalSays.j1 kj8 a2 a3 a4 a5 bt303.1 bt303.2 bt305.1 bt305.2 bt307.1 bt307.2 bt311.1 bt311.2 true) else (if bt301.2 = 0 then ((tocsinref8_Value.f kj8 t298 l1).bind fun t316 => (if bt301.1 = t316 then (tocsinlaw24_RivalSays.j1 kj8 a2 a3 a4 a5 bt303.1 bt303.2 bt305.1 bt305.2 bt307.1 bt307.2 bt311.1 bt311.2 false) else (tocsinlaw24_RivalSays.j1 kj8 a2 a3 a4 a5 bt303.1 bt303.2 bt305.1 bt305.2 bt307.1 bt307.2 bt311.1 bt311.2 true))) else (if bt301.2 = 1 then (tocsinlaw24_RivalSays.j1 kj8 a2 a3 a4 a5 bt303.1 bt303.2 bt305.1 bt305.2 bt307.1 bt307.2 bt311.1 bt311.2 (bt301.1 != 0)) else (tocsinlaw24_RivalSays.j1 kj8 a2 a3 a4 a5 bt303.1 bt303.2 bt305.1 bt305.2 bt307.1 bt307.2 bt311.1 bt311.2 true))))))))))) = some r := by rw [if_neg (show ¬ (false = true) by decide)] at H; exact H
     clear H
     have H := H1
     clear H1
     replace H := Option.bind_eq_some_iff.mp H
     obtain ⟨t298, A140, H⟩ := H
     replace H : ((rival_Worth.f kj8 l0 l1).bind fun bt301 => ((rival_Best.f kj8 l0).bind fun bt303 => ((tocsinref8_Best.f kj8 t298).bind fun bt305 => ((rival_Greedy.f l0).bind fun bt307 => ((tocsinref8_Greedy.f kj8 t298).bind fun bt311 => ((tocsinref8_GoodTrace.f kj8 t298 l1).bind fun t315 => (if (t315 != (bt301.2 == 0)) = true then (tocsinlaw24_RivalSays.j1 kj8 a2 a3 a4 a5 bt303.1 bt303.2 bt305.1 bt305.2 bt307.1 bt307.2 bt311.1 bt311.2 true) else (if bt301.2 = 0 then ((tocsinref8_Value.f kj8 t298 l1).bind fun t316 => (if bt301.1 = t316 then (tocsinlaw24_RivalSays.j1 kj8 a2 a3 a4 a5 bt303.1 bt303.2 bt305.1 bt305.2 bt307.1 bt307.2 bt311.1 bt311.2 false) else (tocsinlaw24_RivalSays.j1 kj8 a2 a3 a4 a5 bt303.1 bt303.2 bt305.1 bt305.2 bt307.1 bt307.2 bt311.1 bt311.2 true))) else (if bt301.2 = 1 then (tocsinlaw24_RivalSays.j1 kj8 a2 a3 a4 a5 bt303.1 bt303.2 bt305.1 bt305.2 bt307.1 bt307.2 bt311.1 bt311.2 (bt301.1 != 0)) else (tocsinlaw24_RivalSays.j1 kj8 a2 a3 a4 a5 bt303.1 bt303.2 bt305.1 bt305.2 bt307.1 bt307.2 bt311.1 bt311.2 true)))))))))) = some r := H
     have A14 := Aside0.mk A140
     clear A140
     replace H := Option.bind_eq_some_iff.mp H
     obtain ⟨⟨t301, t302⟩, A150, H⟩ := H
     replace H : ((rival_Best.f kj8 l0).bind fun bt303 => ((tocsinref8_Best.f kj8 t298).bind fun bt305 => ((rival_Greedy.f l0).bind fun bt307 => ((tocsinref8_Greedy.f kj8 t298).bind fun bt311 => ((tocsinref8_GoodTrace.f kj8 t298 l1).bind fun t315 => (if (t315 != (t302 == 0)) = true then (tocsinlaw24_RivalSays.j1 kj8 a2 a3 a4 a5 bt303.1 bt303.2 bt305.1 bt305.2 bt307.1 bt307.2 bt311.1 bt311.2 true) else (if t302 = 0 then ((tocsinref8_Value.f kj8 t298 l1).bind fun t316 => (if t301 = t316 then (tocsinlaw24_RivalSays.j1 kj8 a2 a3 a4 a5 bt303.1 bt303.2 bt305.1 bt305.2 bt307.1 bt307.2 bt311.1 bt311.2 false) else (tocsinlaw24_RivalSays.j1 kj8 a2 a3 a4 a5 bt303.1 bt303.2 bt305.1 bt305.2 bt307.1 bt307.2 bt311.1 bt311.2 true))) else (if t302 = 1 then (tocsinlaw24_RivalSays.j1 kj8 a2 a3 a4 a5 bt303.1 bt303.2 bt305.1 bt305.2 bt307.1 bt307.2 bt311.1 bt311.2 (t301 != 0)) else (tocsinlaw24_RivalSays.j1 kj8 a2 a3 a4 a5 bt303.1 bt303.2 bt305.1 bt305.2 bt307.1 bt307.2 bt311.1 bt311.2 true))))))))) = some r := H
     have A15 := Aside0.mk A150
     clear A150
     replace H := Option.bind_eq_some_iff.mp H
     obtain ⟨⟨t303, t304⟩, A160, H⟩ := H
     replace H : ((tocsinref8_Best.f kj8 t298).bind fun bt305 => ((rival_Greedy.f l0).bind fun bt307 => ((tocsinref8_Greedy.f kj8 t298).bind fun bt311 => ((tocsinref8_GoodTrace.f kj8 t298 l1).bind fun t315 => (if (t315 != (t302 == 0)) = true then (tocsinlaw24_RivalSays.j1 kj8 a2 a3 a4 a5 t303 t304 bt305.1 bt305.2 bt307.1 bt307.2 bt311.1 bt311.2 true) else (if t302 = 0 then ((tocsinref8_Value.f kj8 t298 l1).bind fun t316 => (if t301 = t316 then (tocsinlaw24_RivalSays.j1 kj8 a2 a3 a4 a5 t303 t304 bt305.1 bt305.2 bt307.1 bt307.2 bt311.1 bt311.2 false) else (tocsinlaw24_RivalSays.j1 kj8 a2 a3 a4 a5 t303 t304 bt305.1 bt305.2 bt307.1 bt307.2 bt311.1 bt311.2 true))) else (if t302 = 1 then (tocsinlaw24_RivalSays.j1 kj8 a2 a3 a4 a5 t303 t304 bt305.1 bt305.2 bt307.1 bt307.2 bt311.1 bt311.2 (t301 != 0)) else (tocsinlaw24_RivalSays.j1 kj8 a2 a3 a4 a5 t303 t304 bt305.1 bt305.2 bt307.1 bt307.2 bt311.1 bt311.2 true)))))))) = some r := H
     have A16 := Aside0.mk A160
     clear A160
     replace H := Option.bind_eq_some_iff.mp H
     obtain ⟨⟨t305, t306⟩, A170, H⟩ := H
     replace H : ((rival_Greedy.f l0).bind fun bt307 => ((tocsinref8_Greedy.f kj8 t298).bind fun bt311 => ((tocsinref8_GoodTrace.f kj8 t298 l1).bind fun t315 => (if (t315 != (t302 == 0)) = true then (tocsinlaw24_RivalSays.j1 kj8 a2 a3 a4 a5 t303 t304 t305 t306 bt307.1 bt307.2 bt311.1 bt311.2 true) else (if t302 = 0 then ((tocsinref8_Value.f kj8 t298 l1).bind fun t316 => (if t301 = t316 then (tocsinlaw24_RivalSays.j1 kj8 a2 a3 a4 a5 t303 t304 t305 t306 bt307.1 bt307.2 bt311.1 bt311.2 false) else (tocsinlaw24_RivalSays.j1 kj8 a2 a3 a4 a5 t303 t304 t305 t306 bt307.1 bt307.2 bt311.1 bt311.2 true))) else (if t302 = 1 then (tocsinlaw24_RivalSays.j1 kj8 a2 a3 a4 a5 t303 t304 t305 t306 bt307.1 bt307.2 bt311.1 bt311.2 (t301 != 0)) else (tocsinlaw24_RivalSays.j1 kj8 a2 a3 a4 a5 t303 t304 t305 t306 bt307.1 bt307.2 bt311.1 bt311.2 true))))))) = some r := H
     have A17 := Aside0.mk A170
     clear A170
     replace H := Option.bind_eq_some_iff.mp H
     obtain ⟨⟨t307, t308⟩, A180, H⟩ := H
     replace H : ((tocsinref8_Greedy.f kj8 t298).bind fun bt311 => ((tocsinref8_GoodTrace.f kj8 t298 l1).bind fun t315 => (if (t315 != (t302 == 0)) = true then (tocsinlaw24_RivalSays.j1 kj8 a2 a3 a4 a5 t303 t304 t305 t306 t307 t308 bt311.1 bt311.2 true) else (if t302 = 0 then ((tocsinref8_Value.f kj8 t298 l1).bind fun t316 => (if t301 = t316 then (tocsinlaw24_RivalSays.j1 kj8 a2 a3 a4 a5 t303 t304 t305 t306 t307 t308 bt311.1 bt311.2 false) else (tocsinlaw24_RivalSays.j1 kj8 a2 a3 a4 a5 t303 t304 t305 t306 t307 t308 bt311.1 bt311.2 true))) else (if t302 = 1 then (tocsinlaw24_RivalSays.j1 kj8 a2 a3 a4 a5 t303 t304 t305 t306 t307 t308 bt311.1 bt311.2 (t301 != 0)) else (tocsinlaw24_RivalSays.j1 kj8 a2 a3 a4 a5 t303 t304 t305 t306 t307 t308 bt311.1 bt311.2 true)))))) = some r := H
     have A18 := Aside0.mk A180
     clear A180
     replace H := Option.bind_eq_some_iff.mp H
     obtain ⟨⟨t311, t312⟩, A190, H⟩ := H
     replace H : ((tocsinref8_GoodTrace.f kj8 t298 l1).bind fun t315 => (if (t315 != (t302 == 0)) = true then (tocsinlaw24_RivalSays.j1 kj8 a2 a3 a4 a5 t303 t304 t305 t306 t307 t308 t311 t312 true) else (if t302 = 0 then ((tocsinref8_Value.f kj8 t298 l1).bind fun t316 => (if t301 = t316 then (tocsinlaw24_RivalSays.j1 kj8 a2 a3 a4 a5 t303 t304 t305 t306 t307 t308 t311 t312 false) else (tocsinlaw24_RivalSays.j1 kj8 a2 a3 a4 a5 t303 t304 t305 t306 t307 t308 t311 t312 true))) else (if t302 = 1 then (tocsinlaw24_RivalSays.j1 kj8 a2 a3 a4 a5 t303 t304 t305 t306 t307 t308 t311 t312 (t301 != 0)) else (tocsinlaw24_RivalSays.j1 kj8 a2 a3 a4 a5 t303 t304 t305 t306 t307 t308 t311 t312 true))))) = some r := H
     have A19 := Aside0.mk A190
     clear A190
     have HC20 := Aside0.mk H
     clear H
     go_upto_region 11 with (first | ((with_reducible refine gate_callee (f := 6) rfl ?_); refine goesL_ (some 35) rfl rfl Tryz.func6 (by kernel_rfl) rfl #[.slice A0 l0.length c0] rfl (by (try simp only [List.map_toArray, List.map_cons, List.map_nil]); first | done | rfl | (simp only [List.length_drop, List.length_take]; rfl)) ?_; (with_reducible refine (tocsinlaw24_own.calls kj8 _ _ l0 t298 _ ?side1 ?side2 A14.out).mono ?_); (case side1 => repeat (first | exact (Kd.C_below HR0.out HB.out) | (with_reducible refine Kd.C_alloc ?_ _) | (with_reducible refine Kd.C_drewN ?_ _) | (with_reducible refine Kd.C_drew ?_))); (case side2 => exact HC0.out); rintro e w21 ⟨v299, rfl, ho0, hb⟩; refine ⟨_, rfl, ?_⟩; have n0_ := Aside0.mk (Kd.R_lower ho0 (below_size (bel HB))); have n1_ := Aside0.mk (below_step (bel HB) hb); clear HB; have HO300 := n0_; have HB := n1_; clear n0_ n1_; (try clear hb); (try clear hb2); (try clear hk); (try clear hi); (try clear ho0)) | ((with_reducible refine gate_callee (f := 7) rfl ?_); refine goesL_ (some 39) rfl rfl Tryz.func7 (by kernel_rfl) rfl #[.slice A0 l0.length c0, .slice A1 l1.length c1] rfl (by (try simp only [List.map_toArray, List.map_cons, List.map_nil]); first | done | rfl | (simp only [List.length_drop, List.length_take]; rfl)) ?_; (with_reducible refine (rival_Worth.calls kj8 _ _ l0 _ _ l1 t301 t302 _ (tab_below HTb.out (bel HB)) ?side1 ?side2 ?side3 ?side4 A15.out).mono ?_); (case side1 => repeat (first | exact (Kd.C_below HR0.out HB.out) | (with_reducible refine Kd.C_alloc ?_ _) | (with_reducible refine Kd.C_drewN ?_ _) | (with_reducible refine Kd.C_drew ?_))); (case side2 => exact HC0.out); (case side3 => repeat (first | exact (Kd.C_below HR1.out HB.out) | (with_reducible refine Kd.C_alloc ?_ _) | (with_reducible refine Kd.C_drewN ?_ _) | (with_reducible refine Kd.C_drew ?_))); (case side4 => exact HC1.out); rintro e w22 ⟨rfl, hb⟩; refine ⟨_, rfl, ?_⟩; have n0_ := Aside0.mk (Kd.R_below (by (with_reducible repeat (first | apply Kd.R_alloc | apply Kd.R_drewN | apply Kd.R_drew)); exact HO300.out) hb); have n1_ := Aside0.mk (below_step (bel HB) hb); clear HO300; clear HB; have HO300 := n0_; have HB := n1_; clear n0_ n1_; (try clear hb); (try clear hb2); (try clear hk); (try clear hi)) | ((with_reducible refine gate_callee (f := 8) rfl ?_); refine goesL_ (some 44) rfl rfl Tryz.func8 (by kernel_rfl) rfl #[.slice A0 l0.length c0] rfl (by (try simp only [List.map_toArray, List.map_cons, List.map_nil]); first | done | rfl | (simp only [List.length_drop, List.length_take]; rfl)) ?_; (with_reducible refine (rival_Best.calls kj8 _ _ l0 t303 t304 _ (tab_below HTb.out (bel HB)) ?side1 ?side2 A16.out).mono ?_); (case side1 => repeat (first | exact (Kd.C_below HR0.out HB.out) | (with_reducible refine Kd.C_alloc ?_ _) | (with_reducible refine Kd.C_drewN ?_ _) | (with_reducible refine Kd.C_drew ?_))); (case side2 => exact HC0.out); rintro e w23 ⟨rfl, hb⟩; refine ⟨_, rfl, ?_⟩; have n0_ := Aside0.mk (Kd.R_below (by (with_reducible repeat (first | apply Kd.R_alloc | apply Kd.R_drewN | apply Kd.R_drew)); exact HO300.out) hb); have n1_ := Aside0.mk (below_step (bel HB) hb); clear HO300; clear HB; have HO300 := n0_; have HB := n1_; clear n0_ n1_; (try clear hb); (try clear hb2); (try clear hk); (try clear hi); obtain ⟨Ao24, co24, eo24⟩ := Kd.R_slice HO300.out; subst eo24) | ((with_reducible refine gate_callee (f := 9) rfl ?_); refine goesL_ (some 49) rfl rfl Tryz.func9 (by kernel_rfl) rfl #[.slice Ao24 t298.length co24] rfl (by (try simp only [List.map_toArray, List.map_cons, List.map_nil]); first | done | rfl | (simp only [List.length_drop, List.length_take]; rfl)) ?_; (with_reducible refine (tocsinref8_Best.calls kj8 _ _ t298 t305 t306 _ (tab_below HTb.out (bel HB)) ?side1 ?side2 A17.out).mono ?_); (case side1 => repeat (first | exact (Kd.R_reads' HO300.out).2.2 | (with_reducible refine Kd.C_alloc ?_ _) | (with_reducible refine Kd.C_drewN ?_ _) | (with_reducible refine Kd.C_drew ?_))); (case side2 => exact (Kd.R_reads' HO300.out).2.1); rintro e w25 ⟨rfl, hb⟩; refine ⟨_, rfl, ?_⟩; have n0_ := Aside0.mk (Kd.R_below (by (with_reducible repeat (first | apply Kd.R_alloc | apply Kd.R_drewN | apply Kd.R_drew)); exact HO300.out) hb); have n1_ := Aside0.mk (below_step (bel HB) hb); clear HO300; clear HB; have HO300 := n0_; have HB := n1_; clear n0_ n1_; (try clear hb); (try clear hb2); (try clear hk); (try clear hi)) | ((with_reducible refine gate_callee (f := 10) rfl ?_); refine goesL_ (some 54) rfl rfl Tryz.func10 (by kernel_rfl) rfl #[.slice A0 l0.length c0] rfl (by (try simp only [List.map_toArray, List.map_cons, List.map_nil]); first | done | rfl | (simp only [List.length_drop, List.length_take]; rfl)) ?_; (with_reducible refine (rival_Greedy.calls _ _ l0 t307 t308 _ (tab_below HTb.out (bel HB)) ?side1 ?side2 A18.out).mono ?_); (case side1 => repeat (first | exact (Kd.C_below HR0.out HB.out) | (with_reducible refine Kd.C_alloc ?_ _) | (with_reducible refine Kd.C_drewN ?_ _) | (with_reducible refine Kd.C_drew ?_))); (case side2 => exact HC0.out); rintro e w26 ⟨v309, rfl, ho0, hb⟩; refine ⟨_, rfl, ?_⟩; have n0_ := Aside0.mk (Kd.R_below (by (with_reducible repeat (first | apply Kd.R_alloc | apply Kd.R_drewN | apply Kd.R_drew)); exact HO300.out) hb); have n1_ := Aside0.mk (Kd.R_lower ho0 (below_size (bel HB))); have n2_ := Aside0.mk (below_step (bel HB) hb); clear HO300; clear HB; have HO300 := n0_; have HO310 := n1_; have HB := n2_; clear n0_ n1_ n2_; (try clear hb); (try clear hb2); (try clear hk); (try clear hi); (try clear ho0)) | ((with_reducible refine gate_callee (f := 11) rfl ?_); refine goesL_ (some 59) rfl rfl Tryz.func11 (by kernel_rfl) rfl #[.slice Ao24 t298.length co24] rfl (by (try simp only [List.map_toArray, List.map_cons, List.map_nil]); first | done | rfl | (simp only [List.length_drop, List.length_take]; rfl)) ?_; (with_reducible refine (tocsinref8_Greedy.calls kj8 _ _ t298 t311 t312 _ (tab_below HTb.out (bel HB)) ?side1 ?side2 A19.out).mono ?_); (case side1 => repeat (first | exact (Kd.R_reads' HO300.out).2.2 | (with_reducible refine Kd.C_alloc ?_ _) | (with_reducible refine Kd.C_drewN ?_ _) | (with_reducible refine Kd.C_drew ?_))); (case side2 => exact (Kd.R_reads' HO300.out).2.1); rintro e w27 ⟨v313, rfl, ho0, hb⟩; refine ⟨_, rfl, ?_⟩; have n0_ := Aside0.mk (Kd.R_below (by (with_reducible repeat (first | apply Kd.R_alloc | apply Kd.R_drewN | apply Kd.R_drew)); exact HO300.out) hb); have n1_ := Aside0.mk (Kd.R_elder' (by (with_reducible repeat (first | apply Kd.R_alloc | apply Kd.R_drewN | apply Kd.R_drew)); exact HO310.out) (Kd.R_base ho0) hb); have n2_ := Aside0.mk (Kd.R_lower (Kd.R_new' ho0 (Kd.R_lt (by (with_reducible repeat (first | apply Kd.R_alloc | apply Kd.R_drewN | apply Kd.R_drew)); exact HO310.out))) (below_size (bel HB))); have n3_ := Aside0.mk (below_step (bel HB) hb); clear HO300; clear HO310; clear HB; have HO300 := n0_; have HO310 := n1_; have HO314 := n2_; have HB := n3_; clear n0_ n1_ n2_ n3_; (try clear hb); (try clear hb2); (try clear hk); (try clear hi); (try clear ho0)))
     (try simp only [Act.put, List.setIfInBounds_toArray, List.set_cons_zero, List.set_cons_succ])
     go_cut [90] (fun v90 wc => ∃ (kq : Nat) (x90_19 : Bool), v90 = .bool x90_19 ∧ Aside0 (tocsinlaw24_RivalSays.j1 kq a2 a3 a4 a5 t303 t304 t305 t306 t307 t308 t311 t312 x90_19 = some r) ∧ Aside0 (kq ≤ kj8) ∧ Aside0 (Kd.R (Kd.int .i64) 3 wc w.heap.size (fun k_ => some k_ ≠ (v313 : Value).ownBlock) v309 t307) ∧ Aside0 (Kd.R (Kd.int .i64) 3 wc w.heap.size (fun k_ => some k_ ≠ (v309 : Value).ownBlock) v313 t311) ∧ Aside0 (Below w.heap.size w wc))
     case first =>
      have H := HC20.out
      clear HC20
      replace H := Option.bind_eq_some_iff.mp H
      obtain ⟨t315, A280, H⟩ := H
      replace H : (if (t315 != (t302 == 0)) = true then (tocsinlaw24_RivalSays.j1 kj8 a2 a3 a4 a5 t303 t304 t305 t306 t307 t308 t311 t312 true) else (if t302 = 0 then ((tocsinref8_Value.f kj8 t298 l1).bind fun t316 => (if t301 = t316 then (tocsinlaw24_RivalSays.j1 kj8 a2 a3 a4 a5 t303 t304 t305 t306 t307 t308 t311 t312 false) else (tocsinlaw24_RivalSays.j1 kj8 a2 a3 a4 a5 t303 t304 t305 t306 t307 t308 t311 t312 true))) else (if t302 = 1 then (tocsinlaw24_RivalSays.j1 kj8 a2 a3 a4 a5 t303 t304 t305 t306 t307 t308 t311 t312 (t301 != 0)) else (tocsinlaw24_RivalSays.j1 kj8 a2 a3 a4 a5 t303 t304 t305 t306 t307 t308 t311 t312 true)))) = some r := H
      have A28 := Aside0.mk A280
      clear A280
      cases t315
      ·by_cases c31 : t302 = 0
       ·subst c31
        rw [if_pos (by decide)] at H
        exact absurd (H.trans (congrArg some hr_)) (says_no _ _ _ _ _ _ _ _ _ _ _ _ _)
       ·have b31 : (t302 == 0) = false := beq_eq_false_iff_ne.mpr c31
        rw [b31, if_neg (by decide), if_neg c31] at H
        by_cases c38 : t302 = 1
        ·subst c38
         rw [if_pos rfl] at H
         clear c31 b31
         by_cases c39 : t301 = 0
         ·subst c39
          have e39 : ((0 : Int) != 0) = false := rfl
          rw [e39] at H
          clear e39
          have H' := Aside0.mk H
          clear H
          go_wp2_with (first | ((with_reducible refine gate_callee (f := 12) rfl ?_); refine goesL_ (some 64) rfl rfl Tryz.func12 (by kernel_rfl) rfl #[.slice Ao24 t298.length co24, .slice A1 l1.length c1] rfl (by (try simp only [List.map_toArray, List.map_cons, List.map_nil]); first | done | rfl | (simp only [List.length_drop, List.length_take]; rfl)) ?_; (with_reducible refine (tocsinref8_GoodTrace.calls kj8 _ _ t298 _ _ l1 false _ (tab_below HTb.out (bel HB)) ?side1 ?side2 ?side3 ?side4 A28.out).mono ?_); (case side1 => repeat (first | exact (Kd.R_reads' HO300.out).2.2 | (with_reducible refine Kd.C_alloc ?_ _) | (with_reducible refine Kd.C_drewN ?_ _) | (with_reducible refine Kd.C_drew ?_))); (case side2 => exact (Kd.R_reads' HO300.out).2.1); (case side3 => repeat (first | exact (Kd.C_below HR1.out HB.out) | (with_reducible refine Kd.C_alloc ?_ _) | (with_reducible refine Kd.C_drewN ?_ _) | (with_reducible refine Kd.C_drew ?_))); (case side4 => exact HC1.out); rintro e w39 ⟨rfl, hb⟩; refine ⟨_, rfl, ?_⟩; have n0_ := Aside0.mk (Kd.R_below (by (with_reducible repeat (first | apply Kd.R_alloc | apply Kd.R_drewN | apply Kd.R_drew)); exact HO300.out) hb); have n1_ := Aside0.mk (Kd.R_below (by (with_reducible repeat (first | apply Kd.R_alloc | apply Kd.R_drewN | apply Kd.R_drew)); exact HO310.out) hb); have n2_ := Aside0.mk (Kd.R_below (by (with_reducible repeat (first | apply Kd.R_alloc | apply Kd.R_drewN | apply Kd.R_drew)); exact HO314.out) hb); have n3_ := Aside0.mk (below_step (bel HB) hb); clear HO300; clear HO310; clear HO314; clear HB; have HO300 := n0_; have HO310 := n1_; have HO314 := n2_; have HB := n3_; clear n0_ n1_ n2_ n3_; (try clear hb); (try clear hb2); (try clear hk); (try clear hi)))
          go_meet
          case rel => exact ⟨_, (false), (by first | rfl | simp [*]), H', ⟨by have := HJ8.out; first | omega | exact Nat.le_refl _⟩, ⟨by (with_reducible repeat (first | apply Kd.R_alloc | apply Kd.R_drewN | apply Kd.R_drew)); exact Kd.R_mono HO310.out (fun _ hk => hk.2)⟩, ⟨by (with_reducible repeat (first | apply Kd.R_alloc | apply Kd.R_drewN | apply Kd.R_drew)); exact Kd.R_mono HO314.out (fun _ hk => hk.2)⟩, ⟨bel HB⟩⟩
         ·rw [bne_iff_ne.mpr c39] at H
          exact absurd (H.trans (congrArg some hr_)) (says_no _ _ _ _ _ _ _ _ _ _ _ _ _)
        ·rw [if_neg c38] at H
         exact absurd (H.trans (congrArg some hr_)) (says_no _ _ _ _ _ _ _ _ _ _ _ _ _)
      ·by_cases c31 : t302 = 0
       ·subst c31
        rw [if_neg (by decide), if_pos rfl] at H
        replace H := Option.bind_eq_some_iff.mp H
        obtain ⟨t316, A320, H⟩ := H
        replace H : (if t301 = t316 then (tocsinlaw24_RivalSays.j1 kj8 a2 a3 a4 a5 t303 t304 t305 t306 t307 t308 t311 t312 false) else (tocsinlaw24_RivalSays.j1 kj8 a2 a3 a4 a5 t303 t304 t305 t306 t307 t308 t311 t312 true)) = some r := H
        have A32 := Aside0.mk A320
        clear A320
        by_cases c33 : t301 = t316
        ·rw [if_pos c33] at H
         have c33b0 : (t301 == t316) = true := beq_iff_eq.mpr c33
         have c33b1 : (t301 != t316) = false := bne_eq_false_iff_eq.mpr c33
         clear c33
         have H' := Aside0.mk H
         clear H
         go_wp2_with (first | ((with_reducible refine gate_callee (f := 12) rfl ?_); refine goesL_ (some 64) rfl rfl Tryz.func12 (by kernel_rfl) rfl #[.slice Ao24 t298.length co24, .slice A1 l1.length c1] rfl (by (try simp only [List.map_toArray, List.map_cons, List.map_nil]); first | done | rfl | (simp only [List.length_drop, List.length_take]; rfl)) ?_; (with_reducible refine (tocsinref8_GoodTrace.calls kj8 _ _ t298 _ _ l1 true _ (tab_below HTb.out (bel HB)) ?side1 ?side2 ?side3 ?side4 A28.out).mono ?_); (case side1 => repeat (first | exact (Kd.R_reads' HO300.out).2.2 | (with_reducible refine Kd.C_alloc ?_ _) | (with_reducible refine Kd.C_drewN ?_ _) | (with_reducible refine Kd.C_drew ?_))); (case side2 => exact (Kd.R_reads' HO300.out).2.1); (case side3 => repeat (first | exact (Kd.C_below HR1.out HB.out) | (with_reducible refine Kd.C_alloc ?_ _) | (with_reducible refine Kd.C_drewN ?_ _) | (with_reducible refine Kd.C_drew ?_))); (case side4 => exact HC1.out); rintro e w34 ⟨rfl, hb⟩; refine ⟨_, rfl, ?_⟩; have n0_ := Aside0.mk (Kd.R_below (by (with_reducible repeat (first | apply Kd.R_alloc | apply Kd.R_drewN | apply Kd.R_drew)); exact HO300.out) hb); have n1_ := Aside0.mk (Kd.R_below (by (with_reducible repeat (first | apply Kd.R_alloc | apply Kd.R_drewN | apply Kd.R_drew)); exact HO310.out) hb); have n2_ := Aside0.mk (Kd.R_below (by (with_reducible repeat (first | apply Kd.R_alloc | apply Kd.R_drewN | apply Kd.R_drew)); exact HO314.out) hb); have n3_ := Aside0.mk (below_step (bel HB) hb); clear HO300; clear HO310; clear HO314; clear HB; have HO300 := n0_; have HO310 := n1_; have HO314 := n2_; have HB := n3_; clear n0_ n1_ n2_ n3_; (try clear hb); (try clear hb2); (try clear hk); (try clear hi)) | (go_at_call 13; (with_reducible refine (tocsinref8_Value.calls kj8 _ _ t298 _ _ l1 t316 _ (tab_below HTb.out (bel HB)) ?side1 ?side2 ?side3 ?side4 A32.out).mono ?_); (case side1 => repeat (first | exact (Kd.R_reads' HO300.out).2.2 | (with_reducible refine Kd.C_alloc ?_ _) | (with_reducible refine Kd.C_drewN ?_ _) | (with_reducible refine Kd.C_drew ?_))); (case side2 => exact (Kd.R_reads' HO300.out).2.1); (case side3 => repeat (first | exact (Kd.C_below HR1.out HB.out) | (with_reducible refine Kd.C_alloc ?_ _) | (with_reducible refine Kd.C_drewN ?_ _) | (with_reducible refine Kd.C_drew ?_))); (case side4 => exact HC1.out); rintro e w35 ⟨rfl, hb⟩; have n0_ := Aside0.mk (Kd.R_below (by (with_reducible repeat (first | apply Kd.R_alloc | apply Kd.R_drewN | apply Kd.R_drew)); exact HO300.out) hb); have n1_ := Aside0.mk (Kd.R_below (by (with_reducible repeat (first | apply Kd.R_alloc | apply Kd.R_drewN | apply Kd.R_drew)); exact HO310.out) hb); have n2_ := Aside0.mk (Kd.R_below (by (with_reducible repeat (first | apply Kd.R_alloc | apply Kd.R_drewN | apply Kd.R_drew)); exact HO314.out) hb); have n3_ := Aside0.mk (below_step (bel HB) hb); clear HO300; clear HO310; clear HO314; clear HB; have HO300 := n0_; have HO310 := n1_; have HO314 := n2_; have HB := n3_; clear n0_ n1_ n2_ n3_; (try clear hb); (try clear hb2); (try clear hk); (try clear hi)))
         go_meet
         case rel => exact ⟨_, (false), (by first | rfl | simp [*]), H', ⟨by have := HJ8.out; first | omega | exact Nat.le_refl _⟩, ⟨by (with_reducible repeat (first | apply Kd.R_alloc | apply Kd.R_drewN | apply Kd.R_drew)); exact Kd.R_mono HO310.out (fun _ hk => hk.2)⟩, ⟨by (with_reducible repeat (first | apply Kd.R_alloc | apply Kd.R_drewN | apply Kd.R_drew)); exact Kd.R_mono HO314.out (fun _ hk => hk.2)⟩, ⟨bel HB⟩⟩
        ·rw [if_neg c33] at H
         exact absurd (H.trans (congrArg some hr_)) (says_no _ _ _ _ _ _ _ _ _ _ _ _ _)
       ·have b31 : (t302 == 0) = false := beq_eq_false_iff_ne.mpr c31
        rw [b31, if_pos (by decide)] at H
        exact absurd (H.trans (congrArg some hr_)) (says_no _ _ _ _ _ _ _ _ _ _ _ _ _)
     case rest =>
      clear HC20
      try clear c1
      try clear c2
      try clear p2
      try clear c3
      try clear c4
      try clear c5
      try clear c6
      try clear c7
      try clear c8
      try clear c9
      try clear c10
      try clear c11
      try clear c12
      try clear c13
      try clear c29
      try clear c29b0
      try clear c29b1
      try clear c29b2
      try clear c31
      try clear c31b0
      try clear c31b1
      try clear c33
      try clear c33b0
      try clear c33b1
      try clear c38
      try clear c38b0
      try clear c38b1
      try clear p2
      obtain ⟨kq, x90_19, rfl, HA, HJ19, HO_20, HO_22, HB⟩ := hcut
      cases kq with
      |zero => exact absurd HA.out (by simp [tocsinlaw24_RivalSays.j1])
      |succ kj19 =>
       have H := HA.out
       clear HA
       simp only [tocsinlaw24_RivalSays.j1] at H
       by_cases c41 : x90_19 = true
       ·subst c41
        have H1 : (some false) = some r := by rw [if_pos rfl] at H; exact H
        clear H
        have H := H1
        clear H1
        obtain rfl := Option.some.inj H
        exact absurd hr_ (by decide)
       ·replace c41 := Bool.eq_false_iff.mpr c41
        subst c41
        have H1 : (if a4 ≥ 0 then (if a5 ≥ 0 then (if a4 ≤ 1000000000 then (if a5 ≤ 1000000000 then ((tocsinref1_Good.f 0 0 a2 a3).bind fun t317 => (if t303 = t305 then (if t304 = t306 then ((tocsinlaw24_ints.f kj19 t307 t311).bind fun t318 => (if t318 = true then (if t308 = t312 then ((rival_Beats.f a2 a3 a4 a5).bind fun t319 => (if t317 = true then ((tocsinref1_Bound.f kj19 a5 a4 a2 a3).bind fun t320 => (some (t319 == (!t320)))) else (some (t319 == false)))) else (some false)) else (some false))) else (some false)) else (some false))) else (if t303 = t305 then (if t304 = t306 then ((tocsinlaw24_ints.f kj19 t307 t311).bind fun t321 => (if t321 = true then (if t308 = t312 then ((rival_Beats.f a2 a3 a4 a5).bind fun t322 => (some (t322 == false))) else (some false)) else (some false))) else (some false)) else (some false))) else (if t303 = t305 then (if t304 = t306 then ((tocsinlaw24_ints.f kj19 t307 t311).bind fun t323 => (if t323 = true then (if t308 = t312 then ((rival_Beats.f a2 a3 a4 a5).bind fun t324 => (some (t324 == false))) else (some false)) else (some false))) else (some false)) else (some false))) else (if t303 = t305 then (if t304 = t306 then ((tocsinlaw24_ints.f kj19 t307 t311).bind fun t325 => (if t325 = true then (if t308 = t312 then ((rival_Beats.f a2 a3 a4 a5).bind fun t326 => (some (t326 == false))) else (some false)) else (some false))) else (some false)) else (some false))) else (if t303 = t305 then (if t304 = t306 then ((tocsinlaw24_ints.f kj19 t307 t311).bind fun t327 => (if t327 = true then (if t308 = t312 then ((rival_Beats.f a2 a3 a4 a5).bind fun t328 => (some (t328 == false))) else (some false)) else (some false))) else (some false)) else (some false))) = some r := by rw [if_neg (show ¬ (false = true) by decide)] at H; exact H
        clear H
        have H := H1
        clear H1
        by_cases c42 : a4 ≥ 0
        ·rw [if_pos c42] at H
         have c42b0 : decide (0 ≤ a4) = true := decide_eq_true c42
         clear c42
         by_cases c43 : a5 ≥ 0
         ·rw [if_pos c43] at H
          have c43b0 : decide (0 ≤ a5) = true := decide_eq_true c43
          clear c43
          by_cases c44 : a4 ≤ 1000000000
          ·rw [if_pos c44] at H
           have c44b0 : decide (a4 ≤ 1000000000) = true := decide_eq_true c44
           clear c44
           by_cases c45 : a5 ≤ 1000000000
           ·rw [if_pos c45] at H
            have c45b0 : decide (a5 ≤ 1000000000) = true := decide_eq_true c45
            clear c45
            replace H := Option.bind_eq_some_iff.mp H
            obtain ⟨t317, A460, H⟩ := H
            replace H : (if t303 = t305 then (if t304 = t306 then ((tocsinlaw24_ints.f kj19 t307 t311).bind fun t318 => (if t318 = true then (if t308 = t312 then ((rival_Beats.f a2 a3 a4 a5).bind fun t319 => (if t317 = true then ((tocsinref1_Bound.f kj19 a5 a4 a2 a3).bind fun t320 => (some (t319 == (!t320)))) else (some (t319 == false)))) else (some false)) else (some false))) else (some false)) else (some false)) = some r := H
            have A46 := Aside0.mk A460
            clear A460
            by_cases c47 : t303 = t305
            ·rw [if_pos c47] at H
             have c47b0 : (t303 == t305) = true := beq_iff_eq.mpr c47
             have c47b1 : (t303 != t305) = false := bne_eq_false_iff_eq.mpr c47
             clear c47
             by_cases c48 : t304 = t306
             ·rw [if_pos c48] at H
              have c48b0 : (t304 == t306) = true := beq_iff_eq.mpr c48
              have c48b1 : (t304 != t306) = false := bne_eq_false_iff_eq.mpr c48
              clear c48
              replace H := Option.bind_eq_some_iff.mp H
              obtain ⟨t318, A490, H⟩ := H
              replace H : (if t318 = true then (if t308 = t312 then ((rival_Beats.f a2 a3 a4 a5).bind fun t319 => (if t317 = true then ((tocsinref1_Bound.f kj19 a5 a4 a2 a3).bind fun t320 => (some (t319 == (!t320)))) else (some (t319 == false)))) else (some false)) else (some false)) = some r := H
              have A49 := Aside0.mk A490
              clear A490
              by_cases c50 : t318 = true
              ·subst c50
               have H1 : (if t308 = t312 then ((rival_Beats.f a2 a3 a4 a5).bind fun t319 => (if t317 = true then ((tocsinref1_Bound.f kj19 a5 a4 a2 a3).bind fun t320 => (some (t319 == (!t320)))) else (some (t319 == false)))) else (some false)) = some r := by rw [if_pos rfl] at H; exact H
               clear H
               have H := H1
               clear H1
               by_cases c51 : t308 = t312
               ·rw [if_pos c51] at H
                have c51b0 : (t308 == t312) = true := beq_iff_eq.mpr c51
                have c51b1 : (t308 != t312) = false := bne_eq_false_iff_eq.mpr c51
                clear c51
                replace H := Option.bind_eq_some_iff.mp H
                obtain ⟨t319, A520, H⟩ := H
                replace H : (if t317 = true then ((tocsinref1_Bound.f kj19 a5 a4 a2 a3).bind fun t320 => (some (t319 == (!t320)))) else (some (t319 == false))) = some r := H
                have A52 := Aside0.mk A520
                clear A520
                by_cases c53 : t317 = true
                ·subst c53
                 have H1 : ((tocsinref1_Bound.f kj19 a5 a4 a2 a3).bind fun t320 => (some (t319 == (!t320)))) = some r := by rw [if_pos rfl] at H; exact H
                 clear H
                 have H := H1
                 clear H1
                 replace H := Option.bind_eq_some_iff.mp H
                 obtain ⟨t320, A540, H⟩ := H
                 replace H : (some (t319 == (!t320))) = some r := H
                 have A54 := Aside0.mk A540
                 clear A540
                 obtain rfl := Option.some.inj H
                 first
                 |exact absurd hr_ (by decide)
                 |go_wp2_with (first | (go_at_call 14; (with_reducible refine (tocsinref1_Good.calls 0 0 a2 a3 true _ A46.out).mono ?_); rintro e w55 ⟨rfl, hb⟩; have n0_ := Aside0.mk (Kd.R_below (by (with_reducible repeat (first | apply Kd.R_alloc | apply Kd.R_drewN | apply Kd.R_drew)); exact HO_20.out) hb); have n1_ := Aside0.mk (Kd.R_below (by (with_reducible repeat (first | apply Kd.R_alloc | apply Kd.R_drewN | apply Kd.R_drew)); exact HO_22.out) hb); have n2_ := Aside0.mk (below_step (bel HB) hb); clear HO_20; clear HO_22; clear HB; have HO_20 := n0_; have HO_22 := n1_; have HB := n2_; clear n0_ n1_ n2_; (try clear hb); (try clear hb2); (try clear hk); (try clear hi); obtain ⟨Ao56, co56, eo56⟩ := Kd.R_slice HO_20.out; subst eo56; obtain ⟨Ao57, co57, eo57⟩ := Kd.R_slice HO_22.out; subst eo57) | (go_at_call 15; (with_reducible refine (tocsinlaw24_ints.calls kj19 _ _ t307 _ _ t311 true _ ?side1 ?side2 ?side3 ?side4 A49.out).mono ?_); (case side1 => repeat (first | exact (Kd.R_reads' HO_20.out).2.2 | (with_reducible refine Kd.C_alloc ?_ _) | (with_reducible refine Kd.C_drewN ?_ _) | (with_reducible refine Kd.C_drew ?_))); (case side2 => exact (Kd.R_reads' HO_20.out).2.1); (case side3 => repeat (first | exact (Kd.R_reads' HO_22.out).2.2 | (with_reducible refine Kd.C_alloc ?_ _) | (with_reducible refine Kd.C_drewN ?_ _) | (with_reducible refine Kd.C_drew ?_))); (case side4 => exact (Kd.R_reads' HO_22.out).2.1); rintro e w' ⟨rfl, ⟨nd, rfl⟩⟩) | (go_at_call 16; (with_reducible refine (rival_Beats.calls a2 a3 a4 a5 t319 _ A52.out).mono ?_); rintro e w58 ⟨rfl, hb⟩; have n0_ := Aside0.mk (Kd.R_below (by (with_reducible repeat (first | apply Kd.R_alloc | apply Kd.R_drewN | apply Kd.R_drew)); exact HO_20.out) hb); have n1_ := Aside0.mk (Kd.R_below (by (with_reducible repeat (first | apply Kd.R_alloc | apply Kd.R_drewN | apply Kd.R_drew)); exact HO_22.out) hb); have n2_ := Aside0.mk (below_step (bel HB) hb); clear HO_20; clear HO_22; clear HB; have HO_20 := n0_; have HO_22 := n1_; have HB := n2_; clear n0_ n1_ n2_; (try clear hb); (try clear hb2); (try clear hk); (try clear hi)) | (go_at_call 17; (with_reducible refine (tocsinref1_Bound.calls kj19 a5 a4 a2 a3 t320 _ A54.out).mono ?_); rintro e w59 ⟨rfl, hb⟩; have n0_ := Aside0.mk (Kd.R_below (by (with_reducible repeat (first | apply Kd.R_alloc | apply Kd.R_drewN | apply Kd.R_drew)); exact HO_20.out) hb); have n1_ := Aside0.mk (Kd.R_below (by (with_reducible repeat (first | apply Kd.R_alloc | apply Kd.R_drewN | apply Kd.R_drew)); exact HO_22.out) hb); have n2_ := Aside0.mk (below_step (bel HB) hb); clear HO_20; clear HO_22; clear HB; have HO_20 := n0_; have HO_22 := n1_; have HB := n2_; clear n0_ n1_ n2_; (try clear hb); (try clear hb2); (try clear hk); (try clear hi)))
                  go_ret
                  exact ⟨by first | rfl | (simp [*] <;> rfl), bel HB⟩
                ·replace c53 := Bool.eq_false_iff.mpr c53
                 subst c53
                 have H1 : (some (t319 == false)) = some r := by rw [if_neg (show ¬ (false = true) by decide)] at H; exact H
                 clear H
                 have H := H1
                 clear H1
                 obtain rfl := Option.some.inj H
                 first
                 |exact absurd hr_ (by decide)
                 |go_wp2_with (first | (go_at_call 14; (with_reducible refine (tocsinref1_Good.calls 0 0 a2 a3 false _ A46.out).mono ?_); rintro e w60 ⟨rfl, hb⟩; have n0_ := Aside0.mk (Kd.R_below (by (with_reducible repeat (first | apply Kd.R_alloc | apply Kd.R_drewN | apply Kd.R_drew)); exact HO_20.out) hb); have n1_ := Aside0.mk (Kd.R_below (by (with_reducible repeat (first | apply Kd.R_alloc | apply Kd.R_drewN | apply Kd.R_drew)); exact HO_22.out) hb); have n2_ := Aside0.mk (below_step (bel HB) hb); clear HO_20; clear HO_22; clear HB; have HO_20 := n0_; have HO_22 := n1_; have HB := n2_; clear n0_ n1_ n2_; (try clear hb); (try clear hb2); (try clear hk); (try clear hi); obtain ⟨Ao61, co61, eo61⟩ := Kd.R_slice HO_20.out; subst eo61; obtain ⟨Ao62, co62, eo62⟩ := Kd.R_slice HO_22.out; subst eo62) | (go_at_call 15; (with_reducible refine (tocsinlaw24_ints.calls kj19 _ _ t307 _ _ t311 true _ ?side1 ?side2 ?side3 ?side4 A49.out).mono ?_); (case side1 => repeat (first | exact (Kd.R_reads' HO_20.out).2.2 | (with_reducible refine Kd.C_alloc ?_ _) | (with_reducible refine Kd.C_drewN ?_ _) | (with_reducible refine Kd.C_drew ?_))); (case side2 => exact (Kd.R_reads' HO_20.out).2.1); (case side3 => repeat (first | exact (Kd.R_reads' HO_22.out).2.2 | (with_reducible refine Kd.C_alloc ?_ _) | (with_reducible refine Kd.C_drewN ?_ _) | (with_reducible refine Kd.C_drew ?_))); (case side4 => exact (Kd.R_reads' HO_22.out).2.1); rintro e w' ⟨rfl, ⟨nd, rfl⟩⟩) | (go_at_call 16; (with_reducible refine (rival_Beats.calls a2 a3 a4 a5 t319 _ A52.out).mono ?_); rintro e w63 ⟨rfl, hb⟩; have n0_ := Aside0.mk (Kd.R_below (by (with_reducible repeat (first | apply Kd.R_alloc | apply Kd.R_drewN | apply Kd.R_drew)); exact HO_20.out) hb); have n1_ := Aside0.mk (Kd.R_below (by (with_reducible repeat (first | apply Kd.R_alloc | apply Kd.R_drewN | apply Kd.R_drew)); exact HO_22.out) hb); have n2_ := Aside0.mk (below_step (bel HB) hb); clear HO_20; clear HO_22; clear HB; have HO_20 := n0_; have HO_22 := n1_; have HB := n2_; clear n0_ n1_ n2_; (try clear hb); (try clear hb2); (try clear hk); (try clear hi)))
                  go_ret
                  exact ⟨by first | rfl | (simp [*] <;> rfl), bel HB⟩
               ·rw [if_neg c51] at H
                have c51b0 : (t308 == t312) = false := beq_eq_false_iff_ne.mpr c51
                have c51b1 : (t308 != t312) = true := bne_iff_ne.mpr c51
                obtain rfl := Option.some.inj H
                exact absurd hr_ (by decide)
              ·replace c50 := Bool.eq_false_iff.mpr c50
               subst c50
               have H1 : (some false) = some r := by rw [if_neg (show ¬ (false = true) by decide)] at H; exact H
               clear H
               have H := H1
               clear H1
               obtain rfl := Option.some.inj H
               exact absurd hr_ (by decide)
             ·rw [if_neg c48] at H
              have c48b0 : (t304 == t306) = false := beq_eq_false_iff_ne.mpr c48
              have c48b1 : (t304 != t306) = true := bne_iff_ne.mpr c48
              obtain rfl := Option.some.inj H
              exact absurd hr_ (by decide)
            ·rw [if_neg c47] at H
             have c47b0 : (t303 == t305) = false := beq_eq_false_iff_ne.mpr c47
             have c47b1 : (t303 != t305) = true := bne_iff_ne.mpr c47
             obtain rfl := Option.some.inj H
             exact absurd hr_ (by decide)
           ·rw [if_neg c45] at H
            have c45b0 : decide (a5 ≤ 1000000000) = false := decide_eq_false c45
            clear c45
            by_cases c72 : t303 = t305
            ·rw [if_pos c72] at H
             have c72b0 : (t303 == t305) = true := beq_iff_eq.mpr c72
             have c72b1 : (t303 != t305) = false := bne_eq_false_iff_eq.mpr c72
             clear c72
             by_cases c73 : t304 = t306
             ·rw [if_pos c73] at H
              have c73b0 : (t304 == t306) = true := beq_iff_eq.mpr c73
              have c73b1 : (t304 != t306) = false := bne_eq_false_iff_eq.mpr c73
              clear c73
              replace H := Option.bind_eq_some_iff.mp H
              obtain ⟨t321, A740, H⟩ := H
              replace H : (if t321 = true then (if t308 = t312 then ((rival_Beats.f a2 a3 a4 a5).bind fun t322 => (some (t322 == false))) else (some false)) else (some false)) = some r := H
              have A74 := Aside0.mk A740
              clear A740
              by_cases c75 : t321 = true
              ·subst c75
               have H1 : (if t308 = t312 then ((rival_Beats.f a2 a3 a4 a5).bind fun t322 => (some (t322 == false))) else (some false)) = some r := by rw [if_pos rfl] at H; exact H
               clear H
               have H := H1
               clear H1
               by_cases c76 : t308 = t312
               ·rw [if_pos c76] at H
                have c76b0 : (t308 == t312) = true := beq_iff_eq.mpr c76
                have c76b1 : (t308 != t312) = false := bne_eq_false_iff_eq.mpr c76
                clear c76
                replace H := Option.bind_eq_some_iff.mp H
                obtain ⟨t322, A770, H⟩ := H
                replace H : (some (t322 == false)) = some r := H
                have A77 := Aside0.mk A770
                clear A770
                obtain rfl := Option.some.inj H
                first
                |exact absurd hr_ (by decide)
                |obtain ⟨Ao78, co78, eo78⟩ := Kd.R_slice HO_20.out
                 subst eo78
                 obtain ⟨Ao79, co79, eo79⟩ := Kd.R_slice HO_22.out
                 subst eo79
                 go_wp2_with (first | (go_at_call 15; (with_reducible refine (tocsinlaw24_ints.calls kj19 _ _ t307 _ _ t311 true _ ?side1 ?side2 ?side3 ?side4 A74.out).mono ?_); (case side1 => repeat (first | exact (Kd.R_reads' HO_20.out).2.2 | (with_reducible refine Kd.C_alloc ?_ _) | (with_reducible refine Kd.C_drewN ?_ _) | (with_reducible refine Kd.C_drew ?_))); (case side2 => exact (Kd.R_reads' HO_20.out).2.1); (case side3 => repeat (first | exact (Kd.R_reads' HO_22.out).2.2 | (with_reducible refine Kd.C_alloc ?_ _) | (with_reducible refine Kd.C_drewN ?_ _) | (with_reducible refine Kd.C_drew ?_))); (case side4 => exact (Kd.R_reads' HO_22.out).2.1); rintro e w' ⟨rfl, ⟨nd, rfl⟩⟩) | (go_at_call 16; (with_reducible refine (rival_Beats.calls a2 a3 a4 a5 t322 _ A77.out).mono ?_); rintro e w80 ⟨rfl, hb⟩; have n0_ := Aside0.mk (Kd.R_below (by (with_reducible repeat (first | apply Kd.R_alloc | apply Kd.R_drewN | apply Kd.R_drew)); exact HO_20.out) hb); have n1_ := Aside0.mk (Kd.R_below (by (with_reducible repeat (first | apply Kd.R_alloc | apply Kd.R_drewN | apply Kd.R_drew)); exact HO_22.out) hb); have n2_ := Aside0.mk (below_step (bel HB) hb); clear HO_20; clear HO_22; clear HB; have HO_20 := n0_; have HO_22 := n1_; have HB := n2_; clear n0_ n1_ n2_; (try clear hb); (try clear hb2); (try clear hk); (try clear hi)))
                 go_ret
                 exact ⟨by first | rfl | (simp [*] <;> rfl), bel HB⟩
               ·rw [if_neg c76] at H
                have c76b0 : (t308 == t312) = false := beq_eq_false_iff_ne.mpr c76
                have c76b1 : (t308 != t312) = true := bne_iff_ne.mpr c76
                obtain rfl := Option.some.inj H
                exact absurd hr_ (by decide)
              ·replace c75 := Bool.eq_false_iff.mpr c75
               subst c75
               have H1 : (some false) = some r := by rw [if_neg (show ¬ (false = true) by decide)] at H; exact H
               clear H
               have H := H1
               clear H1
               obtain rfl := Option.some.inj H
               exact absurd hr_ (by decide)
             ·rw [if_neg c73] at H
              have c73b0 : (t304 == t306) = false := beq_eq_false_iff_ne.mpr c73
              have c73b1 : (t304 != t306) = true := bne_iff_ne.mpr c73
              obtain rfl := Option.some.inj H
              exact absurd hr_ (by decide)
            ·rw [if_neg c72] at H
             have c72b0 : (t303 == t305) = false := beq_eq_false_iff_ne.mpr c72
             have c72b1 : (t303 != t305) = true := bne_iff_ne.mpr c72
             obtain rfl := Option.some.inj H
             exact absurd hr_ (by decide)
          ·rw [if_neg c44] at H
           have c44b0 : decide (a4 ≤ 1000000000) = false := decide_eq_false c44
           clear c44
           by_cases c85 : t303 = t305
           ·rw [if_pos c85] at H
            have c85b0 : (t303 == t305) = true := beq_iff_eq.mpr c85
            have c85b1 : (t303 != t305) = false := bne_eq_false_iff_eq.mpr c85
            clear c85
            by_cases c86 : t304 = t306
            ·rw [if_pos c86] at H
             have c86b0 : (t304 == t306) = true := beq_iff_eq.mpr c86
             have c86b1 : (t304 != t306) = false := bne_eq_false_iff_eq.mpr c86
             clear c86
             replace H := Option.bind_eq_some_iff.mp H
             obtain ⟨t323, A870, H⟩ := H
             replace H : (if t323 = true then (if t308 = t312 then ((rival_Beats.f a2 a3 a4 a5).bind fun t324 => (some (t324 == false))) else (some false)) else (some false)) = some r := H
             have A87 := Aside0.mk A870
             clear A870
             by_cases c88 : t323 = true
             ·subst c88
              have H1 : (if t308 = t312 then ((rival_Beats.f a2 a3 a4 a5).bind fun t324 => (some (t324 == false))) else (some false)) = some r := by rw [if_pos rfl] at H; exact H
              clear H
              have H := H1
              clear H1
              by_cases c89 : t308 = t312
              ·rw [if_pos c89] at H
               have c89b0 : (t308 == t312) = true := beq_iff_eq.mpr c89
               have c89b1 : (t308 != t312) = false := bne_eq_false_iff_eq.mpr c89
               clear c89
               replace H := Option.bind_eq_some_iff.mp H
               obtain ⟨t324, A900, H⟩ := H
               replace H : (some (t324 == false)) = some r := H
               have A90 := Aside0.mk A900
               clear A900
               obtain rfl := Option.some.inj H
               first
               |exact absurd hr_ (by decide)
               |obtain ⟨Ao91, co91, eo91⟩ := Kd.R_slice HO_20.out
                subst eo91
                obtain ⟨Ao92, co92, eo92⟩ := Kd.R_slice HO_22.out
                subst eo92
                go_wp2_with (first | (go_at_call 15; (with_reducible refine (tocsinlaw24_ints.calls kj19 _ _ t307 _ _ t311 true _ ?side1 ?side2 ?side3 ?side4 A87.out).mono ?_); (case side1 => repeat (first | exact (Kd.R_reads' HO_20.out).2.2 | (with_reducible refine Kd.C_alloc ?_ _) | (with_reducible refine Kd.C_drewN ?_ _) | (with_reducible refine Kd.C_drew ?_))); (case side2 => exact (Kd.R_reads' HO_20.out).2.1); (case side3 => repeat (first | exact (Kd.R_reads' HO_22.out).2.2 | (with_reducible refine Kd.C_alloc ?_ _) | (with_reducible refine Kd.C_drewN ?_ _) | (with_reducible refine Kd.C_drew ?_))); (case side4 => exact (Kd.R_reads' HO_22.out).2.1); rintro e w' ⟨rfl, ⟨nd, rfl⟩⟩) | (go_at_call 16; (with_reducible refine (rival_Beats.calls a2 a3 a4 a5 t324 _ A90.out).mono ?_); rintro e w93 ⟨rfl, hb⟩; have n0_ := Aside0.mk (Kd.R_below (by (with_reducible repeat (first | apply Kd.R_alloc | apply Kd.R_drewN | apply Kd.R_drew)); exact HO_20.out) hb); have n1_ := Aside0.mk (Kd.R_below (by (with_reducible repeat (first | apply Kd.R_alloc | apply Kd.R_drewN | apply Kd.R_drew)); exact HO_22.out) hb); have n2_ := Aside0.mk (below_step (bel HB) hb); clear HO_20; clear HO_22; clear HB; have HO_20 := n0_; have HO_22 := n1_; have HB := n2_; clear n0_ n1_ n2_; (try clear hb); (try clear hb2); (try clear hk); (try clear hi)))
                go_ret
                exact ⟨by first | rfl | (simp [*] <;> rfl), bel HB⟩
              ·rw [if_neg c89] at H
               have c89b0 : (t308 == t312) = false := beq_eq_false_iff_ne.mpr c89
               have c89b1 : (t308 != t312) = true := bne_iff_ne.mpr c89
               obtain rfl := Option.some.inj H
               exact absurd hr_ (by decide)
             ·replace c88 := Bool.eq_false_iff.mpr c88
              subst c88
              have H1 : (some false) = some r := by rw [if_neg (show ¬ (false = true) by decide)] at H; exact H
              clear H
              have H := H1
              clear H1
              obtain rfl := Option.some.inj H
              exact absurd hr_ (by decide)
            ·rw [if_neg c86] at H
             have c86b0 : (t304 == t306) = false := beq_eq_false_iff_ne.mpr c86
             have c86b1 : (t304 != t306) = true := bne_iff_ne.mpr c86
             obtain rfl := Option.some.inj H
             exact absurd hr_ (by decide)
           ·rw [if_neg c85] at H
            have c85b0 : (t303 == t305) = false := beq_eq_false_iff_ne.mpr c85
            have c85b1 : (t303 != t305) = true := bne_iff_ne.mpr c85
            obtain rfl := Option.some.inj H
            exact absurd hr_ (by decide)
         ·rw [if_neg c43] at H
          have c43b0 : decide (0 ≤ a5) = false := decide_eq_false c43
          clear c43
          by_cases c98 : t303 = t305
          ·rw [if_pos c98] at H
           have c98b0 : (t303 == t305) = true := beq_iff_eq.mpr c98
           have c98b1 : (t303 != t305) = false := bne_eq_false_iff_eq.mpr c98
           clear c98
           by_cases c99 : t304 = t306
           ·rw [if_pos c99] at H
            have c99b0 : (t304 == t306) = true := beq_iff_eq.mpr c99
            have c99b1 : (t304 != t306) = false := bne_eq_false_iff_eq.mpr c99
            clear c99
            replace H := Option.bind_eq_some_iff.mp H
            obtain ⟨t325, A1000, H⟩ := H
            replace H : (if t325 = true then (if t308 = t312 then ((rival_Beats.f a2 a3 a4 a5).bind fun t326 => (some (t326 == false))) else (some false)) else (some false)) = some r := H
            have A100 := Aside0.mk A1000
            clear A1000
            by_cases c101 : t325 = true
            ·subst c101
             have H1 : (if t308 = t312 then ((rival_Beats.f a2 a3 a4 a5).bind fun t326 => (some (t326 == false))) else (some false)) = some r := by rw [if_pos rfl] at H; exact H
             clear H
             have H := H1
             clear H1
             by_cases c102 : t308 = t312
             ·rw [if_pos c102] at H
              have c102b0 : (t308 == t312) = true := beq_iff_eq.mpr c102
              have c102b1 : (t308 != t312) = false := bne_eq_false_iff_eq.mpr c102
              clear c102
              replace H := Option.bind_eq_some_iff.mp H
              obtain ⟨t326, A1030, H⟩ := H
              replace H : (some (t326 == false)) = some r := H
              have A103 := Aside0.mk A1030
              clear A1030
              obtain rfl := Option.some.inj H
              first
              |exact absurd hr_ (by decide)
              |obtain ⟨Ao104, co104, eo104⟩ := Kd.R_slice HO_20.out
               subst eo104
               obtain ⟨Ao105, co105, eo105⟩ := Kd.R_slice HO_22.out
               subst eo105
               go_wp2_with (first | (go_at_call 15; (with_reducible refine (tocsinlaw24_ints.calls kj19 _ _ t307 _ _ t311 true _ ?side1 ?side2 ?side3 ?side4 A100.out).mono ?_); (case side1 => repeat (first | exact (Kd.R_reads' HO_20.out).2.2 | (with_reducible refine Kd.C_alloc ?_ _) | (with_reducible refine Kd.C_drewN ?_ _) | (with_reducible refine Kd.C_drew ?_))); (case side2 => exact (Kd.R_reads' HO_20.out).2.1); (case side3 => repeat (first | exact (Kd.R_reads' HO_22.out).2.2 | (with_reducible refine Kd.C_alloc ?_ _) | (with_reducible refine Kd.C_drewN ?_ _) | (with_reducible refine Kd.C_drew ?_))); (case side4 => exact (Kd.R_reads' HO_22.out).2.1); rintro e w' ⟨rfl, ⟨nd, rfl⟩⟩) | (go_at_call 16; (with_reducible refine (rival_Beats.calls a2 a3 a4 a5 t326 _ A103.out).mono ?_); rintro e w106 ⟨rfl, hb⟩; have n0_ := Aside0.mk (Kd.R_below (by (with_reducible repeat (first | apply Kd.R_alloc | apply Kd.R_drewN | apply Kd.R_drew)); exact HO_20.out) hb); have n1_ := Aside0.mk (Kd.R_below (by (with_reducible repeat (first | apply Kd.R_alloc | apply Kd.R_drewN | apply Kd.R_drew)); exact HO_22.out) hb); have n2_ := Aside0.mk (below_step (bel HB) hb); clear HO_20; clear HO_22; clear HB; have HO_20 := n0_; have HO_22 := n1_; have HB := n2_; clear n0_ n1_ n2_; (try clear hb); (try clear hb2); (try clear hk); (try clear hi)))
               go_ret
               exact ⟨by first | rfl | (simp [*] <;> rfl), bel HB⟩
             ·rw [if_neg c102] at H
              have c102b0 : (t308 == t312) = false := beq_eq_false_iff_ne.mpr c102
              have c102b1 : (t308 != t312) = true := bne_iff_ne.mpr c102
              obtain rfl := Option.some.inj H
              exact absurd hr_ (by decide)
            ·replace c101 := Bool.eq_false_iff.mpr c101
             subst c101
             have H1 : (some false) = some r := by rw [if_neg (show ¬ (false = true) by decide)] at H; exact H
             clear H
             have H := H1
             clear H1
             obtain rfl := Option.some.inj H
             exact absurd hr_ (by decide)
           ·rw [if_neg c99] at H
            have c99b0 : (t304 == t306) = false := beq_eq_false_iff_ne.mpr c99
            have c99b1 : (t304 != t306) = true := bne_iff_ne.mpr c99
            obtain rfl := Option.some.inj H
            exact absurd hr_ (by decide)
          ·rw [if_neg c98] at H
           have c98b0 : (t303 == t305) = false := beq_eq_false_iff_ne.mpr c98
           have c98b1 : (t303 != t305) = true := bne_iff_ne.mpr c98
           obtain rfl := Option.some.inj H
           exact absurd hr_ (by decide)
        ·rw [if_neg c42] at H
         have c42b0 : decide (0 ≤ a4) = false := decide_eq_false c42
         clear c42
         by_cases c111 : t303 = t305
         ·rw [if_pos c111] at H
          have c111b0 : (t303 == t305) = true := beq_iff_eq.mpr c111
          have c111b1 : (t303 != t305) = false := bne_eq_false_iff_eq.mpr c111
          clear c111
          by_cases c112 : t304 = t306
          ·rw [if_pos c112] at H
           have c112b0 : (t304 == t306) = true := beq_iff_eq.mpr c112
           have c112b1 : (t304 != t306) = false := bne_eq_false_iff_eq.mpr c112
           clear c112
           replace H := Option.bind_eq_some_iff.mp H
           obtain ⟨t327, A1130, H⟩ := H
           replace H : (if t327 = true then (if t308 = t312 then ((rival_Beats.f a2 a3 a4 a5).bind fun t328 => (some (t328 == false))) else (some false)) else (some false)) = some r := H
           have A113 := Aside0.mk A1130
           clear A1130
           by_cases c114 : t327 = true
           ·subst c114
            have H1 : (if t308 = t312 then ((rival_Beats.f a2 a3 a4 a5).bind fun t328 => (some (t328 == false))) else (some false)) = some r := by rw [if_pos rfl] at H; exact H
            clear H
            have H := H1
            clear H1
            by_cases c115 : t308 = t312
            ·rw [if_pos c115] at H
             have c115b0 : (t308 == t312) = true := beq_iff_eq.mpr c115
             have c115b1 : (t308 != t312) = false := bne_eq_false_iff_eq.mpr c115
             clear c115
             replace H := Option.bind_eq_some_iff.mp H
             obtain ⟨t328, A1160, H⟩ := H
             replace H : (some (t328 == false)) = some r := H
             have A116 := Aside0.mk A1160
             clear A1160
             obtain rfl := Option.some.inj H
             first
             |exact absurd hr_ (by decide)
             |obtain ⟨Ao117, co117, eo117⟩ := Kd.R_slice HO_20.out
              subst eo117
              obtain ⟨Ao118, co118, eo118⟩ := Kd.R_slice HO_22.out
              subst eo118
              go_wp2_with (first | (go_at_call 15; (with_reducible refine (tocsinlaw24_ints.calls kj19 _ _ t307 _ _ t311 true _ ?side1 ?side2 ?side3 ?side4 A113.out).mono ?_); (case side1 => repeat (first | exact (Kd.R_reads' HO_20.out).2.2 | (with_reducible refine Kd.C_alloc ?_ _) | (with_reducible refine Kd.C_drewN ?_ _) | (with_reducible refine Kd.C_drew ?_))); (case side2 => exact (Kd.R_reads' HO_20.out).2.1); (case side3 => repeat (first | exact (Kd.R_reads' HO_22.out).2.2 | (with_reducible refine Kd.C_alloc ?_ _) | (with_reducible refine Kd.C_drewN ?_ _) | (with_reducible refine Kd.C_drew ?_))); (case side4 => exact (Kd.R_reads' HO_22.out).2.1); rintro e w' ⟨rfl, ⟨nd, rfl⟩⟩) | (go_at_call 16; (with_reducible refine (rival_Beats.calls a2 a3 a4 a5 t328 _ A116.out).mono ?_); rintro e w119 ⟨rfl, hb⟩; have n0_ := Aside0.mk (Kd.R_below (by (with_reducible repeat (first | apply Kd.R_alloc | apply Kd.R_drewN | apply Kd.R_drew)); exact HO_20.out) hb); have n1_ := Aside0.mk (Kd.R_below (by (with_reducible repeat (first | apply Kd.R_alloc | apply Kd.R_drewN | apply Kd.R_drew)); exact HO_22.out) hb); have n2_ := Aside0.mk (below_step (bel HB) hb); clear HO_20; clear HO_22; clear HB; have HO_20 := n0_; have HO_22 := n1_; have HB := n2_; clear n0_ n1_ n2_; (try clear hb); (try clear hb2); (try clear hk); (try clear hi)))
              go_ret
              exact ⟨by first | rfl | (simp [*] <;> rfl), bel HB⟩
            ·rw [if_neg c115] at H
             have c115b0 : (t308 == t312) = false := beq_eq_false_iff_ne.mpr c115
             have c115b1 : (t308 != t312) = true := bne_iff_ne.mpr c115
             obtain rfl := Option.some.inj H
             exact absurd hr_ (by decide)
           ·replace c114 := Bool.eq_false_iff.mpr c114
            subst c114
            have H1 : (some false) = some r := by rw [if_neg (show ¬ (false = true) by decide)] at H; exact H
            clear H
            have H := H1
            clear H1
            obtain rfl := Option.some.inj H
            exact absurd hr_ (by decide)
          ·rw [if_neg c112] at H
           have c112b0 : (t304 == t306) = false := beq_eq_false_iff_ne.mpr c112
           have c112b1 : (t304 != t306) = true := bne_iff_ne.mpr c112
           obtain rfl := Option.some.inj H
           exact absurd hr_ (by decide)
         ·rw [if_neg c111] at H
          have c111b0 : (t303 == t305) = false := beq_eq_false_iff_ne.mpr c111
          have c111b1 : (t303 != t305) = true := bne_iff_ne.mpr c111
          obtain rfl := Option.some.inj H
          exact absurd hr_ (by decide)
 ·replace c8 := Bool.eq_false_iff.mpr c8
  subst c8
  have H1 : (some false) = some r := by rw [if_neg (show ¬ (false = true) by decide)] at H; exact H
  clear H
  have H := H1
  clear H1
  obtain rfl := Option.some.inj H
  exact absurd hr_ (by decide)
end Go.Proofs.YtobkfbkhcghaeaaGreatDoor.PRv
