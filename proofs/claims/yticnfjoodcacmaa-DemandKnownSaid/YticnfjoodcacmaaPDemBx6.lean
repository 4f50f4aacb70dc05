-- functions and contracts as the kit's print.py writes them, the roots chosen in this session (wip/proots.sh)
import Derived.Test.YticnfjoodcacmaaPDemBx0
import Derived.Test.YticnfjoodcacmaaStDemB
import Derived.Test.YticnfjoodcacmaaPDemBx2
import Derived.Test.YticnfjoodcacmaaPDemBx3
import Derived.Test.YticnfjoodcacmaaPDemBx4
import Derived.Test.YticnfjoodcacmaaPDemBx5
namespace Go.Proofs.Yticnfjoodcacmaa.PDemB
open Go.RowKit Go.Proofs.YticnfjoodcacmaaW.PrintWords Go.Proofs.YticnfjoodcacmaaW.PrintLast Go.Proofs.YticnfjoodcacmaaW.PrintMore
attribute [local go_sem] max2_int min2_int max_two min_two max_three min_three max_four min_four   -- for this text's walks alone
set_option linter.unusedVariables false
set_option linter.unusedSimpArgs false

/-! ### tocsinlaw11_DemandSays: function 4 -/
mutual
def tocsinlaw11_DemandSays.j0 : Nat → List (S27) → Int → Int → Int → Bool → Option (Bool)
  | 0, _, _, _, _, _ => none
  | k + 1, x0, x1, x5, x6, x47 => if x47 = true then (some false) else (tocsinlaw11_DemandSays.l0 k x0 x1 x5 x6 0)
def tocsinlaw11_DemandSays.l0 : Nat → List (S27) → Int → Int → Int → Int → Option (Bool)
  | 0, _, _, _, _, _ => none
  | k + 1, x0, x1, x5, x6, x9 => if x9 < (x0.length : Int) then (if 0 ≤ x9 then ((demand_Good.f ((rd_T27 x0 x9).f0) ((rd_T27 x0 x9).f1) ((rd_T27 x0 x9).f2)).bind fun t215 => ((tocsinlaw11_own.f k x0).bind fun t216 => (if x9 < (t216.length : Int) then ((tocsinref1_GoodTask.f ((rd_T39 t216 x9).f0) ((rd_T39 t216 x9).f1) ((rd_T39 t216 x9).f2)).bind fun t220 => (if (t215 != t220) = true then (some false) else ((demand_Of.f k ((rd_T27 x0 x9).f0) ((rd_T27 x0 x9).f1) ((rd_T27 x0 x9).f2) x1).bind fun t222 => ((tocsinlaw11_own.f k x0).bind fun t223 => (if x9 < (t223.length : Int) then ((tocsinref1_Of.f k ((rd_T39 t223 x9).f0) ((rd_T39 t223 x9).f1) ((rd_T39 t223 x9).f2) x1).bind fun t227 => (if t222 = t227 then (tocsinlaw11_DemandSays.l0 k x0 x1 x5 x6 (wrap64 (x9 + 1))) else (some false))) else (none)))))) else (none)))) else (none)) else (if x6 = 0 then (tocsinlaw11_DemandSays.j2 k x0 (decide (x5 > 5000))) else (tocsinlaw11_DemandSays.j2 k x0 false))
def tocsinlaw11_DemandSays.j2 : Nat → List (S27) → Bool → Option (Bool)
  | 0, _, _ => none
  | k + 1, x0, x87 => if x87 = true then (some true) else ((demand_Holds.f k x0).bind fun bt228 => ((tocsinlaw11_own.f k x0).bind fun t230 => ((tocsinref1_Holds.f k t230).bind fun bt233 => (if (bt228.1 == bt233.1) = true then (some (bt228.2 == bt233.2)) else (some false)))))
end
def tocsinlaw11_DemandSays.f (k : Nat) (l0 : List (S27)) (a1 : Int) : Option (Bool) := (tocsinlaw11_awake.f k).bind fun t201 => (if t201 = true then (if (l0.length : Int) > 25 then (some true) else ((demand_Frame.f k l0).bind fun bt202 => ((tocsinlaw11_own.f k l0).bind fun t204 => ((tocsinref1_Frame.f k t204).bind fun bt207 => (if bt202.1 = bt207.1 then (if bt202.2 = bt207.2 then ((demand_All.f k l0 a1).bind fun t209 => ((tocsinlaw11_own.f k l0).bind fun t210 => ((tocsinref1_All.f k t210 a1).bind fun t213 => (tocsinlaw11_DemandSays.j0 k l0 a1 bt202.1 bt202.2 (t209 != t213))))) else (tocsinlaw11_DemandSays.j0 k l0 a1 bt202.1 bt202.2 true)) else (tocsinlaw11_DemandSays.j0 k l0 a1 bt202.1 bt202.2 true)))))) else (some false))
theorem tocsinlaw11_DemandSays.mono_l : ∀ k, (∀ y0 y1 y2 y3 y4, LeO (tocsinlaw11_DemandSays.j0 k y0 y1 y2 y3 y4) (tocsinlaw11_DemandSays.j0 (k + 1) y0 y1 y2 y3 y4)) ∧ (∀ y0 y1 y2 y3 y4, LeO (tocsinlaw11_DemandSays.l0 k y0 y1 y2 y3 y4) (tocsinlaw11_DemandSays.l0 (k + 1) y0 y1 y2 y3 y4)) ∧ (∀ y0 y1, LeO (tocsinlaw11_DemandSays.j2 k y0 y1) (tocsinlaw11_DemandSays.j2 (k + 1) y0 y1))
  | 0 => ⟨fun _ _ _ _ _ r h => by simp [tocsinlaw11_DemandSays.j0] at h, fun _ _ _ _ _ r h => by simp [tocsinlaw11_DemandSays.l0] at h, fun _ _ r h => by simp [tocsinlaw11_DemandSays.j2] at h⟩
  | k + 1 => by
    obtain ⟨ih0, ih1, ih2⟩ := tocsinlaw11_DemandSays.mono_l k
    refine ⟨?_, ?_, ?_⟩
    · intro y0 y1 y2 y3 y4
      unfold tocsinlaw11_DemandSays.j0
      repeat' first
      | (with_reducible exact ih0 _ _ _ _ _)
      | (with_reducible exact ih1 _ _ _ _ _)
      | (with_reducible exact ih2 _ _)
      | (with_reducible exact demand_All.mono _ _ _)
      | (with_reducible exact demand_Frame.mono _ _)
      | (with_reducible exact demand_Holds.mono _ _)
      | (with_reducible exact demand_Of.mono _ _ _ _ _)
      | (with_reducible exact tocsinlaw11_awake.mono _)
      | (with_reducible exact tocsinlaw11_own.mono _ _)
      | (with_reducible exact tocsinref1_All.mono _ _ _)
      | (with_reducible exact tocsinref1_Frame.mono _ _)
      | (with_reducible exact tocsinref1_Holds.mono _ _)
      | (with_reducible exact tocsinref1_Of.mono _ _ _ _ _)
      | (with_reducible exact LeO.refl _)
      | (with_reducible exact LeO.none _)
      | (with_reducible refine LeO.ite ?_ ?_)
      | (with_reducible refine LeO.bind ?_ (fun _ => ?_))
      | exact ih0 _ _ _ _ _
      | exact ih1 _ _ _ _ _
      | exact ih2 _ _
      | exact demand_All.mono _ _ _
      | exact demand_Frame.mono _ _
      | exact demand_Holds.mono _ _
      | exact demand_Of.mono _ _ _ _ _
      | exact tocsinlaw11_awake.mono _
      | exact tocsinlaw11_own.mono _ _
      | exact tocsinref1_All.mono _ _ _
      | exact tocsinref1_Frame.mono _ _
      | exact tocsinref1_Holds.mono _ _
      | exact tocsinref1_Of.mono _ _ _ _ _
      | exact LeO.none _
      | refine LeO.ite ?_ ?_
      | refine LeO.bind ?_ (fun _ => ?_)
    · intro y0 y1 y2 y3 y4
      unfold tocsinlaw11_DemandSays.l0
      repeat' first
      | (with_reducible exact ih0 _ _ _ _ _)
      | (with_reducible exact ih1 _ _ _ _ _)
      | (with_reducible exact ih2 _ _)
      | (with_reducible exact demand_All.mono _ _ _)
      | (with_reducible exact demand_Frame.mono _ _)
      | (with_reducible exact demand_Holds.mono _ _)
      | (with_reducible exact demand_Of.mono _ _ _ _ _)
      | (with_reducible exact tocsinlaw11_awake.mono _)
      | (with_reducible exact tocsinlaw11_own.mono _ _)
      | (with_reducible exact tocsinref1_All.mono _ _ _)
      | (with_reducible exact tocsinref1_Frame.mono _ _)
      | (with_reducible exact tocsinref1_Holds.mono _ _)
      | (with_reducible exact tocsinref1_Of.mono _ _ _ _ _)
      | (with_reducible exact LeO.refl _)
      | (with_reducible exact LeO.none _)
      | (with_reducible refine LeO.ite ?_ ?_)
      | (with_reducible refine LeO.bind ?_ (fun _ => ?_))
      | exact ih0 _ _ _ _ _
      | exact ih1 _ _ _ _ _
      | exact ih2 _ _
      | exact demand_All.mono _ _ _
      | exact demand_Frame.mono _ _
      | exact demand_Holds.mono _ _
      | exact demand_Of.mono _ _ _ _ _
      | exact tocsinlaw11_awake.mono _
      | exact tocsinlaw11_own.mono _ _
      | exact tocsinref1_All.mono _ _ _
      | exact tocsinref1_Frame.mono _ _
      | exact tocsinref1_Holds.mono _ _
      | exact tocsinref1_Of.mono _ _ _ _ _
      | exact LeO.none _
      | refine LeO.ite ?_ ?_
      | refine LeO.bind ?_ (fun _ => ?_)
    · intro y0 y1
      unfold tocsinlaw11_DemandSays.j2
      repeat' first
      | (with_reducible exact ih0 _ _ _ _ _)
      | (with_reducible exact ih1 _ _ _ _ _)
      | (with_reducible exact ih2 _ _)
      | (with_reducible exact demand_All.mono _ _ _)
      | (with_reducible exact demand_Frame.mono _ _)
      | (with_reducible exact demand_Holds.mono _ _)
      | (with_reducible exact demand_Of.mono _ _ _ _ _)
      | (with_reducible exact tocsinlaw11_awake.mono _)
      | (with_reducible exact tocsinlaw11_own.mono _ _)
      | (with_reducible exact tocsinref1_All.mono _ _ _)
      | (with_reducible exact tocsinref1_Frame.mono _ _)
      | (with_reducible exact tocsinref1_Holds.mono _ _)
      | (with_reducible exact tocsinref1_Of.mono _ _ _ _ _)
      | (with_reducible exact LeO.refl _)
      | (with_reducible exact LeO.none _)
      | (with_reducible refine LeO.ite ?_ ?_)
      | (with_reducible refine LeO.bind ?_ (fun _ => ?_))
      | exact ih0 _ _ _ _ _
      | exact ih1 _ _ _ _ _
      | exact ih2 _ _
      | exact demand_All.mono _ _ _
      | exact demand_Frame.mono _ _
      | exact demand_Holds.mono _ _
      | exact demand_Of.mono _ _ _ _ _
      | exact tocsinlaw11_awake.mono _
      | exact tocsinlaw11_own.mono _ _
      | exact tocsinref1_All.mono _ _ _
      | exact tocsinref1_Frame.mono _ _
      | exact tocsinref1_Holds.mono _ _
      | exact tocsinref1_Of.mono _ _ _ _ _
      | exact LeO.none _
      | refine LeO.ite ?_ ?_
      | refine LeO.bind ?_ (fun _ => ?_)
theorem tocsinlaw11_DemandSays.mono : ∀ a0 a1 k, LeO (tocsinlaw11_DemandSays.f k a0 a1) (tocsinlaw11_DemandSays.f (k + 1) a0 a1) := by
  intro a0 a1 k
  obtain ⟨ih0, ih1, ih2⟩ := tocsinlaw11_DemandSays.mono_l k
  unfold tocsinlaw11_DemandSays.f
  repeat' first
      | (with_reducible exact ih0 _ _ _ _ _)
      | (with_reducible exact ih1 _ _ _ _ _)
      | (with_reducible exact ih2 _ _)
      | (with_reducible exact demand_All.mono _ _ _)
      | (with_reducible exact demand_Frame.mono _ _)
      | (with_reducible exact demand_Holds.mono _ _)
      | (with_reducible exact demand_Of.mono _ _ _ _ _)
      | (with_reducible exact tocsinlaw11_awake.mono _)
      | (with_reducible exact tocsinlaw11_own.mono _ _)
      | (with_reducible exact tocsinref1_All.mono _ _ _)
      | (with_reducible exact tocsinref1_Frame.mono _ _)
      | (with_reducible exact tocsinref1_Holds.mono _ _)
      | (with_reducible exact tocsinref1_Of.mono _ _ _ _ _)
      | (with_reducible exact LeO.refl _)
      | (with_reducible exact LeO.none _)
      | (with_reducible refine LeO.ite ?_ ?_)
      | (with_reducible refine LeO.bind ?_ (fun _ => ?_))
      | exact ih0 _ _ _ _ _
      | exact ih1 _ _ _ _ _
      | exact ih2 _ _
      | exact demand_All.mono _ _ _
      | exact demand_Frame.mono _ _
      | exact demand_Holds.mono _ _
      | exact demand_Of.mono _ _ _ _ _
      | exact tocsinlaw11_awake.mono _
      | exact tocsinlaw11_own.mono _ _
      | exact tocsinref1_All.mono _ _ _
      | exact tocsinref1_Frame.mono _ _
      | exact tocsinref1_Holds.mono _ _
      | exact tocsinref1_Of.mono _ _ _ _ _
      | exact LeO.none _
      | refine LeO.ite ?_ ?_
      | refine LeO.bind ?_ (fun _ => ?_)
set_option maxHeartbeats 8000000 in
set_option maxRecDepth 100000 in
theorem tocsinlaw11_DemandSays.calls (k : Nat) (A0 : Option Addr) (c0 : Nat) (l0 : List (S27)) (a1 : Int) (r : Bool) (w : World) (hr0 : Kd.C k27 w A0 l0.length l0) (hc0 : l0.length ≤ c0) (h : tocsinlaw11_DemandSays.f k l0 a1 = some r) :
    Calls Try.prog 4 #[.slice A0 l0.length c0, .int .i64 a1] w fun e w' => e = .returned (.bool r) ∧ Below w.heap.size w w' := by
  have hu27 := Try.underlying27
  have hu39 := Try.underlying39
  have HR0 := Aside0.mk hr0
  have HC0 := Aside0.mk hc0
  clear hr0 hc0
  have HB := Aside0.mk (Below.refl w.heap.size w)
  have H : ((tocsinlaw11_awake.f k).bind fun t201 => (if t201 = true then (if (l0.length : Int) > 25 then (some true) else ((demand_Frame.f k l0).bind fun bt202 => ((tocsinlaw11_own.f k l0).bind fun t204 => ((tocsinref1_Frame.f k t204).bind fun bt207 => (if bt202.1 = bt207.1 then (if bt202.2 = bt207.2 then ((demand_All.f k l0 a1).bind fun t209 => ((tocsinlaw11_own.f k l0).bind fun t210 => ((tocsinref1_All.f k t210 a1).bind fun t213 => (tocsinlaw11_DemandSays.j0 k l0 a1 bt202.1 bt202.2 (t209 != t213))))) else (tocsinlaw11_DemandSays.j0 k l0 a1 bt202.1 bt202.2 true)) else (tocsinlaw11_DemandSays.j0 k l0 a1 bt202.1 bt202.2 true)))))) else (some false))) = some r := h
  clear h
  replace H := Option.bind_eq_some_iff.mp H
  obtain ⟨t201, A30, H⟩ := H
  replace H : (if t201 = true then (if (l0.length : Int) > 25 then (some true) else ((demand_Frame.f k l0).bind fun bt202 => ((tocsinlaw11_own.f k l0).bind fun t204 => ((tocsinref1_Frame.f k t204).bind fun bt207 => (if bt202.1 = bt207.1 then (if bt202.2 = bt207.2 then ((demand_All.f k l0 a1).bind fun t209 => ((tocsinlaw11_own.f k l0).bind fun t210 => ((tocsinref1_All.f k t210 a1).bind fun t213 => (tocsinlaw11_DemandSays.j0 k l0 a1 bt202.1 bt202.2 (t209 != t213))))) else (tocsinlaw11_DemandSays.j0 k l0 a1 bt202.1 bt202.2 true)) else (tocsinlaw11_DemandSays.j0 k l0 a1 bt202.1 bt202.2 true)))))) else (some false)) = some r := H
  have A3 := Aside0.mk A30
  clear A30
  by_cases c4 : t201 = true
  · subst c4
    have H1 : (if (l0.length : Int) > 25 then (some true) else ((demand_Frame.f k l0).bind fun bt202 => ((tocsinlaw11_own.f k l0).bind fun t204 => ((tocsinref1_Frame.f k t204).bind fun bt207 => (if bt202.1 = bt207.1 then (if bt202.2 = bt207.2 then ((demand_All.f k l0 a1).bind fun t209 => ((tocsinlaw11_own.f k l0).bind fun t210 => ((tocsinref1_All.f k t210 a1).bind fun t213 => (tocsinlaw11_DemandSays.j0 k l0 a1 bt202.1 bt202.2 (t209 != t213))))) else (tocsinlaw11_DemandSays.j0 k l0 a1 bt202.1 bt202.2 true)) else (tocsinlaw11_DemandSays.j0 k l0 a1 bt202.1 bt202.2 true)))))) = some r := by rw [if_pos rfl] at H; exact H
    clear H
    have H := H1
    clear H1
    by_cases c5 : (l0.length : Int) > 25
    · rw [if_pos c5] at H
      have c5b0 : decide (25 < (l0.length : Int)) = true := decide_eq_true c5
      have c5b1 : decide (25 < l0.length) = true := decide_eq_true (by omega)
      clear c5
      obtain rfl := Option.some.inj H
      go_enter Try.func4, Try.ntmps4
      go_wp2_with (first | ((with_reducible refine gate_callee (f := 7) rfl ?_); refine goesL_ (some 14) rfl rfl Try.func7 (by kernel_rfl) rfl #[] rfl (by (try simp only [List.map_toArray, List.map_cons, List.map_nil]); first | done | rfl | (simp only [List.length_drop, List.length_take]; rfl)) ?_; (with_reducible refine (tocsinlaw11_awake.calls k  true _ A3.out).mono ?_); rintro e w6 ⟨rfl, hb⟩; refine ⟨_, rfl, ?_⟩; have n0_ := Aside0.mk (below_step (by repeat (first | (with_reducible first | exact HB.out | apply below_alloc | apply pw_below_drewN | apply below_drew1) | exact HB.out)) hb); clear HB; have HB := n0_; clear n0_; (try clear hb); (try clear hb2); (try clear hk); (try clear hi)))
      go_ret
      exact ⟨by first | rfl | (simp [errW_none, errW_some] <;> rfl) | (simp [*, errW_none, errW_some] <;> rfl), by repeat (first | (with_reducible first | exact HB.out | apply below_alloc | apply pw_below_drewN | apply below_drew1) | exact HB.out)⟩
    · rw [if_neg c5] at H
      have c5b0 : decide (25 < (l0.length : Int)) = false := decide_eq_false c5
      have c5b1 : decide (25 < l0.length) = false := decide_eq_false (by omega)
      clear c5
      replace H := Option.bind_eq_some_iff.mp H
      obtain ⟨⟨t202, t203⟩, A70, H⟩ := H
      replace H : ((tocsinlaw11_own.f k l0).bind fun t204 => ((tocsinref1_Frame.f k t204).bind fun bt207 => (if t202 = bt207.1 then (if t203 = bt207.2 then ((demand_All.f k l0 a1).bind fun t209 => ((tocsinlaw11_own.f k l0).bind fun t210 => ((tocsinref1_All.f k t210 a1).bind fun t213 => (tocsinlaw11_DemandSays.j0 k l0 a1 t202 t203 (t209 != t213))))) else (tocsinlaw11_DemandSays.j0 k l0 a1 t202 t203 true)) else (tocsinlaw11_DemandSays.j0 k l0 a1 t202 t203 true)))) = some r := H
      have A7 := Aside0.mk A70
      clear A70
      replace H := Option.bind_eq_some_iff.mp H
      obtain ⟨t204, A80, H⟩ := H
      replace H : ((tocsinref1_Frame.f k t204).bind fun bt207 => (if t202 = bt207.1 then (if t203 = bt207.2 then ((demand_All.f k l0 a1).bind fun t209 => ((tocsinlaw11_own.f k l0).bind fun t210 => ((tocsinref1_All.f k t210 a1).bind fun t213 => (tocsinlaw11_DemandSays.j0 k l0 a1 t202 t203 (t209 != t213))))) else (tocsinlaw11_DemandSays.j0 k l0 a1 t202 t203 true)) else (tocsinlaw11_DemandSays.j0 k l0 a1 t202 t203 true))) = some r := H
      have A8 := Aside0.mk A80
      clear A80
      replace H := Option.bind_eq_some_iff.mp H
      obtain ⟨⟨t207, t208⟩, A90, H⟩ := H
      replace H : (if t202 = t207 then (if t203 = t208 then ((demand_All.f k l0 a1).bind fun t209 => ((tocsinlaw11_own.f k l0).bind fun t210 => ((tocsinref1_All.f k t210 a1).bind fun t213 => (tocsinlaw11_DemandSays.j0 k l0 a1 t202 t203 (t209 != t213))))) else (tocsinlaw11_DemandSays.j0 k l0 a1 t202 t203 true)) else (tocsinlaw11_DemandSays.j0 k l0 a1 t202 t203 true)) = some r := H
      have A9 := Aside0.mk A90
      clear A90
      have HC10 := Aside0.mk H
      clear H
      go_enter Try.func4, Try.ntmps4
      go_upto_region 7 with (first | ((with_reducible refine gate_callee (f := 7) rfl ?_); refine goesL_ (some 14) rfl rfl Try.func7 (by kernel_rfl) rfl #[] rfl (by (try simp only [List.map_toArray, List.map_cons, List.map_nil]); first | done | rfl | (simp only [List.length_drop, List.length_take]; rfl)) ?_; (with_reducible refine (tocsinlaw11_awake.calls k  true _ A3.out).mono ?_); rintro e w11 ⟨rfl, hb⟩; refine ⟨_, rfl, ?_⟩; have n0_ := Aside0.mk (below_step (by repeat (first | (with_reducible first | exact HB.out | apply below_alloc | apply pw_below_drewN | apply below_drew1) | exact HB.out)) hb); clear HB; have HB := n0_; clear n0_; (try clear hb); (try clear hb2); (try clear hk); (try clear hi)) | ((with_reducible refine gate_callee (f := 8) rfl ?_); refine goesL_ (some 21) rfl rfl Try.func8 (by kernel_rfl) rfl #[.slice A0 l0.length c0] rfl (by (try simp only [List.map_toArray, List.map_cons, List.map_nil]); first | done | rfl | (simp only [List.length_drop, List.length_take]; rfl)) ?_; (with_reducible refine (demand_Frame.calls k _ _ l0 t202 t203 _ ?side1 ?side2 A7.out).mono ?_); (case side1 => repeat (first | exact (Kd.C_below HR0.out HB.out) | (with_reducible refine Kd.C_alloc ?_ _) | (with_reducible refine Kd.C_drewN ?_ _) | (with_reducible refine Kd.C_drew ?_))); (case side2 => exact HC0.out); rintro e w12 ⟨rfl, hb⟩; refine ⟨_, rfl, ?_⟩; have n0_ := Aside0.mk (below_step (by repeat (first | (with_reducible first | exact HB.out | apply below_alloc | apply pw_below_drewN | apply below_drew1) | exact HB.out)) hb); clear HB; have HB := n0_; clear n0_; (try clear hb); (try clear hb2); (try clear hk); (try clear hi)) | ((with_reducible refine gate_callee (f := 14) rfl ?_); refine goesL_ (some 26) rfl rfl Try.func14 (by kernel_rfl) rfl #[.slice A0 l0.length c0] rfl (by (try simp only [List.map_toArray, List.map_cons, List.map_nil]); first | done | rfl | (simp only [List.length_drop, List.length_take]; rfl)) ?_; (with_reducible refine (tocsinlaw11_own.calls k _ _ l0 t204 _ ?side1 ?side2 A8.out).mono ?_); (case side1 => repeat (first | exact (Kd.C_below HR0.out HB.out) | (with_reducible refine Kd.C_alloc ?_ _) | (with_reducible refine Kd.C_drewN ?_ _) | (with_reducible refine Kd.C_drew ?_))); (case side2 => exact HC0.out); rintro e w13 ⟨v205, rfl, ho0, hb⟩; refine ⟨_, rfl, ?_⟩; have n0_ := Aside0.mk (Kd.R_lower ho0 (below_size (by repeat (first | (with_reducible first | exact HB.out | apply below_alloc | apply pw_below_drewN | apply below_drew1) | exact HB.out)))); have n1_ := Aside0.mk (below_step (by repeat (first | (with_reducible first | exact HB.out | apply below_alloc | apply pw_below_drewN | apply below_drew1) | exact HB.out)) hb); clear HB; have HO206 := n0_; have HB := n1_; clear n0_ n1_; (try clear hb); (try clear hb2); (try clear hk); (try clear hi); (try clear ho0); obtain ⟨Ao14, co14, eo14⟩ := Kd.R_slice HO206.out; subst eo14) | ((with_reducible refine gate_callee (f := 13) rfl ?_); refine goesL_ (some 27) rfl rfl Try.func13 (by kernel_rfl) rfl #[.slice Ao14 t204.length co14] rfl (by (try simp only [List.map_toArray, List.map_cons, List.map_nil]); first | done | rfl | (simp only [List.length_drop, List.length_take]; rfl)) ?_; (with_reducible refine (tocsinref1_Frame.calls k _ _ t204 t207 t208 _ ?side1 ?side2 A9.out).mono ?_); (case side1 => repeat (first | exact (Kd.R_reads' HO206.out).2.2 | (with_reducible refine Kd.C_alloc ?_ _) | (with_reducible refine Kd.C_drewN ?_ _) | (with_reducible refine Kd.C_drew ?_))); (case side2 => exact (Kd.R_reads' HO206.out).2.1); rintro e w15 ⟨rfl, hb⟩; refine ⟨_, rfl, ?_⟩; have n0_ := Aside0.mk (Kd.R_below (by (with_reducible repeat (first | apply Kd.R_alloc | apply Kd.R_drewN | apply Kd.R_drew)); exact HO206.out) hb); have n1_ := Aside0.mk (below_step (by repeat (first | (with_reducible first | exact HB.out | apply below_alloc | apply pw_below_drewN | apply below_drew1) | exact HB.out)) hb); clear HO206; clear HB; have HO206 := n0_; have HB := n1_; clear n0_ n1_; (try clear hb); (try clear hb2); (try clear hk); (try clear hi)))
      (try simp only [Act.put, List.setIfInBounds_toArray, List.set_cons_zero, List.set_cons_succ])
      go_cut [47] (fun v47 wc => ∃ (kq : Nat) (x47_9 : Bool), v47 = .bool x47_9 ∧ Aside0 (tocsinlaw11_DemandSays.j0 kq l0 a1 t202 t203 x47_9 = some r) ∧ Aside0 (kq ≤ k) ∧ Aside0 (Below w.heap.size w wc))
      case first =>
        have H := HC10.out
        clear HC10
        by_cases c16 : t202 = t207
        · rw [if_pos c16] at H
          have c16b0 : (t202 == t207) = true := beq_iff_eq.mpr c16
          have c16b1 : (t202 != t207) = false := bne_eq_false_iff_eq.mpr c16
          clear c16
          (first | rw [c16b0] | (simp only [i64_w, i32_w]; rw [c16b0]) | skip)
          by_cases c17 : t203 = t208
          · rw [if_pos c17] at H
            have c17b0 : (t203 == t208) = true := beq_iff_eq.mpr c17
            have c17b1 : (t203 != t208) = false := bne_eq_false_iff_eq.mpr c17
            clear c17
            replace H := Option.bind_eq_some_iff.mp H
            obtain ⟨t209, A180, H⟩ := H
            replace H : ((tocsinlaw11_own.f k l0).bind fun t210 => ((tocsinref1_All.f k t210 a1).bind fun t213 => (tocsinlaw11_DemandSays.j0 k l0 a1 t202 t203 (t209 != t213)))) = some r := H
            have A18 := Aside0.mk A180
            clear A180
            replace H := Option.bind_eq_some_iff.mp H
            obtain ⟨t210, A190, H⟩ := H
            replace H : ((tocsinref1_All.f k t210 a1).bind fun t213 => (tocsinlaw11_DemandSays.j0 k l0 a1 t202 t203 (t209 != t213))) = some r := H
            have A19 := Aside0.mk A190
            clear A190
            replace H := Option.bind_eq_some_iff.mp H
            obtain ⟨t213, A200, H⟩ := H
            replace H : (tocsinlaw11_DemandSays.j0 k l0 a1 t202 t203 (t209 != t213)) = some r := H
            have A20 := Aside0.mk A200
            clear A200
            have H' := Aside0.mk H
            clear H
            go_wp2_with (first | (go_at_call 12; (with_reducible refine (demand_All.calls k _ _ l0 a1 t209 _ ?side1 ?side2 A18.out).mono ?_); (case side1 => repeat (first | exact (Kd.C_below HR0.out HB.out) | (with_reducible refine Kd.C_alloc ?_ _) | (with_reducible refine Kd.C_drewN ?_ _) | (with_reducible refine Kd.C_drew ?_))); (case side2 => exact HC0.out); rintro e w21 ⟨rfl, hb⟩; have n0_ := Aside0.mk (Kd.R_below (by (with_reducible repeat (first | apply Kd.R_alloc | apply Kd.R_drewN | apply Kd.R_drew)); exact HO206.out) hb); have n1_ := Aside0.mk (below_step (by repeat (first | (with_reducible first | exact HB.out | apply below_alloc | apply pw_below_drewN | apply below_drew1) | exact HB.out)) hb); clear HO206; clear HB; have HO206 := n0_; have HB := n1_; clear n0_ n1_; (try clear hb); (try clear hb2); (try clear hk); (try clear hi)) | (go_at_call 14; (with_reducible refine (tocsinlaw11_own.calls k _ _ l0 t210 _ ?side1 ?side2 A19.out).mono ?_); (case side1 => repeat (first | exact (Kd.C_below HR0.out HB.out) | (with_reducible refine Kd.C_alloc ?_ _) | (with_reducible refine Kd.C_drewN ?_ _) | (with_reducible refine Kd.C_drew ?_))); (case side2 => exact HC0.out); rintro e w22 ⟨v211, rfl, ho0, hb⟩; have n0_ := Aside0.mk (Kd.R_elder' (by (with_reducible repeat (first | apply Kd.R_alloc | apply Kd.R_drewN | apply Kd.R_drew)); exact HO206.out) (Kd.R_base ho0) hb); have n1_ := Aside0.mk (Kd.R_lower (Kd.R_new' ho0 (Kd.R_lt (by (with_reducible repeat (first | apply Kd.R_alloc | apply Kd.R_drewN | apply Kd.R_drew)); exact HO206.out))) (below_size (by repeat (first | (with_reducible first | exact HB.out | apply below_alloc | apply pw_below_drewN | apply below_drew1) | exact HB.out)))); have n2_ := Aside0.mk (below_step (by repeat (first | (with_reducible first | exact HB.out | apply below_alloc | apply pw_below_drewN | apply below_drew1) | exact HB.out)) hb); clear HO206; clear HB; have HO206 := n0_; have HO212 := n1_; have HB := n2_; clear n0_ n1_ n2_; (try clear hb); (try clear hb2); (try clear hk); (try clear hi); (try clear ho0); obtain ⟨Ao23, co23, eo23⟩ := Kd.R_slice HO212.out; subst eo23) | (go_at_call 15; (with_reducible refine (tocsinref1_All.calls k _ _ t210 a1 t213 _ ?side1 ?side2 A20.out).mono ?_); (case side1 => repeat (first | exact (Kd.R_reads' HO212.out).2.2 | (with_reducible refine Kd.C_alloc ?_ _) | (with_reducible refine Kd.C_drewN ?_ _) | (with_reducible refine Kd.C_drew ?_))); (case side2 => exact (Kd.R_reads' HO212.out).2.1); rintro e w24 ⟨rfl, hb⟩; have n0_ := Aside0.mk (Kd.R_below (by (with_reducible repeat (first | apply Kd.R_alloc | apply Kd.R_drewN | apply Kd.R_drew)); exact HO206.out) hb); have n1_ := Aside0.mk (Kd.R_below (by (with_reducible repeat (first | apply Kd.R_alloc | apply Kd.R_drewN | apply Kd.R_drew)); exact HO212.out) hb); have n2_ := Aside0.mk (below_step (by repeat (first | (with_reducible first | exact HB.out | apply below_alloc | apply pw_below_drewN | apply below_drew1) | exact HB.out)) hb); clear HO206; clear HO212; clear HB; have HO206 := n0_; have HO212 := n1_; have HB := n2_; clear n0_ n1_ n2_; (try clear hb); (try clear hb2); (try clear hk); (try clear hi)))
            go_meet
            case rel => exact ⟨_, ((t209 != t213)), (by first | rfl | (simp; done) | (simp [*]; done)), H', ⟨by first | omega | exact Nat.le_refl _⟩, ⟨by repeat (first | (with_reducible first | exact HB.out | apply below_alloc | apply pw_below_drewN | apply below_drew1) | exact HB.out)⟩⟩
          · rw [if_neg c17] at H
            have c17b0 : (t203 == t208) = false := beq_eq_false_iff_ne.mpr c17
            have c17b1 : (t203 != t208) = true := bne_iff_ne.mpr c17
            have H' := Aside0.mk H
            clear H
            go_wp2
            go_meet
            case rel => exact ⟨_, (true), (by first | rfl | (simp; done) | (simp [*]; done)), H', ⟨by first | omega | exact Nat.le_refl _⟩, ⟨by repeat (first | (with_reducible first | exact HB.out | apply below_alloc | apply pw_below_drewN | apply below_drew1) | exact HB.out)⟩⟩
        · rw [if_neg c16] at H
          have c16b0 : (t202 == t207) = false := beq_eq_false_iff_ne.mpr c16
          have c16b1 : (t202 != t207) = true := bne_iff_ne.mpr c16
          (first | rw [c16b0] | (simp only [i64_w, i32_w]; rw [c16b0]) | skip)
          have H' := Aside0.mk H
          clear H
          go_wp2
          go_meet
          case rel => exact ⟨_, (true), (by first | rfl | (simp; done) | (simp [*]; done)), H', ⟨by first | omega | exact Nat.le_refl _⟩, ⟨by repeat (first | (with_reducible first | exact HB.out | apply below_alloc | apply pw_below_drewN | apply below_drew1) | exact HB.out)⟩⟩
      case rest =>
        clear HC10
        try clear c1
        try clear p2
        try clear c4
        try clear c5
        try clear c5b0
        try clear c5b1
        try clear c7
        try clear c8
        try clear c13
        try clear c14
        try clear c16
        try clear c16b0
        try clear c16b1
        try clear c17
        try clear c17b0
        try clear c17b1
        obtain ⟨kq, x47_9, rfl, HA, HJ9, HB⟩ := hcut
        cases kq with
        | zero => exact absurd HA.out (by simp [tocsinlaw11_DemandSays.j0])
        | succ kj9 =>
          have H := HA.out
          clear HA
          simp only [tocsinlaw11_DemandSays.j0] at H
          by_cases c25 : x47_9 = true
          · subst c25
            have H1 : (some false) = some r := by rw [if_pos rfl] at H; exact H
            clear H
            have H := H1
            clear H1
            obtain rfl := Option.some.inj H
            go_wp2
            go_ret
            exact ⟨by first | rfl | (simp [errW_none, errW_some] <;> rfl) | (simp [*, errW_none, errW_some] <;> rfl), by repeat (first | (with_reducible first | exact HB.out | apply below_alloc | apply pw_below_drewN | apply below_drew1) | exact HB.out)⟩
          · replace c25 := Bool.eq_false_iff.mpr c25
            subst c25
            have H1 : (tocsinlaw11_DemandSays.l0 kj9 l0 a1 t202 t203 0) = some r := by rw [if_neg (show ¬ (false = true) by decide)] at H; exact H
            clear H
            have H := H1
            clear H1
            have H' := Aside0.mk H
            clear H
            go_wp2
            go_loopg [9] kj9 (fun kq v9 w' => ∃ (x9_2 : Int), v9 = .int .i64 x9_2 ∧ Aside0 (tocsinlaw11_DemandSays.l0 kq l0 a1 t202 t203 x9_2 = some r) ∧ Aside0 (kq ≤ kj9) ∧ Aside0 (Below w.heap.size w w'))
            case atStart => exact ⟨(0), (by first | rfl | (simp; done) | (simp [*]; done)), H', ⟨Nat.le_refl _⟩, ⟨by repeat (first | (with_reducible first | exact HB.out | apply below_alloc | apply pw_below_drewN | apply below_drew1) | exact HB.out)⟩⟩
            case round =>
              clear H'
              try clear c1
              try clear c2
              try clear p2
              try clear c4
              try clear c5
              try clear c5b0
              try clear c5b1
              try clear c7
              try clear c8
              try clear c13
              try clear c14
              try clear c16
              try clear c16b0
              try clear c16b1
              try clear c17
              try clear c17b0
              try clear c17b1
              try clear c25
              try clear p2
              obtain ⟨x9_2, rfl, HA, HK2, HB⟩ := hrel
              cases gk with
              | zero => exact absurd HA.out (by simp [tocsinlaw11_DemandSays.l0])
              | succ k2 =>
                have H := HA.out
                clear HA
                simp only [tocsinlaw11_DemandSays.l0] at H
                by_cases c26 : x9_2 < (l0.length : Int)
                · rw [if_pos c26] at H
                  have c26b0 : decide (x9_2 < (l0.length : Int)) = true := decide_eq_true c26
                  clear c26
                  by_cases c27 : 0 ≤ x9_2
                  · rw [if_pos c27] at H
                    have c27b0 : decide (0 ≤ x9_2) = true := decide_eq_true c27
                    clear c27
                    replace H := Option.bind_eq_some_iff.mp H
                    obtain ⟨t215, A280, H⟩ := H
                    replace H : ((tocsinlaw11_own.f k2 l0).bind fun t216 => (if x9_2 < (t216.length : Int) then ((tocsinref1_GoodTask.f ((rd_T39 t216 x9_2).f0) ((rd_T39 t216 x9_2).f1) ((rd_T39 t216 x9_2).f2)).bind fun t220 => (if (t215 != t220) = true then (some false) else ((demand_Of.f k2 ((rd_T27 l0 x9_2).f0) ((rd_T27 l0 x9_2).f1) ((rd_T27 l0 x9_2).f2) a1).bind fun t222 => ((tocsinlaw11_own.f k2 l0).bind fun t223 => (if x9_2 < (t223.length : Int) then ((tocsinref1_Of.f k2 ((rd_T39 t223 x9_2).f0) ((rd_T39 t223 x9_2).f1) ((rd_T39 t223 x9_2).f2) a1).bind fun t227 => (if t222 = t227 then (tocsinlaw11_DemandSays.l0 k2 l0 a1 t202 t203 (wrap64 (x9_2 + 1))) else (some false))) else (none)))))) else (none))) = some r := H
                    have A28 := Aside0.mk A280
                    clear A280
                    replace H := Option.bind_eq_some_iff.mp H
                    obtain ⟨t216, A290, H⟩ := H
                    replace H : (if x9_2 < (t216.length : Int) then ((tocsinref1_GoodTask.f ((rd_T39 t216 x9_2).f0) ((rd_T39 t216 x9_2).f1) ((rd_T39 t216 x9_2).f2)).bind fun t220 => (if (t215 != t220) = true then (some false) else ((demand_Of.f k2 ((rd_T27 l0 x9_2).f0) ((rd_T27 l0 x9_2).f1) ((rd_T27 l0 x9_2).f2) a1).bind fun t222 => ((tocsinlaw11_own.f k2 l0).bind fun t223 => (if x9_2 < (t223.length : Int) then ((tocsinref1_Of.f k2 ((rd_T39 t223 x9_2).f0) ((rd_T39 t223 x9_2).f1) ((rd_T39 t223 x9_2).f2) a1).bind fun t227 => (if t222 = t227 then (tocsinlaw11_DemandSays.l0 k2 l0 a1 t202 t203 (wrap64 (x9_2 + 1))) else (some false))) else (none)))))) else (none)) = some r := H
                    have A29 := Aside0.mk A290
                    clear A290
                    by_cases c30 : x9_2 < (t216.length : Int)
                    · rw [if_pos c30] at H
                      have c30b0 : decide (x9_2 < (t216.length : Int)) = true := decide_eq_true c30
                      clear c30
                      replace H := Option.bind_eq_some_iff.mp H
                      obtain ⟨t220, A310, H⟩ := H
                      replace H : (if (t215 != t220) = true then (some false) else ((demand_Of.f k2 ((rd_T27 l0 x9_2).f0) ((rd_T27 l0 x9_2).f1) ((rd_T27 l0 x9_2).f2) a1).bind fun t222 => ((tocsinlaw11_own.f k2 l0).bind fun t223 => (if x9_2 < (t223.length : Int) then ((tocsinref1_Of.f k2 ((rd_T39 t223 x9_2).f0) ((rd_T39 t223 x9_2).f1) ((rd_T39 t223 x9_2).f2) a1).bind fun t227 => (if t222 = t227 then (tocsinlaw11_DemandSays.l0 k2 l0 a1 t202 t203 (wrap64 (x9_2 + 1))) else (some false))) else (none))))) = some r := H
                      have A31 := Aside0.mk A310
                      clear A310
                      by_cases c32 : (t215 != t220) = true
                      · rw [if_pos c32] at H
                        have c32b0 : (t215 != t220) = true := c32
                        (try (have c32b1 : decide (t215 = t220) = false := by simpa using c32))
                        (try (have c32b2 : (t215 == t220) = false := by simpa using c32))
                        (try (have c32b3 : ¬ (t215 = t220) := by simpa using c32))
                        clear c32
                        obtain rfl := Option.some.inj H
                        have p214 : 0 ≤ (x9_2 : Int) := of_decide_eq_true (by first | (with_reducible assumption) | assumption)
                        have q214 : x9_2 < (l0.length : Int) := of_decide_eq_true (by first | (with_reducible assumption) | assumption)
                        obtain ⟨ad214, e214, hx214_0, hx214_1, hx214_2⟩ := at_T27 HR0.out x9_2 p214 q214
                        cases e214
                        replace hx214_0 := (HB.out.cell (World.block_lt_of_cell? w _ hx214_0)).trans hx214_0
                        replace hx214_1 := (HB.out.cell (World.block_lt_of_cell? w _ hx214_1)).trans hx214_1
                        replace hx214_2 := (HB.out.cell (World.block_lt_of_cell? w _ hx214_2)).trans hx214_2
                        replace p214 := eq_true p214
                        replace q214 := eq_true q214
                        go_wp2_with (first | ((with_reducible refine gate_callee (f := 11) rfl ?_); refine goesL_ (some 58) rfl rfl Try.func11 (by kernel_rfl) rfl #[.agg #[.int .i64 ((rd_T27 l0 x9_2).f0), .int .i64 ((rd_T27 l0 x9_2).f1), .int .i64 ((rd_T27 l0 x9_2).f2)]] rfl (by (try simp only [List.map_toArray, List.map_cons, List.map_nil]); first | done | rfl | (simp only [List.length_drop, List.length_take]; rfl)) ?_; (with_reducible refine (demand_Good.calls ((rd_T27 l0 x9_2).f0) ((rd_T27 l0 x9_2).f1) ((rd_T27 l0 x9_2).f2) t215 _ A28.out).mono ?_); rintro e w33 ⟨rfl, hb⟩; refine ⟨_, rfl, ?_⟩; have n0_ := Aside0.mk (below_step (by repeat (first | (with_reducible first | exact HB.out | apply below_alloc | apply pw_below_drewN | apply below_drew1) | exact HB.out)) hb); clear HB; have HB := n0_; clear n0_; (try clear hb); (try clear hb2); (try clear hk); (try clear hi)) | ((with_reducible refine gate_callee (f := 14) rfl ?_); refine goesL_ (some 60) rfl rfl Try.func14 (by kernel_rfl) rfl #[.slice (some ad214) l0.length c0] rfl (by (try simp only [List.map_toArray, List.map_cons, List.map_nil]); first | done | rfl | (simp only [List.length_drop, List.length_take]; rfl)) ?_; (with_reducible refine (tocsinlaw11_own.calls k2 _ _ l0 t216 _ ?side1 ?side2 A29.out).mono ?_); (case side1 => repeat (first | exact (Kd.C_below HR0.out HB.out) | (with_reducible refine Kd.C_alloc ?_ _) | (with_reducible refine Kd.C_drewN ?_ _) | (with_reducible refine Kd.C_drew ?_))); (case side2 => exact HC0.out); rintro e w34 ⟨v217, rfl, ho0, hb⟩; refine ⟨_, rfl, ?_⟩; have n0_ := Aside0.mk (Kd.R_lower ho0 (below_size (by repeat (first | (with_reducible first | exact HB.out | apply below_alloc | apply pw_below_drewN | apply below_drew1) | exact HB.out)))); have n1_ := Aside0.mk (below_step (by repeat (first | (with_reducible first | exact HB.out | apply below_alloc | apply pw_below_drewN | apply below_drew1) | exact HB.out)) hb); clear HB; have HO218 := n0_; have HB := n1_; clear n0_ n1_; (try clear hb); (try clear hb2); (try clear hk); (try clear hi); (try clear ho0); obtain ⟨Ao35, co35, eo35⟩ := Kd.R_slice HO218.out; subst eo35; have p219 : 0 ≤ (x9_2 : Int) := of_decide_eq_true (by first | (with_reducible assumption) | assumption); have q219 : x9_2 < (t216.length : Int) := of_decide_eq_true (by first | (with_reducible assumption) | assumption); obtain ⟨ad219, e219, hx219_0, hx219_1, hx219_2⟩ := at_T39 (Kd.R_reads' HO218.out).2.2 x9_2 p219 q219; cases e219; replace p219 := eq_true p219; replace q219 := eq_true q219) | ((with_reducible refine gate_callee (f := 16) rfl ?_); refine goesL_ (some 64) rfl rfl Try.func16 (by kernel_rfl) rfl #[.agg #[.int .i64 ((rd_T39 t216 x9_2).f0), .int .i64 ((rd_T39 t216 x9_2).f1), .int .i64 ((rd_T39 t216 x9_2).f2)]] rfl (by (try simp only [List.map_toArray, List.map_cons, List.map_nil]); first | done | rfl | (simp only [List.length_drop, List.length_take]; rfl)) ?_; (with_reducible refine (tocsinref1_GoodTask.calls ((rd_T39 t216 x9_2).f0) ((rd_T39 t216 x9_2).f1) ((rd_T39 t216 x9_2).f2) t220 _ A31.out).mono ?_); rintro e w36 ⟨rfl, hb⟩; refine ⟨_, rfl, ?_⟩; have n0_ := Aside0.mk (Kd.R_below (by (with_reducible repeat (first | apply Kd.R_alloc | apply Kd.R_drewN | apply Kd.R_drew)); exact HO218.out) hb); have n1_ := Aside0.mk (below_step (by repeat (first | (with_reducible first | exact HB.out | apply below_alloc | apply pw_below_drewN | apply below_drew1) | exact HB.out)) hb); clear HO218; clear HB; have HO218 := n0_; have HB := n1_; clear n0_ n1_; (try clear hb); (try clear hb2); (try clear hk); (try clear hi)))
                        go_ret
                        exact ⟨by first | rfl | (simp [errW_none, errW_some] <;> rfl) | (simp [*, errW_none, errW_some] <;> rfl), by repeat (first | (with_reducible first | exact HB.out | apply below_alloc | apply pw_below_drewN | apply below_drew1) | exact HB.out)⟩
                      · rw [if_neg c32] at H
                        have c32b0 : (t215 != t220) = false := by simpa using c32
                        (try (have c32b1 : decide (t215 = t220) = true := by simpa using c32))
                        (try (have c32b2 : (t215 == t220) = true := by simpa using c32))
                        clear c32
                        replace H := Option.bind_eq_some_iff.mp H
                        obtain ⟨t222, A370, H⟩ := H
                        replace H : ((tocsinlaw11_own.f k2 l0).bind fun t223 => (if x9_2 < (t223.length : Int) then ((tocsinref1_Of.f k2 ((rd_T39 t223 x9_2).f0) ((rd_T39 t223 x9_2).f1) ((rd_T39 t223 x9_2).f2) a1).bind fun t227 => (if t222 = t227 then (tocsinlaw11_DemandSays.l0 k2 l0 a1 t202 t203 (wrap64 (x9_2 + 1))) else (some false))) else (none))) = some r := H
                        have A37 := Aside0.mk A370
                        clear A370
                        replace H := Option.bind_eq_some_iff.mp H
                        obtain ⟨t223, A380, H⟩ := H
                        replace H : (if x9_2 < (t223.length : Int) then ((tocsinref1_Of.f k2 ((rd_T39 t223 x9_2).f0) ((rd_T39 t223 x9_2).f1) ((rd_T39 t223 x9_2).f2) a1).bind fun t227 => (if t222 = t227 then (tocsinlaw11_DemandSays.l0 k2 l0 a1 t202 t203 (wrap64 (x9_2 + 1))) else (some false))) else (none)) = some r := H
                        have A38 := Aside0.mk A380
                        clear A380
                        by_cases c39 : x9_2 < (t223.length : Int)
                        · rw [if_pos c39] at H
                          have c39b0 : decide (x9_2 < (t223.length : Int)) = true := decide_eq_true c39
                          clear c39
                          replace H := Option.bind_eq_some_iff.mp H
                          obtain ⟨t227, A400, H⟩ := H
                          replace H : (if t222 = t227 then (tocsinlaw11_DemandSays.l0 k2 l0 a1 t202 t203 (wrap64 (x9_2 + 1))) else (some false)) = some r := H
                          have A40 := Aside0.mk A400
                          clear A400
                          by_cases c41 : t222 = t227
                          · rw [if_pos c41] at H
                            have c41b0 : (t222 == t227) = true := beq_iff_eq.mpr c41
                            have c41b1 : (t222 != t227) = false := bne_eq_false_iff_eq.mpr c41
                            clear c41
                            have H' := Aside0.mk H
                            clear H
                            have p214 : 0 ≤ (x9_2 : Int) := of_decide_eq_true (by first | (with_reducible assumption) | assumption)
                            have q214 : x9_2 < (l0.length : Int) := of_decide_eq_true (by first | (with_reducible assumption) | assumption)
                            obtain ⟨ad214, e214, hx214_0, hx214_1, hx214_2⟩ := at_T27 HR0.out x9_2 p214 q214
                            cases e214
                            replace hx214_0 := (HB.out.cell (World.block_lt_of_cell? w _ hx214_0)).trans hx214_0
                            replace hx214_1 := (HB.out.cell (World.block_lt_of_cell? w _ hx214_1)).trans hx214_1
                            replace hx214_2 := (HB.out.cell (World.block_lt_of_cell? w _ hx214_2)).trans hx214_2
                            replace p214 := eq_true p214
                            replace q214 := eq_true q214
                            go_wp2_with (first | ((with_reducible refine gate_callee (f := 11) rfl ?_); refine goesL_ (some 58) rfl rfl Try.func11 (by kernel_rfl) rfl #[.agg #[.int .i64 ((rd_T27 l0 x9_2).f0), .int .i64 ((rd_T27 l0 x9_2).f1), .int .i64 ((rd_T27 l0 x9_2).f2)]] rfl (by (try simp only [List.map_toArray, List.map_cons, List.map_nil]); first | done | rfl | (simp only [List.length_drop, List.length_take]; rfl)) ?_; (with_reducible refine (demand_Good.calls ((rd_T27 l0 x9_2).f0) ((rd_T27 l0 x9_2).f1) ((rd_T27 l0 x9_2).f2) t215 _ A28.out).mono ?_); rintro e w42 ⟨rfl, hb⟩; refine ⟨_, rfl, ?_⟩; have n0_ := Aside0.mk (below_step (by repeat (first | (with_reducible first | exact HB.out | apply below_alloc | apply pw_below_drewN | apply below_drew1) | exact HB.out)) hb); clear HB; have HB := n0_; clear n0_; (try clear hb); (try clear hb2); (try clear hk); (try clear hi)) | ((with_reducible refine gate_callee (f := 14) rfl ?_); refine goesL_ (some 60) rfl rfl Try.func14 (by kernel_rfl) rfl #[.slice (some ad214) l0.length c0] rfl (by (try simp only [List.map_toArray, List.map_cons, List.map_nil]); first | done | rfl | (simp only [List.length_drop, List.length_take]; rfl)) ?_; (with_reducible refine (tocsinlaw11_own.calls k2 _ _ l0 t216 _ ?side1 ?side2 A29.out).mono ?_); (case side1 => repeat (first | exact (Kd.C_below HR0.out HB.out) | (with_reducible refine Kd.C_alloc ?_ _) | (with_reducible refine Kd.C_drewN ?_ _) | (with_reducible refine Kd.C_drew ?_))); (case side2 => exact HC0.out); rintro e w43 ⟨v217, rfl, ho0, hb⟩; refine ⟨_, rfl, ?_⟩; have n0_ := Aside0.mk (Kd.R_lower ho0 (below_size (by repeat (first | (with_reducible first | exact HB.out | apply below_alloc | apply pw_below_drewN | apply below_drew1) | exact HB.out)))); have n1_ := Aside0.mk (below_step (by repeat (first | (with_reducible first | exact HB.out | apply below_alloc | apply pw_below_drewN | apply below_drew1) | exact HB.out)) hb); clear HB; have HO218 := n0_; have HB := n1_; clear n0_ n1_; (try clear hb); (try clear hb2); (try clear hk); (try clear hi); (try clear ho0); obtain ⟨Ao44, co44, eo44⟩ := Kd.R_slice HO218.out; subst eo44; have p219 : 0 ≤ (x9_2 : Int) := of_decide_eq_true (by first | (with_reducible assumption) | assumption); have q219 : x9_2 < (t216.length : Int) := of_decide_eq_true (by first | (with_reducible assumption) | assumption); obtain ⟨ad219, e219, hx219_0, hx219_1, hx219_2⟩ := at_T39 (Kd.R_reads' HO218.out).2.2 x9_2 p219 q219; cases e219; replace p219 := eq_true p219; replace q219 := eq_true q219) | ((with_reducible refine gate_callee (f := 16) rfl ?_); refine goesL_ (some 64) rfl rfl Try.func16 (by kernel_rfl) rfl #[.agg #[.int .i64 ((rd_T39 t216 x9_2).f0), .int .i64 ((rd_T39 t216 x9_2).f1), .int .i64 ((rd_T39 t216 x9_2).f2)]] rfl (by (try simp only [List.map_toArray, List.map_cons, List.map_nil]); first | done | rfl | (simp only [List.length_drop, List.length_take]; rfl)) ?_; (with_reducible refine (tocsinref1_GoodTask.calls ((rd_T39 t216 x9_2).f0) ((rd_T39 t216 x9_2).f1) ((rd_T39 t216 x9_2).f2) t220 _ A31.out).mono ?_); rintro e w45 ⟨rfl, hb⟩; refine ⟨_, rfl, ?_⟩; have n0_ := Aside0.mk (Kd.R_below (by (with_reducible repeat (first | apply Kd.R_alloc | apply Kd.R_drewN | apply Kd.R_drew)); exact HO218.out) hb); have n1_ := Aside0.mk (below_step (by repeat (first | (with_reducible first | exact HB.out | apply below_alloc | apply pw_below_drewN | apply below_drew1) | exact HB.out)) hb); clear HO218; clear HB; have HO218 := n0_; have HB := n1_; clear n0_ n1_; (try clear hb); (try clear hb2); (try clear hk); (try clear hi); have p221 : 0 ≤ (x9_2 : Int) := of_decide_eq_true (by first | (with_reducible assumption) | assumption); have q221 : x9_2 < (l0.length : Int) := of_decide_eq_true (by first | (with_reducible assumption) | assumption); obtain ⟨ad221, e221, hx221_0, hx221_1, hx221_2⟩ := at_T27 HR0.out x9_2 p221 q221; obtain rfl : ad214 = ad221 := (by injection e221); replace hx221_0 := (HB.out.cell (World.block_lt_of_cell? w _ hx221_0)).trans hx221_0; replace hx221_1 := (HB.out.cell (World.block_lt_of_cell? w _ hx221_1)).trans hx221_1; replace hx221_2 := (HB.out.cell (World.block_lt_of_cell? w _ hx221_2)).trans hx221_2; replace p221 := eq_true p221; replace q221 := eq_true q221) | (go_at_call 10; (with_reducible refine (demand_Of.calls k2 ((rd_T27 l0 x9_2).f0) ((rd_T27 l0 x9_2).f1) ((rd_T27 l0 x9_2).f2) a1 t222 _ A37.out).mono ?_); rintro e w46 ⟨rfl, hb⟩; have n0_ := Aside0.mk (Kd.R_below (by (with_reducible repeat (first | apply Kd.R_alloc | apply Kd.R_drewN | apply Kd.R_drew)); exact HO218.out) hb); have n1_ := Aside0.mk (below_step (by repeat (first | (with_reducible first | exact HB.out | apply below_alloc | apply pw_below_drewN | apply below_drew1) | exact HB.out)) hb); clear HO218; clear HB; have HO218 := n0_; have HB := n1_; clear n0_ n1_; (try clear hb); (try clear hb2); (try clear hk); (try clear hi)) | (go_at_call 14; (with_reducible refine (tocsinlaw11_own.calls k2 _ _ l0 t223 _ ?side1 ?side2 A38.out).mono ?_); (case side1 => repeat (first | exact (Kd.C_below HR0.out HB.out) | (with_reducible refine Kd.C_alloc ?_ _) | (with_reducible refine Kd.C_drewN ?_ _) | (with_reducible refine Kd.C_drew ?_))); (case side2 => exact HC0.out); rintro e w47 ⟨v224, rfl, ho0, hb⟩; have n0_ := Aside0.mk (Kd.R_elder' (by (with_reducible repeat (first | apply Kd.R_alloc | apply Kd.R_drewN | apply Kd.R_drew)); exact HO218.out) (Kd.R_base ho0) hb); have n1_ := Aside0.mk (Kd.R_lower (Kd.R_new' ho0 (Kd.R_lt (by (with_reducible repeat (first | apply Kd.R_alloc | apply Kd.R_drewN | apply Kd.R_drew)); exact HO218.out))) (below_size (by repeat (first | (with_reducible first | exact HB.out | apply below_alloc | apply pw_below_drewN | apply below_drew1) | exact HB.out)))); have n2_ := Aside0.mk (below_step (by repeat (first | (with_reducible first | exact HB.out | apply below_alloc | apply pw_below_drewN | apply below_drew1) | exact HB.out)) hb); clear HO218; clear HB; have HO218 := n0_; have HO225 := n1_; have HB := n2_; clear n0_ n1_ n2_; (try clear hb); (try clear hb2); (try clear hk); (try clear hi); (try clear ho0); obtain ⟨Ao48, co48, eo48⟩ := Kd.R_slice HO225.out; subst eo48; have p226 : 0 ≤ (x9_2 : Int) := of_decide_eq_true (by first | (with_reducible assumption) | assumption); have q226 : x9_2 < (t223.length : Int) := of_decide_eq_true (by first | (with_reducible assumption) | assumption); obtain ⟨ad226, e226, hx226_0, hx226_1, hx226_2⟩ := at_T39 (Kd.R_reads' HO225.out).2.2 x9_2 p226 q226; cases e226; replace p226 := eq_true p226; replace q226 := eq_true q226) | (go_at_call 17; (with_reducible refine (tocsinref1_Of.calls k2 ((rd_T39 t223 x9_2).f0) ((rd_T39 t223 x9_2).f1) ((rd_T39 t223 x9_2).f2) a1 t227 _ A40.out).mono ?_); rintro e w49 ⟨rfl, hb⟩; have n0_ := Aside0.mk (Kd.R_below (by (with_reducible repeat (first | apply Kd.R_alloc | apply Kd.R_drewN | apply Kd.R_drew)); exact HO218.out) hb); have n1_ := Aside0.mk (Kd.R_below (by (with_reducible repeat (first | apply Kd.R_alloc | apply Kd.R_drewN | apply Kd.R_drew)); exact HO225.out) hb); have n2_ := Aside0.mk (below_step (by repeat (first | (with_reducible first | exact HB.out | apply below_alloc | apply pw_below_drewN | apply below_drew1) | exact HB.out)) hb); clear HO218; clear HO225; clear HB; have HO218 := n0_; have HO225 := n1_; have HB := n2_; clear n0_ n1_ n2_; (try clear hb); (try clear hb2); (try clear hk); (try clear hi)))
                            go_roundg k2
                            case measure => have := HJ9.out; have := HK2.out; omega
                            case rel => exact ⟨(wrap64 (x9_2 + 1)), (by first | rfl | (simp; done) | (simp [*]; done)), H', ⟨by have := HJ9.out; have := HK2.out; omega⟩, ⟨by repeat (first | (with_reducible first | exact HB.out | apply below_alloc | apply pw_below_drewN | apply below_drew1) | exact HB.out)⟩⟩
                          · rw [if_neg c41] at H
                            have c41b0 : (t222 == t227) = false := beq_eq_false_iff_ne.mpr c41
                            have c41b1 : (t222 != t227) = true := bne_iff_ne.mpr c41
                            obtain rfl := Option.some.inj H
                            have p214 : 0 ≤ (x9_2 : Int) := of_decide_eq_true (by first | (with_reducible assumption) | assumption)
                            have q214 : x9_2 < (l0.length : Int) := of_decide_eq_true (by first | (with_reducible assumption) | assumption)
                            obtain ⟨ad214, e214, hx214_0, hx214_1, hx214_2⟩ := at_T27 HR0.out x9_2 p214 q214
                            cases e214
                            replace hx214_0 := (HB.out.cell (World.block_lt_of_cell? w _ hx214_0)).trans hx214_0
                            replace hx214_1 := (HB.out.cell (World.block_lt_of_cell? w _ hx214_1)).trans hx214_1
                            replace hx214_2 := (HB.out.cell (World.block_lt_of_cell? w _ hx214_2)).trans hx214_2
                            replace p214 := eq_true p214
                            replace q214 := eq_true q214
                            go_wp2_with (first | ((with_reducible refine gate_callee (f := 11) rfl ?_); refine goesL_ (some 58) rfl rfl Try.func11 (by kernel_rfl) rfl #[.agg #[.int .i64 ((rd_T27 l0 x9_2).f0), .int .i64 ((rd_T27 l0 x9_2).f1), .int .i64 ((rd_T27 l0 x9_2).f2)]] rfl (by (try simp only [List.map_toArray, List.map_cons, List.map_nil]); first | done | rfl | (simp only [List.length_drop, List.length_take]; rfl)) ?_; (with_reducible refine (demand_Good.calls ((rd_T27 l0 x9_2).f0) ((rd_T27 l0 x9_2).f1) ((rd_T27 l0 x9_2).f2) t215 _ A28.out).mono ?_); rintro e w50 ⟨rfl, hb⟩; refine ⟨_, rfl, ?_⟩; have n0_ := Aside0.mk (below_step (by repeat (first | (with_reducible first | exact HB.out | apply below_alloc | apply pw_below_drewN | apply below_drew1) | exact HB.out)) hb); clear HB; have HB := n0_; clear n0_; (try clear hb); (try clear hb2); (try clear hk); (try clear hi)) | ((with_reducible refine gate_callee (f := 14) rfl ?_); refine goesL_ (some 60) rfl rfl Try.func14 (by kernel_rfl) rfl #[.slice (some ad214) l0.length c0] rfl (by (try simp only [List.map_toArray, List.map_cons, List.map_nil]); first | done | rfl | (simp only [List.length_drop, List.length_take]; rfl)) ?_; (with_reducible refine (tocsinlaw11_own.calls k2 _ _ l0 t216 _ ?side1 ?side2 A29.out).mono ?_); (case side1 => repeat (first | exact (Kd.C_below HR0.out HB.out) | (with_reducible refine Kd.C_alloc ?_ _) | (with_reducible refine Kd.C_drewN ?_ _) | (with_reducible refine Kd.C_drew ?_))); (case side2 => exact HC0.out); rintro e w51 ⟨v217, rfl, ho0, hb⟩; refine ⟨_, rfl, ?_⟩; have n0_ := Aside0.mk (Kd.R_lower ho0 (below_size (by repeat (first | (with_reducible first | exact HB.out | apply below_alloc | apply pw_below_drewN | apply below_drew1) | exact HB.out)))); have n1_ := Aside0.mk (below_step (by repeat (first | (with_reducible first | exact HB.out | apply below_alloc | apply pw_below_drewN | apply below_drew1) | exact HB.out)) hb); clear HB; have HO218 := n0_; have HB := n1_; clear n0_ n1_; (try clear hb); (try clear hb2); (try clear hk); (try clear hi); (try clear ho0); obtain ⟨Ao52, co52, eo52⟩ := Kd.R_slice HO218.out; subst eo52; have p219 : 0 ≤ (x9_2 : Int) := of_decide_eq_true (by first | (with_reducible assumption) | assumption); have q219 : x9_2 < (t216.length : Int) := of_decide_eq_true (by first | (with_reducible assumption) | assumption); obtain ⟨ad219, e219, hx219_0, hx219_1, hx219_2⟩ := at_T39 (Kd.R_reads' HO218.out).2.2 x9_2 p219 q219; cases e219; replace p219 := eq_true p219; replace q219 := eq_true q219) | ((with_reducible refine gate_callee (f := 16) rfl ?_); refine goesL_ (some 64) rfl rfl Try.func16 (by kernel_rfl) rfl #[.agg #[.int .i64 ((rd_T39 t216 x9_2).f0), .int .i64 ((rd_T39 t216 x9_2).f1), .int .i64 ((rd_T39 t216 x9_2).f2)]] rfl (by (try simp only [List.map_toArray, List.map_cons, List.map_nil]); first | done | rfl | (simp only [List.length_drop, List.length_take]; rfl)) ?_; (with_reducible refine (tocsinref1_GoodTask.calls ((rd_T39 t216 x9_2).f0) ((rd_T39 t216 x9_2).f1) ((rd_T39 t216 x9_2).f2) t220 _ A31.out).mono ?_); rintro e w53 ⟨rfl, hb⟩; refine ⟨_, rfl, ?_⟩; have n0_ := Aside0.mk (Kd.R_below (by (with_reducible repeat (first | apply Kd.R_alloc | apply Kd.R_drewN | apply Kd.R_drew)); exact HO218.out) hb); have n1_ := Aside0.mk (below_step (by repeat (first | (with_reducible first | exact HB.out | apply below_alloc | apply pw_below_drewN | apply below_drew1) | exact HB.out)) hb); clear HO218; clear HB; have HO218 := n0_; have HB := n1_; clear n0_ n1_; (try clear hb); (try clear hb2); (try clear hk); (try clear hi); have p221 : 0 ≤ (x9_2 : Int) := of_decide_eq_true (by first | (with_reducible assumption) | assumption); have q221 : x9_2 < (l0.length : Int) := of_decide_eq_true (by first | (with_reducible assumption) | assumption); obtain ⟨ad221, e221, hx221_0, hx221_1, hx221_2⟩ := at_T27 HR0.out x9_2 p221 q221; obtain rfl : ad214 = ad221 := (by injection e221); replace hx221_0 := (HB.out.cell (World.block_lt_of_cell? w _ hx221_0)).trans hx221_0; replace hx221_1 := (HB.out.cell (World.block_lt_of_cell? w _ hx221_1)).trans hx221_1; replace hx221_2 := (HB.out.cell (World.block_lt_of_cell? w _ hx221_2)).trans hx221_2; replace p221 := eq_true p221; replace q221 := eq_true q221) | (go_at_call 10; (with_reducible refine (demand_Of.calls k2 ((rd_T27 l0 x9_2).f0) ((rd_T27 l0 x9_2).f1) ((rd_T27 l0 x9_2).f2) a1 t222 _ A37.out).mono ?_); rintro e w54 ⟨rfl, hb⟩; have n0_ := Aside0.mk (Kd.R_below (by (with_reducible repeat (first | apply Kd.R_alloc | apply Kd.R_drewN | apply Kd.R_drew)); exact HO218.out) hb); have n1_ := Aside0.mk (below_step (by repeat (first | (with_reducible first | exact HB.out | apply below_alloc | apply pw_below_drewN | apply below_drew1) | exact HB.out)) hb); clear HO218; clear HB; have HO218 := n0_; have HB := n1_; clear n0_ n1_; (try clear hb); (try clear hb2); (try clear hk); (try clear hi)) | (go_at_call 14; (with_reducible refine (tocsinlaw11_own.calls k2 _ _ l0 t223 _ ?side1 ?side2 A38.out).mono ?_); (case side1 => repeat (first | exact (Kd.C_below HR0.out HB.out) | (with_reducible refine Kd.C_alloc ?_ _) | (with_reducible refine Kd.C_drewN ?_ _) | (with_reducible refine Kd.C_drew ?_))); (case side2 => exact HC0.out); rintro e w55 ⟨v224, rfl, ho0, hb⟩; have n0_ := Aside0.mk (Kd.R_elder' (by (with_reducible repeat (first | apply Kd.R_alloc | apply Kd.R_drewN | apply Kd.R_drew)); exact HO218.out) (Kd.R_base ho0) hb); have n1_ := Aside0.mk (Kd.R_lower (Kd.R_new' ho0 (Kd.R_lt (by (with_reducible repeat (first | apply Kd.R_alloc | apply Kd.R_drewN | apply Kd.R_drew)); exact HO218.out))) (below_size (by repeat (first | (with_reducible first | exact HB.out | apply below_alloc | apply pw_below_drewN | apply below_drew1) | exact HB.out)))); have n2_ := Aside0.mk (below_step (by repeat (first | (with_reducible first | exact HB.out | apply below_alloc | apply pw_below_drewN | apply below_drew1) | exact HB.out)) hb); clear HO218; clear HB; have HO218 := n0_; have HO225 := n1_; have HB := n2_; clear n0_ n1_ n2_; (try clear hb); (try clear hb2); (try clear hk); (try clear hi); (try clear ho0); obtain ⟨Ao56, co56, eo56⟩ := Kd.R_slice HO225.out; subst eo56; have p226 : 0 ≤ (x9_2 : Int) := of_decide_eq_true (by first | (with_reducible assumption) | assumption); have q226 : x9_2 < (t223.length : Int) := of_decide_eq_true (by first | (with_reducible assumption) | assumption); obtain ⟨ad226, e226, hx226_0, hx226_1, hx226_2⟩ := at_T39 (Kd.R_reads' HO225.out).2.2 x9_2 p226 q226; cases e226; replace p226 := eq_true p226; replace q226 := eq_true q226) | (go_at_call 17; (with_reducible refine (tocsinref1_Of.calls k2 ((rd_T39 t223 x9_2).f0) ((rd_T39 t223 x9_2).f1) ((rd_T39 t223 x9_2).f2) a1 t227 _ A40.out).mono ?_); rintro e w57 ⟨rfl, hb⟩; have n0_ := Aside0.mk (Kd.R_below (by (with_reducible repeat (first | apply Kd.R_alloc | apply Kd.R_drewN | apply Kd.R_drew)); exact HO218.out) hb); have n1_ := Aside0.mk (Kd.R_below (by (with_reducible repeat (first | apply Kd.R_alloc | apply Kd.R_drewN | apply Kd.R_drew)); exact HO225.out) hb); have n2_ := Aside0.mk (below_step (by repeat (first | (with_reducible first | exact HB.out | apply below_alloc | apply pw_below_drewN | apply below_drew1) | exact HB.out)) hb); clear HO218; clear HO225; clear HB; have HO218 := n0_; have HO225 := n1_; have HB := n2_; clear n0_ n1_ n2_; (try clear hb); (try clear hb2); (try clear hk); (try clear hi)))
                            go_ret
                            exact ⟨by first | rfl | (simp [errW_none, errW_some] <;> rfl) | (simp [*, errW_none, errW_some] <;> rfl), by repeat (first | (with_reducible first | exact HB.out | apply below_alloc | apply pw_below_drewN | apply below_drew1) | exact HB.out)⟩
                        · rw [if_neg c39] at H
                          exact absurd H (by simp)
                    · rw [if_neg c30] at H
                      exact absurd H (by simp)
                  · rw [if_neg c27] at H
                    exact absurd H (by simp)
                · rw [if_neg c26] at H
                  have c26b0 : decide (x9_2 < (l0.length : Int)) = false := decide_eq_false c26
                  clear c26
                  have HC58 := Aside0.mk H
                  clear H
                  go_upto_region 14 with (fail)
                  go_cut [87] (fun v87 wc => ∃ (kq : Nat) (x87_57 : Bool), v87 = .bool x87_57 ∧ Aside0 (tocsinlaw11_DemandSays.j2 kq l0 x87_57 = some r) ∧ Aside0 (kq ≤ k2) ∧ Aside0 (Below w.heap.size w wc))
                  case first =>
                    have H := HC58.out
                    clear HC58
                    by_cases c59 : t203 = 0
                    · rw [if_pos c59] at H
                      have c59b0 : (t203 == 0) = true := beq_iff_eq.mpr c59
                      have c59b1 : (t203 != 0) = false := bne_eq_false_iff_eq.mpr c59
                      clear c59
                      (first | rw [c59b0] | (simp only [i64_w, i32_w]; rw [c59b0]) | skip)
                      have H' := Aside0.mk H
                      clear H
                      go_wp2
                      go_meet
                      case rel => exact ⟨_, (decide (t202 > 5000)), (by first | rfl | (simp; done) | (simp [*]; done)), H', ⟨by have := HJ9.out; have := HK2.out; first | omega | exact Nat.le_refl _⟩, ⟨by repeat (first | (with_reducible first | exact HB.out | apply below_alloc | apply pw_below_drewN | apply below_drew1) | exact HB.out)⟩⟩
                    · rw [if_neg c59] at H
                      have c59b0 : (t203 == 0) = false := beq_eq_false_iff_ne.mpr c59
                      have c59b1 : (t203 != 0) = true := bne_iff_ne.mpr c59
                      (first | rw [c59b0] | (simp only [i64_w, i32_w]; rw [c59b0]) | skip)
                      have H' := Aside0.mk H
                      clear H
                      go_wp2
                      go_meet
                      case rel => exact ⟨_, (false), (by first | rfl | (simp; done) | (simp [*]; done)), H', ⟨by have := HJ9.out; have := HK2.out; first | omega | exact Nat.le_refl _⟩, ⟨by repeat (first | (with_reducible first | exact HB.out | apply below_alloc | apply pw_below_drewN | apply below_drew1) | exact HB.out)⟩⟩
                  case rest =>
                    clear HC58
                    try clear c1
                    try clear c2
                    try clear p2
                    try clear q2
                    try clear hx2
                    try clear c3
                    try clear c4
                    try clear c5
                    try clear c5b0
                    try clear c5b1
                    try clear p6
                    try clear c7
                    try clear c8
                    try clear c11
                    try clear c13
                    try clear c14
                    try clear c16
                    try clear c16b0
                    try clear c16b1
                    try clear c17
                    try clear c17b0
                    try clear c17b1
                    try clear p21
                    try clear q21
                    try clear hx21
                    try clear p22
                    try clear q22
                    try clear hx22
                    try clear c25
                    try clear c26
                    try clear c26b0
                    try clear c27
                    try clear c27b0
                    try clear c30
                    try clear c30b0
                    try clear c32
                    try clear c32b0
                    try clear c32b1
                    try clear c32b2
                    try clear c39
                    try clear c39b0
                    try clear c41
                    try clear c41b0
                    try clear c41b1
                    try clear c59
                    try clear c59b0
                    try clear c59b1
                    try clear hx214_0
                    try clear hx214_1
                    try clear hx214_2
                    try clear hx219_0
                    try clear hx219_1
                    try clear hx219_2
                    try clear hx221_0
                    try clear hx221_1
                    try clear hx221_2
                    try clear hx226_0
                    try clear hx226_1
                    try clear hx226_2
                    try clear p2
                    try clear p214
                    try clear p219
                    try clear p221
                    try clear p226
                    try clear q214
                    try clear q219
                    try clear q221
                    try clear q226
                    obtain ⟨kq, x87_57, rfl, HA, HJ57, HB⟩ := hcut
                    cases kq with
                    | zero => exact absurd HA.out (by simp [tocsinlaw11_DemandSays.j2])
                    | succ kj57 =>
                      have H := HA.out
                      clear HA
                      simp only [tocsinlaw11_DemandSays.j2] at H
                      by_cases c60 : x87_57 = true
                      · subst c60
                        have H1 : (some true) = some r := by rw [if_pos rfl] at H; exact H
                        clear H
                        have H := H1
                        clear H1
                        obtain rfl := Option.some.inj H
                        go_wp2
                        go_ret
                        exact ⟨by first | rfl | (simp [errW_none, errW_some] <;> rfl) | (simp [*, errW_none, errW_some] <;> rfl), by repeat (first | (with_reducible first | exact HB.out | apply below_alloc | apply pw_below_drewN | apply below_drew1) | exact HB.out)⟩
                      · replace c60 := Bool.eq_false_iff.mpr c60
                        subst c60
                        have H1 : ((demand_Holds.f kj57 l0).bind fun bt228 => ((tocsinlaw11_own.f kj57 l0).bind fun t230 => ((tocsinref1_Holds.f kj57 t230).bind fun bt233 => (if (bt228.1 == bt233.1) = true then (some (bt228.2 == bt233.2)) else (some false))))) = some r := by rw [if_neg (show ¬ (false = true) by decide)] at H; exact H
                        clear H
                        have H := H1
                        clear H1
                        replace H := Option.bind_eq_some_iff.mp H
                        obtain ⟨⟨t228, t229⟩, A610, H⟩ := H
                        replace H : ((tocsinlaw11_own.f kj57 l0).bind fun t230 => ((tocsinref1_Holds.f kj57 t230).bind fun bt233 => (if (t228 == bt233.1) = true then (some (t229 == bt233.2)) else (some false)))) = some r := H
                        have A61 := Aside0.mk A610
                        clear A610
                        replace H := Option.bind_eq_some_iff.mp H
                        obtain ⟨t230, A620, H⟩ := H
                        replace H : ((tocsinref1_Holds.f kj57 t230).bind fun bt233 => (if (t228 == bt233.1) = true then (some (t229 == bt233.2)) else (some false))) = some r := H
                        have A62 := Aside0.mk A620
                        clear A620
                        replace H := Option.bind_eq_some_iff.mp H
                        obtain ⟨⟨t233, t234⟩, A630, H⟩ := H
                        replace H : (if (t228 == t233) = true then (some (t229 == t234)) else (some false)) = some r := H
                        have A63 := Aside0.mk A630
                        clear A630
                        by_cases c64 : (t228 == t233) = true
                        · rw [if_pos c64] at H
                          have c64b0 : (t228 == t233) = true := c64
                          (try (have c64b1 : decide (t228 = t233) = true := by simpa using c64))
                          (try (have c64b2 : (t228 == t233) = true := by simpa using c64))
                          clear c64
                          obtain rfl := Option.some.inj H
                          go_wp2_with (first | ((with_reducible refine gate_callee (f := 9) rfl ?_); refine goesL_ (some 90) rfl rfl Try.func9 (by kernel_rfl) rfl #[.slice A0 l0.length c0] rfl (by (try simp only [List.map_toArray, List.map_cons, List.map_nil]); first | done | rfl | (simp only [List.length_drop, List.length_take]; rfl)) ?_; (with_reducible refine (demand_Holds.calls kj57 _ _ l0 t228 t229 _ ?side1 ?side2 A61.out).mono ?_); (case side1 => repeat (first | exact (Kd.C_below HR0.out HB.out) | (with_reducible refine Kd.C_alloc ?_ _) | (with_reducible refine Kd.C_drewN ?_ _) | (with_reducible refine Kd.C_drew ?_))); (case side2 => exact HC0.out); rintro e w65 ⟨rfl, hb⟩; refine ⟨_, rfl, ?_⟩; have n0_ := Aside0.mk (below_step (by repeat (first | (with_reducible first | exact HB.out | apply below_alloc | apply pw_below_drewN | apply below_drew1) | exact HB.out)) hb); clear HB; have HB := n0_; clear n0_; (try clear hb); (try clear hb2); (try clear hk); (try clear hi)) | ((with_reducible refine gate_callee (f := 14) rfl ?_); refine goesL_ (some 95) rfl rfl Try.func14 (by kernel_rfl) rfl #[.slice A0 l0.length c0] rfl (by (try simp only [List.map_toArray, List.map_cons, List.map_nil]); first | done | rfl | (simp only [List.length_drop, List.length_take]; rfl)) ?_; (with_reducible refine (tocsinlaw11_own.calls kj57 _ _ l0 t230 _ ?side1 ?side2 A62.out).mono ?_); (case side1 => repeat (first | exact (Kd.C_below HR0.out HB.out) | (with_reducible refine Kd.C_alloc ?_ _) | (with_reducible refine Kd.C_drewN ?_ _) | (with_reducible refine Kd.C_drew ?_))); (case side2 => exact HC0.out); rintro e w66 ⟨v231, rfl, ho0, hb⟩; refine ⟨_, rfl, ?_⟩; have n0_ := Aside0.mk (Kd.R_lower ho0 (below_size (by repeat (first | (with_reducible first | exact HB.out | apply below_alloc | apply pw_below_drewN | apply below_drew1) | exact HB.out)))); have n1_ := Aside0.mk (below_step (by repeat (first | (with_reducible first | exact HB.out | apply below_alloc | apply pw_below_drewN | apply below_drew1) | exact HB.out)) hb); clear HB; have HO232 := n0_; have HB := n1_; clear n0_ n1_; (try clear hb); (try clear hb2); (try clear hk); (try clear hi); (try clear ho0); obtain ⟨Ao67, co67, eo67⟩ := Kd.R_slice HO232.out; subst eo67) | ((with_reducible refine gate_callee (f := 18) rfl ?_); refine goesL_ (some 96) rfl rfl Try.func18 (by kernel_rfl) rfl #[.slice Ao67 t230.length co67] rfl (by (try simp only [List.map_toArray, List.map_cons, List.map_nil]); first | done | rfl | (simp only [List.length_drop, List.length_take]; rfl)) ?_; (with_reducible refine (tocsinref1_Holds.calls kj57 _ _ t230 t233 t234 _ ?side1 ?side2 A63.out).mono ?_); (case side1 => repeat (first | exact (Kd.R_reads' HO232.out).2.2 | (with_reducible refine Kd.C_alloc ?_ _) | (with_reducible refine Kd.C_drewN ?_ _) | (with_reducible refine Kd.C_drew ?_))); (case side2 => exact (Kd.R_reads' HO232.out).2.1); rintro e w68 ⟨rfl, hb⟩; refine ⟨_, rfl, ?_⟩; have n0_ := Aside0.mk (Kd.R_below (by (with_reducible repeat (first | apply Kd.R_alloc | apply Kd.R_drewN | apply Kd.R_drew)); exact HO232.out) hb); have n1_ := Aside0.mk (below_step (by repeat (first | (with_reducible first | exact HB.out | apply below_alloc | apply pw_below_drewN | apply below_drew1) | exact HB.out)) hb); clear HO232; clear HB; have HO232 := n0_; have HB := n1_; clear n0_ n1_; (try clear hb); (try clear hb2); (try clear hk); (try clear hi)))
                          go_ret
                          exact ⟨by first | rfl | (simp [errW_none, errW_some] <;> rfl) | (simp [*, errW_none, errW_some] <;> rfl), by repeat (first | (with_reducible first | exact HB.out | apply below_alloc | apply pw_below_drewN | apply below_drew1) | exact HB.out)⟩
                        · rw [if_neg c64] at H
                          have c64b0 : (t228 == t233) = false := by simpa using c64
                          (try (have c64b1 : decide (t228 = t233) = false := by simpa using c64))
                          (try (have c64b2 : (t228 == t233) = false := by simpa using c64))
                          (try (have c64b3 : ¬ (t228 = t233) := by simpa using c64))
                          clear c64
                          obtain rfl := Option.some.inj H
                          go_wp2_with (first | ((with_reducible refine gate_callee (f := 9) rfl ?_); refine goesL_ (some 90) rfl rfl Try.func9 (by kernel_rfl) rfl #[.slice A0 l0.length c0] rfl (by (try simp only [List.map_toArray, List.map_cons, List.map_nil]); first | done | rfl | (simp only [List.length_drop, List.length_take]; rfl)) ?_; (with_reducible refine (demand_Holds.calls kj57 _ _ l0 t228 t229 _ ?side1 ?side2 A61.out).mono ?_); (case side1 => repeat (first | exact (Kd.C_below HR0.out HB.out) | (with_reducible refine Kd.C_alloc ?_ _) | (with_reducible refine Kd.C_drewN ?_ _) | (with_reducible refine Kd.C_drew ?_))); (case side2 => exact HC0.out); rintro e w69 ⟨rfl, hb⟩; refine ⟨_, rfl, ?_⟩; have n0_ := Aside0.mk (below_step (by repeat (first | (with_reducible first | exact HB.out | apply below_alloc | apply pw_below_drewN | apply below_drew1) | exact HB.out)) hb); clear HB; have HB := n0_; clear n0_; (try clear hb); (try clear hb2); (try clear hk); (try clear hi)) | ((with_reducible refine gate_callee (f := 14) rfl ?_); refine goesL_ (some 95) rfl rfl Try.func14 (by kernel_rfl) rfl #[.slice A0 l0.length c0] rfl (by (try simp only [List.map_toArray, List.map_cons, List.map_nil]); first | done | rfl | (simp only [List.length_drop, List.length_take]; rfl)) ?_; (with_reducible refine (tocsinlaw11_own.calls kj57 _ _ l0 t230 _ ?side1 ?side2 A62.out).mono ?_); (case side1 => repeat (first | exact (Kd.C_below HR0.out HB.out) | (with_reducible refine Kd.C_alloc ?_ _) | (with_reducible refine Kd.C_drewN ?_ _) | (with_reducible refine Kd.C_drew ?_))); (case side2 => exact HC0.out); rintro e w70 ⟨v231, rfl, ho0, hb⟩; refine ⟨_, rfl, ?_⟩; have n0_ := Aside0.mk (Kd.R_lower ho0 (below_size (by repeat (first | (with_reducible first | exact HB.out | apply below_alloc | apply pw_below_drewN | apply below_drew1) | exact HB.out)))); have n1_ := Aside0.mk (below_step (by repeat (first | (with_reducible first | exact HB.out | apply below_alloc | apply pw_below_drewN | apply below_drew1) | exact HB.out)) hb); clear HB; have HO232 := n0_; have HB := n1_; clear n0_ n1_; (try clear hb); (try clear hb2); (try clear hk); (try clear hi); (try clear ho0); obtain ⟨Ao71, co71, eo71⟩ := Kd.R_slice HO232.out; subst eo71) | ((with_reducible refine gate_callee (f := 18) rfl ?_); refine goesL_ (some 96) rfl rfl Try.func18 (by kernel_rfl) rfl #[.slice Ao71 t230.length co71] rfl (by (try simp only [List.map_toArray, List.map_cons, List.map_nil]); first | done | rfl | (simp only [List.length_drop, List.length_take]; rfl)) ?_; (with_reducible refine (tocsinref1_Holds.calls kj57 _ _ t230 t233 t234 _ ?side1 ?side2 A63.out).mono ?_); (case side1 => repeat (first | exact (Kd.R_reads' HO232.out).2.2 | (with_reducible refine Kd.C_alloc ?_ _) | (with_reducible refine Kd.C_drewN ?_ _) | (with_reducible refine Kd.C_drew ?_))); (case side2 => exact (Kd.R_reads' HO232.out).2.1); rintro e w72 ⟨rfl, hb⟩; refine ⟨_, rfl, ?_⟩; have n0_ := Aside0.mk (Kd.R_below (by (with_reducible repeat (first | apply Kd.R_alloc | apply Kd.R_drewN | apply Kd.R_drew)); exact HO232.out) hb); have n1_ := Aside0.mk (below_step (by repeat (first | (with_reducible first | exact HB.out | apply below_alloc | apply pw_below_drewN | apply below_drew1) | exact HB.out)) hb); clear HO232; clear HB; have HO232 := n0_; have HB := n1_; clear n0_ n1_; (try clear hb); (try clear hb2); (try clear hk); (try clear hi)))
                          go_ret
                          exact ⟨by first | rfl | (simp [errW_none, errW_some] <;> rfl) | (simp [*, errW_none, errW_some] <;> rfl), by repeat (first | (with_reducible first | exact HB.out | apply below_alloc | apply pw_below_drewN | apply below_drew1) | exact HB.out)⟩
  · replace c4 := Bool.eq_false_iff.mpr c4
    subst c4
    have H1 : (some false) = some r := by rw [if_neg (show ¬ (false = true) by decide)] at H; exact H
    clear H
    have H := H1
    clear H1
    obtain rfl := Option.some.inj H
    go_enter Try.func4, Try.ntmps4
    go_wp2_with (first | ((with_reducible refine gate_callee (f := 7) rfl ?_); refine goesL_ (some 14) rfl rfl Try.func7 (by kernel_rfl) rfl #[] rfl (by (try simp only [List.map_toArray, List.map_cons, List.map_nil]); first | done | rfl | (simp only [List.length_drop, List.length_take]; rfl)) ?_; (with_reducible refine (tocsinlaw11_awake.calls k  false _ A3.out).mono ?_); rintro e w73 ⟨rfl, hb⟩; refine ⟨_, rfl, ?_⟩; have n0_ := Aside0.mk (below_step (by repeat (first | (with_reducible first | exact HB.out | apply below_alloc | apply pw_below_drewN | apply below_drew1) | exact HB.out)) hb); clear HB; have HB := n0_; clear n0_; (try clear hb); (try clear hb2); (try clear hk); (try clear hi)))
    go_ret
    exact ⟨by first | rfl | (simp [errW_none, errW_some] <;> rfl) | (simp [*, errW_none, errW_some] <;> rfl), by repeat (first | (with_reducible first | exact HB.out | apply below_alloc | apply pw_below_drewN | apply below_drew1) | exact HB.out)⟩

-- NOT PRINTED: function 3 (tocsinlaw11_DemandKnown)

end Go.Proofs.Yticnfjoodcacmaa.PDemB
