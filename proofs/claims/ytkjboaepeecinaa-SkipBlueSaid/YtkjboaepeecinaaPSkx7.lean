-- functions and contracts as the kit's print.py writes them, the roots chosen in this session (wip/proots.sh)
import Derived.Test.YtkjboaepeecinaaPSkx0
import Derived.Test.YtkjboaepeecinaaSkRun
import Derived.Test.YtkjboaepeecinaaPSkx4
namespace Go.Proofs.Ytkjboaepeecinaa.PSk
open Go.RowKit Go.Proofs.YtkjboaepeecinaaW.PrintWords Go.Proofs.YtkjboaepeecinaaW.PrintLast Go.Proofs.YtkjboaepeecinaaW.PrintMore
attribute [local go_sem] max2_int min2_int max_two min_two max_three min_three max_four min_four   -- for this text's walks alone
set_option linter.unusedVariables false
set_option linter.unusedSimpArgs false

/-! ### tocsinlaw21_SkipBlue: function 3 -/
mutual
def tocsinlaw21_SkipBlue.j0 : Nat → List (S35) → Int → Int → Int → Bool → List Int → List (S33) → List Int → List (S33) → Option (Bool)
  | 0, _, _, _, _, _, _, _, _, _ => none
  | k + 1, x0, x1, x6, x8, x37, x207000, x207001, x215000, x215001 => if x37 = true then (some (x6 == x8)) else (tocsinlaw21_SkipBlue.l0 k x0 x1 0 x207000 x207001 x215000 x215001)
def tocsinlaw21_SkipBlue.l0 : Nat → List (S35) → Int → Int → List Int → List (S33) → List Int → List (S33) → Option (Bool)
  | 0, _, _, _, _, _, _, _ => none
  | k + 1, x0, x1, x9, x207000, x207001, x215000, x215001 => if x9 < (x0.length : Int) then (tocsinlaw21_SkipBlue.l1 k x0 x1 x9 0 0 x207000 x207001 x215000 x215001) else (if (x207001.length : Int) = (x215001.length : Int) then (some ((x207000.length : Int) == (x215000.length : Int))) else (some false))
def tocsinlaw21_SkipBlue.l1 : Nat → List (S35) → Int → Int → Int → Int → List Int → List (S33) → List Int → List (S33) → Option (Bool)
  | 0, _, _, _, _, _, _, _, _, _ => none
  | k + 1, x0, x1, x9, x10, x11, x207000, x207001, x215000, x215001 => if x11 < (x215001.length : Int) then (if 0 ≤ x11 then (if ((rd_T33 x215001 x11).f0) = x9 then (if ((rd_T33 x215001 x11).f1) = x10 then (tocsinlaw21_SkipBlue.l1 k x0 x1 x9 (wrap64 (x10 + 1)) (wrap64 (x11 + 1)) x207000 x207001 x215000 x215001) else (some false)) else (tocsinlaw21_SkipBlue.l1 k x0 x1 x9 x10 (wrap64 (x11 + 1)) x207000 x207001 x215000 x215001)) else (none)) else (if x1 > 0 then (if 0 ≤ x9 then (if x9 < (x0.length : Int) then (tocsinlaw21_SkipBlue.j3 k x0 x1 x9 x10 0 (decide (((rd_T35 x0 x9).f0) > 0)) x207000 x207001 x215000 x215001) else (none)) else (none)) else (tocsinlaw21_SkipBlue.j3 k x0 x1 x9 x10 0 false x207000 x207001 x215000 x215001))
def tocsinlaw21_SkipBlue.j3 : Nat → List (S35) → Int → Int → Int → Int → Bool → List Int → List (S33) → List Int → List (S33) → Option (Bool)
  | 0, _, _, _, _, _, _, _, _, _, _ => none
  | k + 1, x0, x1, x9, x10, x12, x81, x207000, x207001, x215000, x215001 => if x81 = true then (if 0 ≤ x9 then (if x9 < (x0.length : Int) then (if ((rd_T35 x0 x9).f0) = 0 then (none) else (if x10 = (wrap64 (Int.tdiv (wrap64 (x1 - 1)) ((rd_T35 x0 x9).f0))) then (tocsinlaw21_SkipBlue.l0 k x0 x1 (wrap64 (x9 + 1)) x207000 x207001 x215000 x215001) else (some false))) else (none)) else (none)) else (if x10 = x12 then (tocsinlaw21_SkipBlue.l0 k x0 x1 (wrap64 (x9 + 1)) x207000 x207001 x215000 x215001) else (some false))
end
def tocsinlaw21_SkipBlue.f (k : Nat) (l0 : List (S35)) (a1 : Int) : Option (Bool) := (tocsinlaw21_awake.f k).bind fun t197 => (if t197 = true then ((tocsinlaw21_light.f k l0 a1).bind fun t198 => (if t198 = true then ((skip_Run.f l0 false a1).bind fun bt199 => ((skip_Run.f l0 true a1).bind fun bt207 => (if bt199.2.2 = bt207.2.2 then (tocsinlaw21_SkipBlue.j0 k l0 a1 bt199.2.2 bt207.2.2 (bt199.2.2 != 0) bt199.1 bt199.2.1 bt207.1 bt207.2.1) else (tocsinlaw21_SkipBlue.j0 k l0 a1 bt199.2.2 bt207.2.2 true bt199.1 bt199.2.1 bt207.1 bt207.2.1)))) else (some true))) else (some false))
theorem tocsinlaw21_SkipBlue.mono_l : ∀ k, (∀ y0 y1 y2 y3 y4 y5 y6 y7 y8, LeO (tocsinlaw21_SkipBlue.j0 k y0 y1 y2 y3 y4 y5 y6 y7 y8) (tocsinlaw21_SkipBlue.j0 (k + 1) y0 y1 y2 y3 y4 y5 y6 y7 y8)) ∧ (∀ y0 y1 y2 y3 y4 y5 y6, LeO (tocsinlaw21_SkipBlue.l0 k y0 y1 y2 y3 y4 y5 y6) (tocsinlaw21_SkipBlue.l0 (k + 1) y0 y1 y2 y3 y4 y5 y6)) ∧ (∀ y0 y1 y2 y3 y4 y5 y6 y7 y8, LeO (tocsinlaw21_SkipBlue.l1 k y0 y1 y2 y3 y4 y5 y6 y7 y8) (tocsinlaw21_SkipBlue.l1 (k + 1) y0 y1 y2 y3 y4 y5 y6 y7 y8)) ∧ (∀ y0 y1 y2 y3 y4 y5 y6 y7 y8 y9, LeO (tocsinlaw21_SkipBlue.j3 k y0 y1 y2 y3 y4 y5 y6 y7 y8 y9) (tocsinlaw21_SkipBlue.j3 (k + 1) y0 y1 y2 y3 y4 y5 y6 y7 y8 y9))
  | 0 => ⟨fun _ _ _ _ _ _ _ _ _ r h => by simp [tocsinlaw21_SkipBlue.j0] at h, fun _ _ _ _ _ _ _ r h => by simp [tocsinlaw21_SkipBlue.l0] at h, fun _ _ _ _ _ _ _ _ _ r h => by simp [tocsinlaw21_SkipBlue.l1] at h, fun _ _ _ _ _ _ _ _ _ _ r h => by simp [tocsinlaw21_SkipBlue.j3] at h⟩
  | k + 1 => by
    obtain ⟨ih0, ih1, ih2, ih3⟩ := tocsinlaw21_SkipBlue.mono_l k
    refine ⟨?_, ?_, ?_, ?_⟩
    · intro y0 y1 y2 y3 y4 y5 y6 y7 y8
      unfold tocsinlaw21_SkipBlue.j0
      repeat' first
      | (with_reducible exact ih0 _ _ _ _ _ _ _ _ _)
      | (with_reducible exact ih1 _ _ _ _ _ _ _)
      | (with_reducible exact ih2 _ _ _ _ _ _ _ _ _)
      | (with_reducible exact ih3 _ _ _ _ _ _ _ _ _ _)
      | (with_reducible exact tocsinlaw21_awake.mono _)
      | (with_reducible exact tocsinlaw21_light.mono _ _ _)
      | (with_reducible exact LeO.refl _)
      | (with_reducible exact LeO.none _)
      | (with_reducible refine LeO.ite ?_ ?_)
      | (with_reducible refine LeO.bind ?_ (fun _ => ?_))
      | exact ih0 _ _ _ _ _ _ _ _ _
      | exact ih1 _ _ _ _ _ _ _
      | exact ih2 _ _ _ _ _ _ _ _ _
      | exact ih3 _ _ _ _ _ _ _ _ _ _
      | exact tocsinlaw21_awake.mono _
      | exact tocsinlaw21_light.mono _ _ _
      | exact LeO.none _
      | refine LeO.ite ?_ ?_
      | refine LeO.bind ?_ (fun _ => ?_)
    · intro y0 y1 y2 y3 y4 y5 y6
      unfold tocsinlaw21_SkipBlue.l0
      repeat' first
      | (with_reducible exact ih0 _ _ _ _ _ _ _ _ _)
      | (with_reducible exact ih1 _ _ _ _ _ _ _)
      | (with_reducible exact ih2 _ _ _ _ _ _ _ _ _)
      | (with_reducible exact ih3 _ _ _ _ _ _ _ _ _ _)
      | (with_reducible exact tocsinlaw21_awake.mono _)
      | (with_reducible exact tocsinlaw21_light.mono _ _ _)
      | (with_reducible exact LeO.refl _)
      | (with_reducible exact LeO.none _)
      | (with_reducible refine LeO.ite ?_ ?_)
      | (with_reducible refine LeO.bind ?_ (fun _ => ?_))
      | exact ih0 _ _ _ _ _ _ _ _ _
      | exact ih1 _ _ _ _ _ _ _
      | exact ih2 _ _ _ _ _ _ _ _ _
      | exact ih3 _ _ _ _ _ _ _ _ _ _
      | exact tocsinlaw21_awake.mono _
      | exact tocsinlaw21_light.mono _ _ _
      | exact LeO.none _
      | refine LeO.ite ?_ ?_
      | refine LeO.bind ?_ (fun _ => ?_)
    · intro y0 y1 y2 y3 y4 y5 y6 y7 y8
      unfold tocsinlaw21_SkipBlue.l1
      repeat' first
      | (with_reducible exact ih0 _ _ _ _ _ _ _ _ _)
      | (with_reducible exact ih1 _ _ _ _ _ _ _)
      | (with_reducible exact ih2 _ _ _ _ _ _ _ _ _)
      | (with_reducible exact ih3 _ _ _ _ _ _ _ _ _ _)
      | (with_reducible exact tocsinlaw21_awake.mono _)
      | (with_reducible exact tocsinlaw21_light.mono _ _ _)
      | (with_reducible exact LeO.refl _)
      | (with_reducible exact LeO.none _)
      | (with_reducible refine LeO.ite ?_ ?_)
      | (with_reducible refine LeO.bind ?_ (fun _ => ?_))
      | exact ih0 _ _ _ _ _ _ _ _ _
      | exact ih1 _ _ _ _ _ _ _
      | exact ih2 _ _ _ _ _ _ _ _ _
      | exact ih3 _ _ _ _ _ _ _ _ _ _
      | exact tocsinlaw21_awake.mono _
      | exact tocsinlaw21_light.mono _ _ _
      | exact LeO.none _
      | refine LeO.ite ?_ ?_
      | refine LeO.bind ?_ (fun _ => ?_)
    · intro y0 y1 y2 y3 y4 y5 y6 y7 y8 y9
      unfold tocsinlaw21_SkipBlue.j3
      repeat' first
      | (with_reducible exact ih0 _ _ _ _ _ _ _ _ _)
      | (with_reducible exact ih1 _ _ _ _ _ _ _)
      | (with_reducible exact ih2 _ _ _ _ _ _ _ _ _)
      | (with_reducible exact ih3 _ _ _ _ _ _ _ _ _ _)
      | (with_reducible exact tocsinlaw21_awake.mono _)
      | (with_reducible exact tocsinlaw21_light.mono _ _ _)
      | (with_reducible exact LeO.refl _)
      | (with_reducible exact LeO.none _)
      | (with_reducible refine LeO.ite ?_ ?_)
      | (with_reducible refine LeO.bind ?_ (fun _ => ?_))
      | exact ih0 _ _ _ _ _ _ _ _ _
      | exact ih1 _ _ _ _ _ _ _
      | exact ih2 _ _ _ _ _ _ _ _ _
      | exact ih3 _ _ _ _ _ _ _ _ _ _
      | exact tocsinlaw21_awake.mono _
      | exact tocsinlaw21_light.mono _ _ _
      | exact LeO.none _
      | refine LeO.ite ?_ ?_
      | refine LeO.bind ?_ (fun _ => ?_)
theorem tocsinlaw21_SkipBlue.mono : ∀ a0 a1 k, LeO (tocsinlaw21_SkipBlue.f k a0 a1) (tocsinlaw21_SkipBlue.f (k + 1) a0 a1) := by
  intro a0 a1 k
  obtain ⟨ih0, ih1, ih2, ih3⟩ := tocsinlaw21_SkipBlue.mono_l k
  unfold tocsinlaw21_SkipBlue.f
  repeat' first
      | (with_reducible exact ih0 _ _ _ _ _ _ _ _ _)
      | (with_reducible exact ih1 _ _ _ _ _ _ _)
      | (with_reducible exact ih2 _ _ _ _ _ _ _ _ _)
      | (with_reducible exact ih3 _ _ _ _ _ _ _ _ _ _)
      | (with_reducible exact tocsinlaw21_awake.mono _)
      | (with_reducible exact tocsinlaw21_light.mono _ _ _)
      | (with_reducible exact LeO.refl _)
      | (with_reducible exact LeO.none _)
      | (with_reducible refine LeO.ite ?_ ?_)
      | (with_reducible refine LeO.bind ?_ (fun _ => ?_))
      | exact ih0 _ _ _ _ _ _ _ _ _
      | exact ih1 _ _ _ _ _ _ _
      | exact ih2 _ _ _ _ _ _ _ _ _
      | exact ih3 _ _ _ _ _ _ _ _ _ _
      | exact tocsinlaw21_awake.mono _
      | exact tocsinlaw21_light.mono _ _ _
      | exact LeO.none _
      | refine LeO.ite ?_ ?_
      | refine LeO.bind ?_ (fun _ => ?_)
set_option maxHeartbeats 8000000 in
set_option maxRecDepth 100000 in
theorem tocsinlaw21_SkipBlue.calls (k : Nat) (A0 : Option Addr) (c0 : Nat) (l0 : List (S35)) (a1 : Int) (r : Bool) (w : World) (hr0 : Kd.C k35 w A0 l0.length l0) (hc0 : l0.length ≤ c0) (h : tocsinlaw21_SkipBlue.f k l0 a1 = some r) :
    Calls Try.prog 3 #[.slice A0 l0.length c0, .int .i64 a1] w fun e w' => e = .returned (.bool r) ∧ Below w.heap.size w w' := by
  have hu28 := Try.underlying28
  have HR0 := Aside0.mk hr0
  have HC0 := Aside0.mk hc0
  clear hr0 hc0
  have HB := Aside0.mk (Below.refl w.heap.size w)
  have H : ((tocsinlaw21_awake.f k).bind fun t197 => (if t197 = true then ((tocsinlaw21_light.f k l0 a1).bind fun t198 => (if t198 = true then ((skip_Run.f l0 false a1).bind fun bt199 => ((skip_Run.f l0 true a1).bind fun bt207 => (if bt199.2.2 = bt207.2.2 then (tocsinlaw21_SkipBlue.j0 k l0 a1 bt199.2.2 bt207.2.2 (bt199.2.2 != 0) bt199.1 bt199.2.1 bt207.1 bt207.2.1) else (tocsinlaw21_SkipBlue.j0 k l0 a1 bt199.2.2 bt207.2.2 true bt199.1 bt199.2.1 bt207.1 bt207.2.1)))) else (some true))) else (some false))) = some r := h
  clear h
  replace H := Option.bind_eq_some_iff.mp H
  obtain ⟨t197, A30, H⟩ := H
  replace H : (if t197 = true then ((tocsinlaw21_light.f k l0 a1).bind fun t198 => (if t198 = true then ((skip_Run.f l0 false a1).bind fun bt199 => ((skip_Run.f l0 true a1).bind fun bt207 => (if bt199.2.2 = bt207.2.2 then (tocsinlaw21_SkipBlue.j0 k l0 a1 bt199.2.2 bt207.2.2 (bt199.2.2 != 0) bt199.1 bt199.2.1 bt207.1 bt207.2.1) else (tocsinlaw21_SkipBlue.j0 k l0 a1 bt199.2.2 bt207.2.2 true bt199.1 bt199.2.1 bt207.1 bt207.2.1)))) else (some true))) else (some false)) = some r := H
  have A3 := Aside0.mk A30
  clear A30
  by_cases c4 : t197 = true
  · subst c4
    have H1 : ((tocsinlaw21_light.f k l0 a1).bind fun t198 => (if t198 = true then ((skip_Run.f l0 false a1).bind fun bt199 => ((skip_Run.f l0 true a1).bind fun bt207 => (if bt199.2.2 = bt207.2.2 then (tocsinlaw21_SkipBlue.j0 k l0 a1 bt199.2.2 bt207.2.2 (bt199.2.2 != 0) bt199.1 bt199.2.1 bt207.1 bt207.2.1) else (tocsinlaw21_SkipBlue.j0 k l0 a1 bt199.2.2 bt207.2.2 true bt199.1 bt199.2.1 bt207.1 bt207.2.1)))) else (some true))) = some r := by rw [if_pos rfl] at H; exact H
    clear H
    have H := H1
    clear H1
    replace H := Option.bind_eq_some_iff.mp H
    obtain ⟨t198, A50, H⟩ := H
    replace H : (if t198 = true then ((skip_Run.f l0 false a1).bind fun bt199 => ((skip_Run.f l0 true a1).bind fun bt207 => (if bt199.2.2 = bt207.2.2 then (tocsinlaw21_SkipBlue.j0 k l0 a1 bt199.2.2 bt207.2.2 (bt199.2.2 != 0) bt199.1 bt199.2.1 bt207.1 bt207.2.1) else (tocsinlaw21_SkipBlue.j0 k l0 a1 bt199.2.2 bt207.2.2 true bt199.1 bt199.2.1 bt207.1 bt207.2.1)))) else (some true)) = some r := H
    have A5 := Aside0.mk A50
    clear A50
    by_cases c6 : t198 = true
    · subst c6
      have H1 : ((skip_Run.f l0 false a1).bind fun bt199 => ((skip_Run.f l0 true a1).bind fun bt207 => (if bt199.2.2 = bt207.2.2 then (tocsinlaw21_SkipBlue.j0 k l0 a1 bt199.2.2 bt207.2.2 (bt199.2.2 != 0) bt199.1 bt199.2.1 bt207.1 bt207.2.1) else (tocsinlaw21_SkipBlue.j0 k l0 a1 bt199.2.2 bt207.2.2 true bt199.1 bt199.2.1 bt207.1 bt207.2.1)))) = some r := by rw [if_pos rfl] at H; exact H
      clear H
      have H := H1
      clear H1
      replace H := Option.bind_eq_some_iff.mp H
      obtain ⟨⟨t199, t202, t205⟩, A70, H⟩ := H
      replace H : ((skip_Run.f l0 true a1).bind fun bt207 => (if t205 = bt207.2.2 then (tocsinlaw21_SkipBlue.j0 k l0 a1 t205 bt207.2.2 (t205 != 0) t199 t202 bt207.1 bt207.2.1) else (tocsinlaw21_SkipBlue.j0 k l0 a1 t205 bt207.2.2 true t199 t202 bt207.1 bt207.2.1))) = some r := H
      have A7 := Aside0.mk A70
      clear A70
      replace H := Option.bind_eq_some_iff.mp H
      obtain ⟨⟨t207, t210, t213⟩, A80, H⟩ := H
      replace H : (if t205 = t213 then (tocsinlaw21_SkipBlue.j0 k l0 a1 t205 t213 (t205 != 0) t199 t202 t207 t210) else (tocsinlaw21_SkipBlue.j0 k l0 a1 t205 t213 true t199 t202 t207 t210)) = some r := H
      have A8 := Aside0.mk A80
      clear A80
      have HC9 := Aside0.mk H
      clear H
      go_enter Try.func3, Try.ntmps3
      go_upto_region 7 with (first | ((with_reducible refine gate_callee (f := 9) rfl ?_); refine goesL_ (some 13) rfl rfl Try.func9 (by kernel_rfl) rfl #[] rfl (by (try simp only [List.map_toArray, List.map_cons, List.map_nil]); first | done | rfl | (simp only [List.length_drop, List.length_take]; rfl)) ?_; (with_reducible refine (tocsinlaw21_awake.calls k  true _ A3.out).mono ?_); rintro e w10 ⟨rfl, hb⟩; refine ⟨_, rfl, ?_⟩; have n0_ := Aside0.mk (below_step (by repeat (first | (with_reducible first | exact HB.out | apply below_alloc | apply pw_below_drewN | apply below_drew1) | exact HB.out)) hb); clear HB; have HB := n0_; clear n0_; (try clear hb); (try clear hb2); (try clear hk); (try clear hi)) | ((with_reducible refine gate_callee (f := 10) rfl ?_); refine goesL_ (some 17) rfl rfl Try.func10 (by kernel_rfl) rfl #[.slice A0 l0.length c0, .int .i64 a1] rfl (by (try simp only [List.map_toArray, List.map_cons, List.map_nil]); first | done | rfl | (simp only [List.length_drop, List.length_take]; rfl)) ?_; (with_reducible refine (tocsinlaw21_light.calls k _ _ l0 a1 true _ ?side1 ?side2 A5.out).mono ?_); (case side1 => repeat (first | exact (Kd.C_below HR0.out HB.out) | (with_reducible refine Kd.C_alloc ?_ _) | (with_reducible refine Kd.C_drewN ?_ _) | (with_reducible refine Kd.C_drew ?_))); (case side2 => exact HC0.out); rintro e w11 ⟨rfl, hb⟩; refine ⟨_, rfl, ?_⟩; have n0_ := Aside0.mk (below_step (by repeat (first | (with_reducible first | exact HB.out | apply below_alloc | apply pw_below_drewN | apply below_drew1) | exact HB.out)) hb); clear HB; have HB := n0_; clear n0_; (try clear hb); (try clear hb2); (try clear hk); (try clear hi)) | ((with_reducible refine gate_callee (f := 11) rfl ?_); refine goesL_ (some 22) rfl rfl Try.func11 (by kernel_rfl) rfl #[.slice A0 l0.length c0, .bool false, .int .i64 a1] rfl (by (try simp only [List.map_toArray, List.map_cons, List.map_nil]); first | done | rfl | (simp only [List.length_drop, List.length_take]; rfl)) ?_; (with_reducible refine (skip_Run.calls _ _ l0 false a1 t199 t202 t205 _ ?side1 ?side2 A7.out).mono ?_); (case side1 => repeat (first | exact (Kd.C_below HR0.out HB.out) | (with_reducible refine Kd.C_alloc ?_ _) | (with_reducible refine Kd.C_drewN ?_ _) | (with_reducible refine Kd.C_drew ?_))); (case side2 => exact HC0.out); rintro e w12 ⟨v200, v203, rfl, ho0, ho1, hb⟩; refine ⟨_, rfl, ?_⟩; have n0_ := Aside0.mk (Kd.R_lower ho0 (below_size (by repeat (first | (with_reducible first | exact HB.out | apply below_alloc | apply pw_below_drewN | apply below_drew1) | exact HB.out)))); have n1_ := Aside0.mk (Kd.R_lower ho1 (below_size (by repeat (first | (with_reducible first | exact HB.out | apply below_alloc | apply pw_below_drewN | apply below_drew1) | exact HB.out)))); have n2_ := Aside0.mk (below_step (by repeat (first | (with_reducible first | exact HB.out | apply below_alloc | apply pw_below_drewN | apply below_drew1) | exact HB.out)) hb); clear HB; have HO201 := n0_; have HO204 := n1_; have HB := n2_; clear n0_ n1_ n2_; (try clear hb); (try clear hb2); (try clear hk); (try clear hi); (try clear ho0); (try clear ho1)) | ((with_reducible refine gate_dst (N := 5) rfl ?_); (try (refine gate_guard (by rfl) ?_; dsimp only)); refine box_event ?hg (N := 5) ?hd (cs := #[.slice none 0 0, .slice none 0 0]) (t := 28) ?hr ?_; (case hd => rfl); (case hg => rfl); (case hr => first | (go_simp; done) | (go_simp; rfl)); intro gb206 hg w13 hbox hb; have n0_ := Aside0.mk (Kd.R_below (by (with_reducible repeat (first | apply Kd.R_alloc | apply Kd.R_drewN | apply Kd.R_drew)); exact HO201.out) hb); have n1_ := Aside0.mk (Kd.R_below (by (with_reducible repeat (first | apply Kd.R_alloc | apply Kd.R_drewN | apply Kd.R_drew)); exact HO204.out) hb); have n2_ := Aside0.mk (below_step (by repeat (first | (with_reducible first | exact HB.out | apply below_alloc | apply pw_below_drewN | apply below_drew1) | exact HB.out)) hb); have n3_ := Aside0.mk (hbox); have n4_ := Aside0.mk ((by rw [hg]; exact (below_size (by repeat (first | (with_reducible first | exact HB.out | apply below_alloc | apply pw_below_drewN | apply below_drew1) | exact HB.out))) : w.heap.size ≤ gb206)); have n5_ := Aside0.mk ((by rw [hg]; exact (below_size (by repeat (first | (with_reducible first | exact HB.out | apply below_alloc | apply pw_below_drewN | apply below_drew1) | exact HB.out))) : w.heap.size ≤ gb206)); clear HO201; clear HO204; clear HB; have HO201 := n0_; have HO204 := n1_; have HB := n2_; have BK206 := n3_; have GW206 := n4_; have GE206 := n5_; clear n0_ n1_ n2_ n3_ n4_ n5_; clear hb hbox hg; obtain ⟨Ao14, co14, eo14⟩ := Kd.R_slice HO201.out; subst eo14; have hcz15_0 : w13.cell? ⟨gb206, 0, none⟩ = some (.slice none 0 0) := (blk_cell BK206.out 0).trans rfl; have hcz15_1 : w13.cell? ⟨gb206, 1, none⟩ = some (.slice none 0 0) := (blk_cell BK206.out 1).trans rfl; have hfz15_0 := blk_frozen BK206.out 0; have hfz15_1 := blk_frozen BK206.out 1; obtain ⟨Ao16, co16, eo16⟩ := Kd.R_slice HO204.out; subst eo16) | ((with_reducible refine gate_callee (f := 11) rfl ?_); refine goesL_ (some 28) rfl rfl Try.func11 (by kernel_rfl) rfl #[.slice A0 l0.length c0, .bool true, .int .i64 a1] rfl (by (try simp only [List.map_toArray, List.map_cons, List.map_nil]); first | done | rfl | (simp only [List.length_drop, List.length_take]; rfl)) ?_; (with_reducible refine (skip_Run.calls _ _ l0 true a1 t207 t210 t213 _ ?side1 ?side2 A8.out).mono ?_); (case side1 => exact Kd.C_below HR0.out (by repeat (first | (with_reducible first | exact HB.out | apply below_alloc | apply pw_below_drewN | apply below_drew1 | refine below_set ?_ GE206.out) | exact HB.out))); (case side2 => exact HC0.out); rintro e w17 ⟨v208, v211, rfl, ho0, ho1, hb⟩; refine ⟨_, rfl, ?_⟩; have n0_ := Aside0.mk (Kd.R_elder' (by (with_reducible repeat (first | apply Kd.R_alloc | apply Kd.R_drewN | apply Kd.R_drew)); exact (Kd.R_mono (Kd.R_far (p := ⟨gb206, 1, none⟩) (Kd.R_far (p := ⟨gb206, 0, none⟩) (Kd.R_types HO201.out BK206.out (by decide)) (fun _ hk => hk.2) (.slice Ao14 t199.length co14)) (fun _ hk => hk.2) (.slice Ao16 t202.length co16)) (fun _ h_ => h_.1))) (Kd.R_base ho0) hb); have n1_ := Aside0.mk (Kd.R_elder' (by (with_reducible repeat (first | apply Kd.R_alloc | apply Kd.R_drewN | apply Kd.R_drew)); exact (Kd.R_mono (Kd.R_far (p := ⟨gb206, 1, none⟩) (Kd.R_far (p := ⟨gb206, 0, none⟩) (Kd.R_types HO204.out BK206.out (by decide)) (fun _ hk => hk.2) (.slice Ao14 t199.length co14)) (fun _ hk => hk.2) (.slice Ao16 t202.length co16)) (fun _ h_ => h_.1))) (Kd.R_base ho1) hb); have n2_ := Aside0.mk (Kd.R_lower (Kd.R_new' ho0 (Kd.R_lt (by (with_reducible repeat (first | apply Kd.R_alloc | apply Kd.R_drewN | apply Kd.R_drew)); exact (Kd.R_mono (Kd.R_far (p := ⟨gb206, 1, none⟩) (Kd.R_far (p := ⟨gb206, 0, none⟩) (Kd.R_types HO201.out BK206.out (by decide)) (fun _ hk => hk.2) (.slice Ao14 t199.length co14)) (fun _ hk => hk.2) (.slice Ao16 t202.length co16)) (fun _ h_ => h_.1))))) (below_size (by repeat (first | (with_reducible first | exact HB.out | apply below_alloc | apply pw_below_drewN | apply below_drew1 | refine below_set ?_ GE206.out) | exact HB.out)))); have n3_ := Aside0.mk (Kd.R_lower (Kd.R_new' ho1 (Kd.R_lt (by (with_reducible repeat (first | apply Kd.R_alloc | apply Kd.R_drewN | apply Kd.R_drew)); exact (Kd.R_mono (Kd.R_far (p := ⟨gb206, 1, none⟩) (Kd.R_far (p := ⟨gb206, 0, none⟩) (Kd.R_types HO204.out BK206.out (by decide)) (fun _ hk => hk.2) (.slice Ao14 t199.length co14)) (fun _ hk => hk.2) (.slice Ao16 t202.length co16)) (fun _ h_ => h_.1))))) (below_size (by repeat (first | (with_reducible first | exact HB.out | apply below_alloc | apply pw_below_drewN | apply below_drew1 | refine below_set ?_ GE206.out) | exact HB.out)))); have n4_ := Aside0.mk (blk_below (g := gb206) (o := .cells #[.slice Ao14 t199.length co14, .slice Ao16 t202.length co16] 28 (0, 0)) (by (with_reducible repeat (first | refine blk_drewN ?_ _ | refine blk_drew ?_ | refine blk_alloc ?_ _)); refine blk_put (cs := #[.slice Ao14 t199.length co14, .slice none 0 0]) ?_ 1 _ rfl; (with_reducible repeat (first | refine blk_drewN ?_ _ | refine blk_drew ?_ | refine blk_alloc ?_ _)); refine blk_put (cs := #[.slice none 0 0, .slice none 0 0]) ?_ 0 _ rfl; (with_reducible repeat (first | refine blk_drewN ?_ _ | refine blk_drew ?_ | refine blk_alloc ?_ _)); exact BK206.out) hb); have n5_ := Aside0.mk (below_step (by repeat (first | (with_reducible first | exact HB.out | apply below_alloc | apply pw_below_drewN | apply below_drew1 | refine below_set ?_ GE206.out) | exact HB.out)) hb); clear HO201; clear HO204; clear BK206; clear HB; have HO201 := n0_; have HO204 := n1_; have HO209 := n2_; have HO212 := n3_; have BK206 := n4_; have HB := n5_; clear n0_ n1_ n2_ n3_ n4_ n5_; (try clear hb); (try clear hb2); (try clear hk); (try clear hi); (try clear ho0); (try clear ho1)) | ((with_reducible refine gate_dst (N := 7) rfl ?_); (try (refine gate_guard (by rfl) ?_; dsimp only)); refine box_event ?hg (N := 7) ?hd (cs := #[.slice none 0 0, .slice none 0 0]) (t := 28) ?hr ?_; (case hd => rfl); (case hg => rfl); (case hr => first | (go_simp; done) | (go_simp; rfl)); intro gb214 hg w18 hbox hb; have n0_ := Aside0.mk (Kd.R_below (by (with_reducible repeat (first | apply Kd.R_alloc | apply Kd.R_drewN | apply Kd.R_drew)); exact HO201.out) hb); have n1_ := Aside0.mk (Kd.R_below (by (with_reducible repeat (first | apply Kd.R_alloc | apply Kd.R_drewN | apply Kd.R_drew)); exact HO204.out) hb); have n2_ := Aside0.mk (Kd.R_below (by (with_reducible repeat (first | apply Kd.R_alloc | apply Kd.R_drewN | apply Kd.R_drew)); exact HO209.out) hb); have n3_ := Aside0.mk (Kd.R_below (by (with_reducible repeat (first | apply Kd.R_alloc | apply Kd.R_drewN | apply Kd.R_drew)); exact HO212.out) hb); have n4_ := Aside0.mk (blk_below (g := gb206) (o := .cells #[.slice Ao14 t199.length co14, .slice Ao16 t202.length co16] 28 (0, 0)) (by (with_reducible repeat (first | refine blk_drewN ?_ _ | refine blk_drew ?_ | refine blk_alloc ?_ _)); exact BK206.out) hb); have n5_ := Aside0.mk (below_step (by repeat (first | (with_reducible first | exact HB.out | apply below_alloc | apply pw_below_drewN | apply below_drew1 | refine below_set ?_ GE206.out) | exact HB.out)) hb); have n6_ := Aside0.mk (hbox); have n7_ := Aside0.mk ((by rw [hg]; exact (below_size (by repeat (first | (with_reducible first | exact HB.out | apply below_alloc | apply pw_below_drewN | apply below_drew1 | refine below_set ?_ GE206.out) | exact HB.out))) : w.heap.size ≤ gb214)); have n8_ := Aside0.mk ((by rw [hg]; exact (below_size (by repeat (first | (with_reducible first | exact HB.out | apply below_alloc | apply pw_below_drewN | apply below_drew1 | refine below_set ?_ GE206.out) | exact HB.out))) : w.heap.size ≤ gb214)); have n9_ := Aside0.mk ((by rw [hg]; exact Nat.ne_of_lt (blk_lt (g := gb206) (o := .cells #[.slice Ao14 t199.length co14, .slice Ao16 t202.length co16] 28 (0, 0)) (by (with_reducible repeat (first | refine blk_drewN ?_ _ | refine blk_drew ?_ | refine blk_alloc ?_ _)); exact BK206.out)) : gb206 ≠ gb214)); have n10_ := Aside0.mk ((by rw [hg]; exact Nat.ne_of_gt (blk_lt (g := gb206) (o := .cells #[.slice Ao14 t199.length co14, .slice Ao16 t202.length co16] 28 (0, 0)) (by (with_reducible repeat (first | refine blk_drewN ?_ _ | refine blk_drew ?_ | refine blk_alloc ?_ _)); exact BK206.out)) : gb214 ≠ gb206)); clear HO201; clear HO204; clear HO209; clear HO212; clear BK206; clear HB; have HO201 := n0_; have HO204 := n1_; have HO209 := n2_; have HO212 := n3_; have BK206 := n4_; have HB := n5_; have BK214 := n6_; have GW214 := n7_; have GE214 := n8_; have NB206_214 := n9_; have NB214_206 := n10_; clear n0_ n1_ n2_ n3_ n4_ n5_ n6_ n7_ n8_ n9_ n10_; clear hb hbox hg; obtain ⟨Ao19, co19, eo19⟩ := Kd.R_slice HO209.out; subst eo19; have hnb20 := NB214_206.out; have hnc20 := NB206_214.out; have hcz21_0 : w18.cell? ⟨gb214, 0, none⟩ = some (.slice none 0 0) := (blk_cell BK214.out 0).trans rfl; have hcz21_1 : w18.cell? ⟨gb214, 1, none⟩ = some (.slice none 0 0) := (blk_cell BK214.out 1).trans rfl; have hfz21_0 := blk_frozen BK214.out 0; have hfz21_1 := blk_frozen BK214.out 1; obtain ⟨Ao22, co22, eo22⟩ := Kd.R_slice HO212.out; subst eo22))
      (try simp only [Act.put, List.setIfInBounds_toArray, List.set_cons_zero, List.set_cons_succ])
      go_cut [37] (fun v37 wc => ∃ (kq : Nat) (x37_8 : Bool), v37 = .bool x37_8 ∧ Aside0 (tocsinlaw21_SkipBlue.j0 kq l0 a1 t205 t213 x37_8 t199 t202 t207 t210 = some r) ∧ Aside0 (kq ≤ k) ∧ Aside0 (Kd.R (Kd.int .i64) 3 wc w.heap.size (fun k_ => some k_ ≠ ((.slice Ao19 t207.length co19) : Value).ownBlock) (.slice Ao14 t199.length co14) t199) ∧ Aside0 (Kd.R k33 33 wc w.heap.size (fun k_ => some k_ ≠ ((.slice Ao22 t210.length co22) : Value).ownBlock) (.slice Ao16 t202.length co16) t202) ∧ Aside0 (Kd.R (Kd.int .i64) 3 wc w.heap.size (fun k_ => some k_ ≠ ((.slice Ao14 t199.length co14) : Value).ownBlock) (.slice Ao19 t207.length co19) t207) ∧ Aside0 (Kd.R k33 33 wc w.heap.size (fun k_ => some k_ ≠ ((.slice Ao16 t202.length co16) : Value).ownBlock) (.slice Ao22 t210.length co22) t210) ∧ Aside0 (wc.heap[gb206]? = some (.cells #[(.slice Ao14 t199.length co14), (.slice Ao16 t202.length co16)] 28 (0, 0))) ∧ Aside0 (wc.heap[gb214]? = some (.cells #[(.slice Ao19 t207.length co19), (.slice Ao22 t210.length co22)] 28 (0, 0))) ∧ Aside0 (Below w.heap.size w wc))
      case first =>
        have H := HC9.out
        clear HC9
        by_cases c23 : t205 = t213
        · rw [if_pos c23] at H
          have c23b0 : (t205 == t213) = true := beq_iff_eq.mpr c23
          have c23b1 : (t205 != t213) = false := bne_eq_false_iff_eq.mpr c23
          clear c23
          (first | rw [c23b0] | (simp only [i64_w, i32_w]; rw [c23b0]) | skip)
          have H' := Aside0.mk H
          clear H
          go_wp2
          go_meet
          case rel => exact ⟨_, ((t205 != 0)), (by first | rfl | (simp; done) | (simp [*]; done)), H', ⟨by first | omega | exact Nat.le_refl _⟩, ⟨by (with_reducible repeat (first | apply Kd.R_alloc | apply Kd.R_drewN | apply Kd.R_drew)); exact Kd.R_mono (Kd.R_far (p := ⟨gb214, 1, none⟩) (Kd.R_far (p := ⟨gb214, 0, none⟩) (Kd.R_types HO201.out BK214.out (by decide)) (fun _ hk => hk.2) (.slice Ao19 t207.length co19)) (fun _ hk => hk.2) (.slice Ao22 t210.length co22)) (fun _ hk => hk.1.2)⟩, ⟨by (with_reducible repeat (first | apply Kd.R_alloc | apply Kd.R_drewN | apply Kd.R_drew)); exact Kd.R_mono (Kd.R_far (p := ⟨gb214, 1, none⟩) (Kd.R_far (p := ⟨gb214, 0, none⟩) (Kd.R_types HO204.out BK214.out (by decide)) (fun _ hk => hk.2) (.slice Ao19 t207.length co19)) (fun _ hk => hk.2) (.slice Ao22 t210.length co22)) (fun _ hk => hk.1.2)⟩, ⟨by (with_reducible repeat (first | apply Kd.R_alloc | apply Kd.R_drewN | apply Kd.R_drew)); exact Kd.R_mono (Kd.R_far (p := ⟨gb214, 1, none⟩) (Kd.R_far (p := ⟨gb214, 0, none⟩) (Kd.R_types HO209.out BK214.out (by decide)) (fun _ hk => hk.2) (.slice Ao19 t207.length co19)) (fun _ hk => hk.2) (.slice Ao22 t210.length co22)) (fun _ hk => hk.1.2)⟩, ⟨by (with_reducible repeat (first | apply Kd.R_alloc | apply Kd.R_drewN | apply Kd.R_drew)); exact Kd.R_mono (Kd.R_far (p := ⟨gb214, 1, none⟩) (Kd.R_far (p := ⟨gb214, 0, none⟩) (Kd.R_types HO212.out BK214.out (by decide)) (fun _ hk => hk.2) (.slice Ao19 t207.length co19)) (fun _ hk => hk.2) (.slice Ao22 t210.length co22)) (fun _ hk => hk.1.2)⟩, ⟨by (with_reducible repeat (first | refine blk_drewN ?_ _ | refine blk_drew ?_ | refine blk_alloc ?_ _)); refine blk_far ?_ NB206_214.out _; (with_reducible repeat (first | refine blk_drewN ?_ _ | refine blk_drew ?_ | refine blk_alloc ?_ _)); refine blk_far ?_ NB206_214.out _; (with_reducible repeat (first | refine blk_drewN ?_ _ | refine blk_drew ?_ | refine blk_alloc ?_ _)); exact BK206.out⟩, ⟨by (with_reducible repeat (first | refine blk_drewN ?_ _ | refine blk_drew ?_ | refine blk_alloc ?_ _)); refine blk_put (cs := #[.slice Ao19 t207.length co19, .slice none 0 0]) ?_ 1 _ rfl; (with_reducible repeat (first | refine blk_drewN ?_ _ | refine blk_drew ?_ | refine blk_alloc ?_ _)); refine blk_put (cs := #[.slice none 0 0, .slice none 0 0]) ?_ 0 _ rfl; (with_reducible repeat (first | refine blk_drewN ?_ _ | refine blk_drew ?_ | refine blk_alloc ?_ _)); exact BK214.out⟩, ⟨by repeat (first | (with_reducible first | exact HB.out | apply below_alloc | apply pw_below_drewN | apply below_drew1 | refine below_set ?_ GE206.out | refine below_set ?_ GE214.out) | exact HB.out)⟩⟩
        · rw [if_neg c23] at H
          have c23b0 : (t205 == t213) = false := beq_eq_false_iff_ne.mpr c23
          have c23b1 : (t205 != t213) = true := bne_iff_ne.mpr c23
          (first | rw [c23b0] | (simp only [i64_w, i32_w]; rw [c23b0]) | skip)
          have H' := Aside0.mk H
          clear H
          go_wp2
          go_meet
          case rel => exact ⟨_, (true), (by first | rfl | (simp; done) | (simp [*]; done)), H', ⟨by first | omega | exact Nat.le_refl _⟩, ⟨by (with_reducible repeat (first | apply Kd.R_alloc | apply Kd.R_drewN | apply Kd.R_drew)); exact Kd.R_mono (Kd.R_far (p := ⟨gb214, 1, none⟩) (Kd.R_far (p := ⟨gb214, 0, none⟩) (Kd.R_types HO201.out BK214.out (by decide)) (fun _ hk => hk.2) (.slice Ao19 t207.length co19)) (fun _ hk => hk.2) (.slice Ao22 t210.length co22)) (fun _ hk => hk.1.2)⟩, ⟨by (with_reducible repeat (first | apply Kd.R_alloc | apply Kd.R_drewN | apply Kd.R_drew)); exact Kd.R_mono (Kd.R_far (p := ⟨gb214, 1, none⟩) (Kd.R_far (p := ⟨gb214, 0, none⟩) (Kd.R_types HO204.out BK214.out (by decide)) (fun _ hk => hk.2) (.slice Ao19 t207.length co19)) (fun _ hk => hk.2) (.slice Ao22 t210.length co22)) (fun _ hk => hk.1.2)⟩, ⟨by (with_reducible repeat (first | apply Kd.R_alloc | apply Kd.R_drewN | apply Kd.R_drew)); exact Kd.R_mono (Kd.R_far (p := ⟨gb214, 1, none⟩) (Kd.R_far (p := ⟨gb214, 0, none⟩) (Kd.R_types HO209.out BK214.out (by decide)) (fun _ hk => hk.2) (.slice Ao19 t207.length co19)) (fun _ hk => hk.2) (.slice Ao22 t210.length co22)) (fun _ hk => hk.1.2)⟩, ⟨by (with_reducible repeat (first | apply Kd.R_alloc | apply Kd.R_drewN | apply Kd.R_drew)); exact Kd.R_mono (Kd.R_far (p := ⟨gb214, 1, none⟩) (Kd.R_far (p := ⟨gb214, 0, none⟩) (Kd.R_types HO212.out BK214.out (by decide)) (fun _ hk => hk.2) (.slice Ao19 t207.length co19)) (fun _ hk => hk.2) (.slice Ao22 t210.length co22)) (fun _ hk => hk.1.2)⟩, ⟨by (with_reducible repeat (first | refine blk_drewN ?_ _ | refine blk_drew ?_ | refine blk_alloc ?_ _)); refine blk_far ?_ NB206_214.out _; (with_reducible repeat (first | refine blk_drewN ?_ _ | refine blk_drew ?_ | refine blk_alloc ?_ _)); refine blk_far ?_ NB206_214.out _; (with_reducible repeat (first | refine blk_drewN ?_ _ | refine blk_drew ?_ | refine blk_alloc ?_ _)); exact BK206.out⟩, ⟨by (with_reducible repeat (first | refine blk_drewN ?_ _ | refine blk_drew ?_ | refine blk_alloc ?_ _)); refine blk_put (cs := #[.slice Ao19 t207.length co19, .slice none 0 0]) ?_ 1 _ rfl; (with_reducible repeat (first | refine blk_drewN ?_ _ | refine blk_drew ?_ | refine blk_alloc ?_ _)); refine blk_put (cs := #[.slice none 0 0, .slice none 0 0]) ?_ 0 _ rfl; (with_reducible repeat (first | refine blk_drewN ?_ _ | refine blk_drew ?_ | refine blk_alloc ?_ _)); exact BK214.out⟩, ⟨by repeat (first | (with_reducible first | exact HB.out | apply below_alloc | apply pw_below_drewN | apply below_drew1 | refine below_set ?_ GE206.out | refine below_set ?_ GE214.out) | exact HB.out)⟩⟩
      case rest =>
        clear HC9
        try clear c1
        try clear c2
        try clear p2
        try clear c3
        try clear c4
        try clear c6
        try clear c9
        try clear c10
        try clear c11
        try clear c20
        try clear c23
        try clear c23b0
        try clear c23b1
        try clear hcz15_0
        try clear hcz15_1
        try clear hcz21_0
        try clear hcz21_1
        try clear hfz15_0
        try clear hfz15_1
        try clear hfz21_0
        try clear hfz21_1
        obtain ⟨kq, x37_8, rfl, HA, HJ8, HO_207000, HO_207001, HO_215000, HO_215001, BK206, BK214, HB⟩ := hcut
        cases kq with
        | zero => exact absurd HA.out (by simp [tocsinlaw21_SkipBlue.j0])
        | succ kj8 =>
          have H := HA.out
          clear HA
          simp only [tocsinlaw21_SkipBlue.j0] at H
          by_cases c24 : x37_8 = true
          · subst c24
            have H1 : (some (t205 == t213)) = some r := by rw [if_pos rfl] at H; exact H
            clear H
            have H := H1
            clear H1
            obtain rfl := Option.some.inj H
            go_wp2
            go_ret
            exact ⟨by first | rfl | (simp [errW_none, errW_some] <;> rfl) | (simp [*, errW_none, errW_some] <;> rfl), by repeat (first | (with_reducible first | exact HB.out | apply below_alloc | apply pw_below_drewN | apply below_drew1 | refine below_set ?_ GE206.out | refine below_set ?_ GE214.out) | exact HB.out)⟩
          · replace c24 := Bool.eq_false_iff.mpr c24
            subst c24
            have H1 : (tocsinlaw21_SkipBlue.l0 kj8 l0 a1 0 t199 t202 t207 t210) = some r := by rw [if_neg (show ¬ (false = true) by decide)] at H; exact H
            clear H
            have H := H1
            clear H1
            have H' := Aside0.mk H
            clear H
            go_wp2
            go_loopg [9] kj8 (fun kq v9 w' => ∃ (x9_2 : Int), v9 = .int .i64 x9_2 ∧ Aside0 (tocsinlaw21_SkipBlue.l0 kq l0 a1 x9_2 t199 t202 t207 t210 = some r) ∧ Aside0 (kq ≤ kj8) ∧ Aside0 (Kd.R (Kd.int .i64) 3 w' w.heap.size (fun k_ => some k_ ≠ ((.slice Ao19 t207.length co19) : Value).ownBlock) (.slice Ao14 t199.length co14) t199) ∧ Aside0 (Kd.R k33 33 w' w.heap.size (fun k_ => some k_ ≠ ((.slice Ao22 t210.length co22) : Value).ownBlock) (.slice Ao16 t202.length co16) t202) ∧ Aside0 (Kd.R (Kd.int .i64) 3 w' w.heap.size (fun k_ => some k_ ≠ ((.slice Ao14 t199.length co14) : Value).ownBlock) (.slice Ao19 t207.length co19) t207) ∧ Aside0 (Kd.R k33 33 w' w.heap.size (fun k_ => some k_ ≠ ((.slice Ao16 t202.length co16) : Value).ownBlock) (.slice Ao22 t210.length co22) t210) ∧ Aside0 (w'.heap[gb206]? = some (.cells #[(.slice Ao14 t199.length co14), (.slice Ao16 t202.length co16)] 28 (0, 0))) ∧ Aside0 (w'.heap[gb214]? = some (.cells #[(.slice Ao19 t207.length co19), (.slice Ao22 t210.length co22)] 28 (0, 0))) ∧ Aside0 (Below w.heap.size w w'))
            case atStart => exact ⟨(0), (by first | rfl | (simp; done) | (simp [*]; done)), H', ⟨Nat.le_refl _⟩, ⟨by (with_reducible repeat (first | apply Kd.R_alloc | apply Kd.R_drewN | apply Kd.R_drew)); exact HO_207000.out⟩, ⟨by (with_reducible repeat (first | apply Kd.R_alloc | apply Kd.R_drewN | apply Kd.R_drew)); exact HO_207001.out⟩, ⟨by (with_reducible repeat (first | apply Kd.R_alloc | apply Kd.R_drewN | apply Kd.R_drew)); exact HO_215000.out⟩, ⟨by (with_reducible repeat (first | apply Kd.R_alloc | apply Kd.R_drewN | apply Kd.R_drew)); exact HO_215001.out⟩, ⟨by (with_reducible repeat (first | refine blk_drewN ?_ _ | refine blk_drew ?_ | refine blk_alloc ?_ _)); exact BK206.out⟩, ⟨by (with_reducible repeat (first | refine blk_drewN ?_ _ | refine blk_drew ?_ | refine blk_alloc ?_ _)); exact BK214.out⟩, ⟨by repeat (first | (with_reducible first | exact HB.out | apply below_alloc | apply pw_below_drewN | apply below_drew1 | refine below_set ?_ GE206.out | refine below_set ?_ GE214.out) | exact HB.out)⟩⟩
            case round =>
              clear H'
              try clear c1
              try clear c2
              try clear p2
              try clear c3
              try clear c4
              try clear c6
              try clear c9
              try clear c10
              try clear c11
              try clear c20
              try clear c23
              try clear c23b0
              try clear c23b1
              try clear c24
              try clear hcz15_0
              try clear hcz15_1
              try clear hcz21_0
              try clear hcz21_1
              try clear hfz15_0
              try clear hfz15_1
              try clear hfz21_0
              try clear hfz21_1
              try clear p2
              obtain ⟨x9_2, rfl, HA, HK2, HO_207000, HO_207001, HO_215000, HO_215001, BK206, BK214, HB⟩ := hrel
              cases gk with
              | zero => exact absurd HA.out (by simp [tocsinlaw21_SkipBlue.l0])
              | succ k2 =>
                have H := HA.out
                clear HA
                simp only [tocsinlaw21_SkipBlue.l0] at H
                by_cases c25 : x9_2 < (l0.length : Int)
                · rw [if_pos c25] at H
                  have c25b0 : decide (x9_2 < (l0.length : Int)) = true := decide_eq_true c25
                  clear c25
                  have H' := Aside0.mk H
                  clear H
                  go_wp2
                  go_loopg [10, 11] k2 (fun kq v10 v11 w' => ∃ (x10_3 : Int) (x11_3 : Int), v10 = .int .i64 x10_3 ∧ v11 = .int .i64 x11_3 ∧ Aside0 (tocsinlaw21_SkipBlue.l1 kq l0 a1 x9_2 x10_3 x11_3 t199 t202 t207 t210 = some r) ∧ Aside0 (kq ≤ k2) ∧ Aside0 (Kd.R (Kd.int .i64) 3 w' w.heap.size (fun k_ => some k_ ≠ ((.slice Ao19 t207.length co19) : Value).ownBlock) (.slice Ao14 t199.length co14) t199) ∧ Aside0 (Kd.R k33 33 w' w.heap.size (fun k_ => some k_ ≠ ((.slice Ao22 t210.length co22) : Value).ownBlock) (.slice Ao16 t202.length co16) t202) ∧ Aside0 (Kd.R (Kd.int .i64) 3 w' w.heap.size (fun k_ => some k_ ≠ ((.slice Ao14 t199.length co14) : Value).ownBlock) (.slice Ao19 t207.length co19) t207) ∧ Aside0 (Kd.R k33 33 w' w.heap.size (fun k_ => some k_ ≠ ((.slice Ao16 t202.length co16) : Value).ownBlock) (.slice Ao22 t210.length co22) t210) ∧ Aside0 (w'.heap[gb206]? = some (.cells #[(.slice Ao14 t199.length co14), (.slice Ao16 t202.length co16)] 28 (0, 0))) ∧ Aside0 (w'.heap[gb214]? = some (.cells #[(.slice Ao19 t207.length co19), (.slice Ao22 t210.length co22)] 28 (0, 0))) ∧ Aside0 (Below w.heap.size w w'))
                  case atStart => exact ⟨(0), (0), (by first | rfl | (simp; done) | (simp [*]; done)), (by first | rfl | (simp; done) | (simp [*]; done)), H', ⟨Nat.le_refl _⟩, ⟨by (with_reducible repeat (first | apply Kd.R_alloc | apply Kd.R_drewN | apply Kd.R_drew)); exact HO_207000.out⟩, ⟨by (with_reducible repeat (first | apply Kd.R_alloc | apply Kd.R_drewN | apply Kd.R_drew)); exact HO_207001.out⟩, ⟨by (with_reducible repeat (first | apply Kd.R_alloc | apply Kd.R_drewN | apply Kd.R_drew)); exact HO_215000.out⟩, ⟨by (with_reducible repeat (first | apply Kd.R_alloc | apply Kd.R_drewN | apply Kd.R_drew)); exact HO_215001.out⟩, ⟨by (with_reducible repeat (first | refine blk_drewN ?_ _ | refine blk_drew ?_ | refine blk_alloc ?_ _)); exact BK206.out⟩, ⟨by (with_reducible repeat (first | refine blk_drewN ?_ _ | refine blk_drew ?_ | refine blk_alloc ?_ _)); exact BK214.out⟩, ⟨by repeat (first | (with_reducible first | exact HB.out | apply below_alloc | apply pw_below_drewN | apply below_drew1 | refine below_set ?_ GE206.out | refine below_set ?_ GE214.out) | exact HB.out)⟩⟩
                  case round =>
                    clear H'
                    try clear c1
                    try clear c2
                    try clear p2
                    try clear c3
                    try clear c4
                    try clear c6
                    try clear c9
                    try clear c10
                    try clear c11
                    try clear c20
                    try clear c23
                    try clear c23b0
                    try clear c23b1
                    try clear c24
                    try clear c25
                    try clear c25b0
                    try clear hcz15_0
                    try clear hcz15_1
                    try clear hcz21_0
                    try clear hcz21_1
                    try clear hfz15_0
                    try clear hfz15_1
                    try clear hfz21_0
                    try clear hfz21_1
                    try clear p2
                    obtain ⟨x10_3, x11_3, rfl, rfl, HA, HK3, HO_207000, HO_207001, HO_215000, HO_215001, BK206, BK214, HB⟩ := hrel
                    cases gk with
                    | zero => exact absurd HA.out (by simp [tocsinlaw21_SkipBlue.l1])
                    | succ k3 =>
                      have H := HA.out
                      clear HA
                      simp only [tocsinlaw21_SkipBlue.l1] at H
                      by_cases c26 : x11_3 < (t210.length : Int)
                      · rw [if_pos c26] at H
                        have c26b0 : decide (x11_3 < (t210.length : Int)) = true := decide_eq_true c26
                        clear c26
                        by_cases c27 : 0 ≤ x11_3
                        · rw [if_pos c27] at H
                          have c27b0 : decide (0 ≤ x11_3) = true := decide_eq_true c27
                          clear c27
                          by_cases c28 : ((rd_T33 t210 x11_3).f0) = x9_2
                          · rw [if_pos c28] at H
                            have c28b0 : (((rd_T33 t210 x11_3).f0) == x9_2) = true := beq_iff_eq.mpr c28
                            have c28b1 : (((rd_T33 t210 x11_3).f0) != x9_2) = false := bne_eq_false_iff_eq.mpr c28
                            clear c28
                            by_cases c29 : ((rd_T33 t210 x11_3).f1) = x10_3
                            · rw [if_pos c29] at H
                              have c29b0 : (((rd_T33 t210 x11_3).f1) == x10_3) = true := beq_iff_eq.mpr c29
                              have c29b1 : (((rd_T33 t210 x11_3).f1) != x10_3) = false := bne_eq_false_iff_eq.mpr c29
                              clear c29
                              have H' := Aside0.mk H
                              clear H
                              have hnb30 := NB214_206.out
                              have hnc30 := NB206_214.out
                              have hcz31_0 : wr.cell? ⟨gb214, 0, none⟩ = some (.slice Ao19 t207.length co19) := (blk_cell BK214.out 0).trans rfl
                              have hcz31_1 : wr.cell? ⟨gb214, 1, none⟩ = some (.slice Ao22 t210.length co22) := (blk_cell BK214.out 1).trans rfl
                              have hfz31_0 := blk_frozen BK214.out 0
                              have hfz31_1 := blk_frozen BK214.out 1
                              have p215 : 0 ≤ (x11_3 : Int) := of_decide_eq_true (by first | (with_reducible assumption) | assumption)
                              have q215 : x11_3 < (t210.length : Int) := of_decide_eq_true (by first | (with_reducible assumption) | assumption)
                              obtain ⟨ad215, e215, hx215_0, hx215_1, hx215_2, hx215_3⟩ := at_T33 (Kd.R_reads' HO_215001.out).2.2 x11_3 p215 q215
                              cases e215
                              replace p215 := eq_true p215
                              replace q215 := eq_true q215
                              have p216 : 0 ≤ (x11_3 : Int) := of_decide_eq_true (by first | (with_reducible assumption) | assumption)
                              have q216 : x11_3 < (t210.length : Int) := of_decide_eq_true (by first | (with_reducible assumption) | assumption)
                              obtain ⟨ad216, e216, hx216_0, hx216_1, hx216_2, hx216_3⟩ := at_T33 (Kd.R_reads' HO_215001.out).2.2 x11_3 p216 q216
                              obtain rfl : ad215 = ad216 := (by injection e216)
                              replace p216 := eq_true p216
                              replace q216 := eq_true q216
                              go_wp2
                              go_roundg k3
                              case measure => have := HJ8.out; have := HK2.out; have := HK3.out; omega
                              case rel => exact ⟨(wrap64 (x10_3 + 1)), (wrap64 (x11_3 + 1)), (by first | rfl | (simp; done) | (simp [*]; done)), (by first | rfl | (simp; done) | (simp [*]; done)), H', ⟨by have := HJ8.out; have := HK2.out; have := HK3.out; omega⟩, ⟨by (with_reducible repeat (first | apply Kd.R_alloc | apply Kd.R_drewN | apply Kd.R_drew)); exact HO_207000.out⟩, ⟨by (with_reducible repeat (first | apply Kd.R_alloc | apply Kd.R_drewN | apply Kd.R_drew)); exact HO_207001.out⟩, ⟨by (with_reducible repeat (first | apply Kd.R_alloc | apply Kd.R_drewN | apply Kd.R_drew)); exact HO_215000.out⟩, ⟨by (with_reducible repeat (first | apply Kd.R_alloc | apply Kd.R_drewN | apply Kd.R_drew)); exact HO_215001.out⟩, ⟨by (with_reducible repeat (first | refine blk_drewN ?_ _ | refine blk_drew ?_ | refine blk_alloc ?_ _)); exact BK206.out⟩, ⟨by (with_reducible repeat (first | refine blk_drewN ?_ _ | refine blk_drew ?_ | refine blk_alloc ?_ _)); exact BK214.out⟩, ⟨by repeat (first | (with_reducible first | exact HB.out | apply below_alloc | apply pw_below_drewN | apply below_drew1 | refine below_set ?_ GE206.out | refine below_set ?_ GE214.out) | exact HB.out)⟩⟩
                            · rw [if_neg c29] at H
                              have c29b0 : (((rd_T33 t210 x11_3).f1) == x10_3) = false := beq_eq_false_iff_ne.mpr c29
                              have c29b1 : (((rd_T33 t210 x11_3).f1) != x10_3) = true := bne_iff_ne.mpr c29
                              obtain rfl := Option.some.inj H
                              have hnb32 := NB214_206.out
                              have hnc32 := NB206_214.out
                              have hcz33_0 : wr.cell? ⟨gb214, 0, none⟩ = some (.slice Ao19 t207.length co19) := (blk_cell BK214.out 0).trans rfl
                              have hcz33_1 : wr.cell? ⟨gb214, 1, none⟩ = some (.slice Ao22 t210.length co22) := (blk_cell BK214.out 1).trans rfl
                              have hfz33_0 := blk_frozen BK214.out 0
                              have hfz33_1 := blk_frozen BK214.out 1
                              have p215 : 0 ≤ (x11_3 : Int) := of_decide_eq_true (by first | (with_reducible assumption) | assumption)
                              have q215 : x11_3 < (t210.length : Int) := of_decide_eq_true (by first | (with_reducible assumption) | assumption)
                              obtain ⟨ad215, e215, hx215_0, hx215_1, hx215_2, hx215_3⟩ := at_T33 (Kd.R_reads' HO_215001.out).2.2 x11_3 p215 q215
                              cases e215
                              replace p215 := eq_true p215
                              replace q215 := eq_true q215
                              have p216 : 0 ≤ (x11_3 : Int) := of_decide_eq_true (by first | (with_reducible assumption) | assumption)
                              have q216 : x11_3 < (t210.length : Int) := of_decide_eq_true (by first | (with_reducible assumption) | assumption)
                              obtain ⟨ad216, e216, hx216_0, hx216_1, hx216_2, hx216_3⟩ := at_T33 (Kd.R_reads' HO_215001.out).2.2 x11_3 p216 q216
                              obtain rfl : ad215 = ad216 := (by injection e216)
                              replace p216 := eq_true p216
                              replace q216 := eq_true q216
                              go_wp2
                              go_ret
                              exact ⟨by first | rfl | (simp [errW_none, errW_some] <;> rfl) | (simp [*, errW_none, errW_some] <;> rfl), by repeat (first | (with_reducible first | exact HB.out | apply below_alloc | apply pw_below_drewN | apply below_drew1 | refine below_set ?_ GE206.out | refine below_set ?_ GE214.out) | exact HB.out)⟩
                          · rw [if_neg c28] at H
                            have c28b0 : (((rd_T33 t210 x11_3).f0) == x9_2) = false := beq_eq_false_iff_ne.mpr c28
                            have c28b1 : (((rd_T33 t210 x11_3).f0) != x9_2) = true := bne_iff_ne.mpr c28
                            have H' := Aside0.mk H
                            clear H
                            have hnb34 := NB214_206.out
                            have hnc34 := NB206_214.out
                            have hcz35_0 : wr.cell? ⟨gb214, 0, none⟩ = some (.slice Ao19 t207.length co19) := (blk_cell BK214.out 0).trans rfl
                            have hcz35_1 : wr.cell? ⟨gb214, 1, none⟩ = some (.slice Ao22 t210.length co22) := (blk_cell BK214.out 1).trans rfl
                            have hfz35_0 := blk_frozen BK214.out 0
                            have hfz35_1 := blk_frozen BK214.out 1
                            have p215 : 0 ≤ (x11_3 : Int) := of_decide_eq_true (by first | (with_reducible assumption) | assumption)
                            have q215 : x11_3 < (t210.length : Int) := of_decide_eq_true (by first | (with_reducible assumption) | assumption)
                            obtain ⟨ad215, e215, hx215_0, hx215_1, hx215_2, hx215_3⟩ := at_T33 (Kd.R_reads' HO_215001.out).2.2 x11_3 p215 q215
                            cases e215
                            replace p215 := eq_true p215
                            replace q215 := eq_true q215
                            go_wp2
                            go_roundg k3
                            case measure => have := HJ8.out; have := HK2.out; have := HK3.out; omega
                            case rel => exact ⟨(x10_3), (wrap64 (x11_3 + 1)), (by first | rfl | (simp; done) | (simp [*]; done)), (by first | rfl | (simp; done) | (simp [*]; done)), H', ⟨by have := HJ8.out; have := HK2.out; have := HK3.out; omega⟩, ⟨by (with_reducible repeat (first | apply Kd.R_alloc | apply Kd.R_drewN | apply Kd.R_drew)); exact HO_207000.out⟩, ⟨by (with_reducible repeat (first | apply Kd.R_alloc | apply Kd.R_drewN | apply Kd.R_drew)); exact HO_207001.out⟩, ⟨by (with_reducible repeat (first | apply Kd.R_alloc | apply Kd.R_drewN | apply Kd.R_drew)); exact HO_215000.out⟩, ⟨by (with_reducible repeat (first | apply Kd.R_alloc | apply Kd.R_drewN | apply Kd.R_drew)); exact HO_215001.out⟩, ⟨by (with_reducible repeat (first | refine blk_drewN ?_ _ | refine blk_drew ?_ | refine blk_alloc ?_ _)); exact BK206.out⟩, ⟨by (with_reducible repeat (first | refine blk_drewN ?_ _ | refine blk_drew ?_ | refine blk_alloc ?_ _)); exact BK214.out⟩, ⟨by repeat (first | (with_reducible first | exact HB.out | apply below_alloc | apply pw_below_drewN | apply below_drew1 | refine below_set ?_ GE206.out | refine below_set ?_ GE214.out) | exact HB.out)⟩⟩
                        · rw [if_neg c27] at H
                          exact absurd H (by simp)
                      · rw [if_neg c26] at H
                        have c26b0 : decide (x11_3 < (t210.length : Int)) = false := decide_eq_false c26
                        clear c26
                        have HC36 := Aside0.mk H
                        clear H
                        have hnb37 := NB214_206.out
                        have hnc37 := NB206_214.out
                        have hcz38_0 : wr.cell? ⟨gb214, 0, none⟩ = some (.slice Ao19 t207.length co19) := (blk_cell BK214.out 0).trans rfl
                        have hcz38_1 : wr.cell? ⟨gb214, 1, none⟩ = some (.slice Ao22 t210.length co22) := (blk_cell BK214.out 1).trans rfl
                        have hfz38_0 := blk_frozen BK214.out 0
                        have hfz38_1 := blk_frozen BK214.out 1
                        go_upto_region 21 with (fail)
                        go_cut [81] (fun v81 wc => ∃ (kq : Nat) (x81_35 : Bool), v81 = .bool x81_35 ∧ Aside0 (tocsinlaw21_SkipBlue.j3 kq l0 a1 x9_2 x10_3 0 x81_35 t199 t202 t207 t210 = some r) ∧ Aside0 (kq ≤ k3) ∧ Aside0 (Kd.R (Kd.int .i64) 3 wc w.heap.size (fun k_ => some k_ ≠ ((.slice Ao19 t207.length co19) : Value).ownBlock) (.slice Ao14 t199.length co14) t199) ∧ Aside0 (Kd.R k33 33 wc w.heap.size (fun k_ => some k_ ≠ ((.slice Ao22 t210.length co22) : Value).ownBlock) (.slice Ao16 t202.length co16) t202) ∧ Aside0 (Kd.R (Kd.int .i64) 3 wc w.heap.size (fun k_ => some k_ ≠ ((.slice Ao14 t199.length co14) : Value).ownBlock) (.slice Ao19 t207.length co19) t207) ∧ Aside0 (Kd.R k33 33 wc w.heap.size (fun k_ => some k_ ≠ ((.slice Ao16 t202.length co16) : Value).ownBlock) (.slice Ao22 t210.length co22) t210) ∧ Aside0 (wc.heap[gb206]? = some (.cells #[(.slice Ao14 t199.length co14), (.slice Ao16 t202.length co16)] 28 (0, 0))) ∧ Aside0 (wc.heap[gb214]? = some (.cells #[(.slice Ao19 t207.length co19), (.slice Ao22 t210.length co22)] 28 (0, 0))) ∧ Aside0 (Below w.heap.size w wc))
                        case first =>
                          have H := HC36.out
                          clear HC36
                          by_cases c39 : a1 > 0
                          · rw [if_pos c39] at H
                            have c39b0 : decide (0 < a1) = true := decide_eq_true c39
                            clear c39
                            (first | rw [c39b0] | (simp only [i64_w, i32_w]; rw [c39b0]) | skip)
                            by_cases c40 : 0 ≤ x9_2
                            · rw [if_pos c40] at H
                              have c40b0 : decide (0 ≤ x9_2) = true := decide_eq_true c40
                              clear c40
                              by_cases c41 : x9_2 < (l0.length : Int)
                              · rw [if_pos c41] at H
                                have c41b0 : decide (x9_2 < (l0.length : Int)) = true := decide_eq_true c41
                                clear c41
                                have H' := Aside0.mk H
                                clear H
                                have p217 : 0 ≤ (x9_2 : Int) := of_decide_eq_true (by first | (with_reducible assumption) | assumption)
                                have q217 : x9_2 < (l0.length : Int) := of_decide_eq_true (by first | (with_reducible assumption) | assumption)
                                obtain ⟨ad217, e217, hx217_0, hx217_1, hx217_2⟩ := at_T35 HR0.out x9_2 p217 q217
                                cases e217
                                replace hx217_0 := (HB.out.cell (World.block_lt_of_cell? w _ hx217_0)).trans hx217_0
                                replace hx217_1 := (HB.out.cell (World.block_lt_of_cell? w _ hx217_1)).trans hx217_1
                                replace hx217_2 := (HB.out.cell (World.block_lt_of_cell? w _ hx217_2)).trans hx217_2
                                replace p217 := eq_true p217
                                replace q217 := eq_true q217
                                go_wp2
                                go_meet
                                case rel => exact ⟨_, (decide (((rd_T35 l0 x9_2).f0) > 0)), (by first | rfl | (simp; done) | (simp [*]; done)), H', ⟨by have := HJ8.out; have := HK2.out; have := HK3.out; first | omega | exact Nat.le_refl _⟩, ⟨by (with_reducible repeat (first | apply Kd.R_alloc | apply Kd.R_drewN | apply Kd.R_drew)); exact HO_207000.out⟩, ⟨by (with_reducible repeat (first | apply Kd.R_alloc | apply Kd.R_drewN | apply Kd.R_drew)); exact HO_207001.out⟩, ⟨by (with_reducible repeat (first | apply Kd.R_alloc | apply Kd.R_drewN | apply Kd.R_drew)); exact HO_215000.out⟩, ⟨by (with_reducible repeat (first | apply Kd.R_alloc | apply Kd.R_drewN | apply Kd.R_drew)); exact HO_215001.out⟩, ⟨by (with_reducible repeat (first | refine blk_drewN ?_ _ | refine blk_drew ?_ | refine blk_alloc ?_ _)); exact BK206.out⟩, ⟨by (with_reducible repeat (first | refine blk_drewN ?_ _ | refine blk_drew ?_ | refine blk_alloc ?_ _)); exact BK214.out⟩, ⟨by repeat (first | (with_reducible first | exact HB.out | apply below_alloc | apply pw_below_drewN | apply below_drew1 | refine below_set ?_ GE206.out | refine below_set ?_ GE214.out) | exact HB.out)⟩⟩
                              · rw [if_neg c41] at H
                                exact absurd H (by simp)
                            · rw [if_neg c40] at H
                              exact absurd H (by simp)
                          · rw [if_neg c39] at H
                            have c39b0 : decide (0 < a1) = false := decide_eq_false c39
                            clear c39
                            (first | rw [c39b0] | (simp only [i64_w, i32_w]; rw [c39b0]) | skip)
                            have H' := Aside0.mk H
                            clear H
                            go_wp2
                            go_meet
                            case rel => exact ⟨_, (false), (by first | rfl | (simp; done) | (simp [*]; done)), H', ⟨by have := HJ8.out; have := HK2.out; have := HK3.out; first | omega | exact Nat.le_refl _⟩, ⟨by (with_reducible repeat (first | apply Kd.R_alloc | apply Kd.R_drewN | apply Kd.R_drew)); exact HO_207000.out⟩, ⟨by (with_reducible repeat (first | apply Kd.R_alloc | apply Kd.R_drewN | apply Kd.R_drew)); exact HO_207001.out⟩, ⟨by (with_reducible repeat (first | apply Kd.R_alloc | apply Kd.R_drewN | apply Kd.R_drew)); exact HO_215000.out⟩, ⟨by (with_reducible repeat (first | apply Kd.R_alloc | apply Kd.R_drewN | apply Kd.R_drew)); exact HO_215001.out⟩, ⟨by (with_reducible repeat (first | refine blk_drewN ?_ _ | refine blk_drew ?_ | refine blk_alloc ?_ _)); exact BK206.out⟩, ⟨by (with_reducible repeat (first | refine blk_drewN ?_ _ | refine blk_drew ?_ | refine blk_alloc ?_ _)); exact BK214.out⟩, ⟨by repeat (first | (with_reducible first | exact HB.out | apply below_alloc | apply pw_below_drewN | apply below_drew1 | refine below_set ?_ GE206.out | refine below_set ?_ GE214.out) | exact HB.out)⟩⟩
                        case rest =>
                          clear HC36
                          try clear c1
                          try clear c2
                          try clear p2
                          try clear q2
                          try clear hx2
                          try clear c3
                          try clear c4
                          try clear c6
                          try clear p6
                          try clear c9
                          try clear c10
                          try clear c11
                          try clear c20
                          try clear p21
                          try clear q21
                          try clear hx21
                          try clear c23
                          try clear c23b0
                          try clear c23b1
                          try clear c24
                          try clear c25
                          try clear c25b0
                          try clear c26
                          try clear c26b0
                          try clear c27
                          try clear c27b0
                          try clear c28
                          try clear c28b0
                          try clear c28b1
                          try clear c29
                          try clear c29b0
                          try clear c29b1
                          try clear c30
                          try clear c32
                          try clear c34
                          try clear c37
                          try clear c39
                          try clear c39b0
                          try clear c40
                          try clear c40b0
                          try clear c41
                          try clear c41b0
                          try clear hcz15_0
                          try clear hcz15_1
                          try clear hcz21_0
                          try clear hcz21_1
                          try clear hcz31_0
                          try clear hcz31_1
                          try clear hcz33_0
                          try clear hcz33_1
                          try clear hcz35_0
                          try clear hcz35_1
                          try clear hcz38_0
                          try clear hcz38_1
                          try clear hfz15_0
                          try clear hfz15_1
                          try clear hfz21_0
                          try clear hfz21_1
                          try clear hfz31_0
                          try clear hfz31_1
                          try clear hfz33_0
                          try clear hfz33_1
                          try clear hfz35_0
                          try clear hfz35_1
                          try clear hfz38_0
                          try clear hfz38_1
                          try clear hx215_0
                          try clear hx215_1
                          try clear hx215_2
                          try clear hx215_3
                          try clear hx216_0
                          try clear hx216_1
                          try clear hx216_2
                          try clear hx216_3
                          try clear hx217_0
                          try clear hx217_1
                          try clear hx217_2
                          try clear p2
                          try clear p215
                          try clear p216
                          try clear p217
                          try clear q215
                          try clear q216
                          try clear q217
                          obtain ⟨kq, x81_35, rfl, HA, HJ35, HO_207000, HO_207001, HO_215000, HO_215001, BK206, BK214, HB⟩ := hcut
                          cases kq with
                          | zero => exact absurd HA.out (by simp [tocsinlaw21_SkipBlue.j3])
                          | succ kj35 =>
                            have H := HA.out
                            clear HA
                            simp only [tocsinlaw21_SkipBlue.j3] at H
                            by_cases c42 : x81_35 = true
                            · subst c42
                              have H1 : (if 0 ≤ x9_2 then (if x9_2 < (l0.length : Int) then (if ((rd_T35 l0 x9_2).f0) = 0 then (none) else (if x10_3 = (wrap64 (Int.tdiv (wrap64 (a1 - 1)) ((rd_T35 l0 x9_2).f0))) then (tocsinlaw21_SkipBlue.l0 kj35 l0 a1 (wrap64 (x9_2 + 1)) t199 t202 t207 t210) else (some false))) else (none)) else (none)) = some r := by rw [if_pos rfl] at H; exact H
                              clear H
                              have H := H1
                              clear H1
                              by_cases c43 : 0 ≤ x9_2
                              · rw [if_pos c43] at H
                                have c43b0 : decide (0 ≤ x9_2) = true := decide_eq_true c43
                                clear c43
                                by_cases c44 : x9_2 < (l0.length : Int)
                                · rw [if_pos c44] at H
                                  have c44b0 : decide (x9_2 < (l0.length : Int)) = true := decide_eq_true c44
                                  clear c44
                                  by_cases c45 : ((rd_T35 l0 x9_2).f0) = 0
                                  · rw [if_pos c45] at H
                                    exact absurd H (by simp)
                                  · rw [if_neg c45] at H
                                    have c45b0 : (((rd_T35 l0 x9_2).f0) == 0) = false := beq_eq_false_iff_ne.mpr c45
                                    have c45b1 : (((rd_T35 l0 x9_2).f0) != 0) = true := bne_iff_ne.mpr c45
                                    by_cases c46 : x10_3 = (wrap64 (Int.tdiv (wrap64 (a1 - 1)) ((rd_T35 l0 x9_2).f0)))
                                    · rw [if_pos c46] at H
                                      have c46b0 : (x10_3 == (wrap64 (Int.tdiv (wrap64 (a1 - 1)) ((rd_T35 l0 x9_2).f0)))) = true := beq_iff_eq.mpr c46
                                      have c46b1 : (x10_3 != (wrap64 (Int.tdiv (wrap64 (a1 - 1)) ((rd_T35 l0 x9_2).f0)))) = false := bne_eq_false_iff_eq.mpr c46
                                      clear c46
                                      have H' := Aside0.mk H
                                      clear H
                                      have p218 : 0 ≤ (x9_2 : Int) := of_decide_eq_true (by first | (with_reducible assumption) | assumption)
                                      have q218 : x9_2 < (l0.length : Int) := of_decide_eq_true (by first | (with_reducible assumption) | assumption)
                                      obtain ⟨ad218, e218, hx218_0, hx218_1, hx218_2⟩ := at_T35 HR0.out x9_2 p218 q218
                                      cases e218
                                      replace hx218_0 := (HB.out.cell (World.block_lt_of_cell? w _ hx218_0)).trans hx218_0
                                      replace hx218_1 := (HB.out.cell (World.block_lt_of_cell? w _ hx218_1)).trans hx218_1
                                      replace hx218_2 := (HB.out.cell (World.block_lt_of_cell? w _ hx218_2)).trans hx218_2
                                      replace p218 := eq_true p218
                                      replace q218 := eq_true q218
                                      go_wp2
                                      go_roundg kj35
                                      case measure => have := HJ8.out; have := HK2.out; have := HK3.out; have := HJ35.out; omega
                                      case rel => exact ⟨(wrap64 (x9_2 + 1)), (by first | rfl | (simp; done) | (simp [*]; done)), H', ⟨by have := HJ8.out; have := HK2.out; have := HK3.out; have := HJ35.out; omega⟩, ⟨by (with_reducible repeat (first | apply Kd.R_alloc | apply Kd.R_drewN | apply Kd.R_drew)); exact HO_207000.out⟩, ⟨by (with_reducible repeat (first | apply Kd.R_alloc | apply Kd.R_drewN | apply Kd.R_drew)); exact HO_207001.out⟩, ⟨by (with_reducible repeat (first | apply Kd.R_alloc | apply Kd.R_drewN | apply Kd.R_drew)); exact HO_215000.out⟩, ⟨by (with_reducible repeat (first | apply Kd.R_alloc | apply Kd.R_drewN | apply Kd.R_drew)); exact HO_215001.out⟩, ⟨by (with_reducible repeat (first | refine blk_drewN ?_ _ | refine blk_drew ?_ | refine blk_alloc ?_ _)); exact BK206.out⟩, ⟨by (with_reducible repeat (first | refine blk_drewN ?_ _ | refine blk_drew ?_ | refine blk_alloc ?_ _)); exact BK214.out⟩, ⟨by repeat (first | (with_reducible first | exact HB.out | apply below_alloc | apply pw_below_drewN | apply below_drew1 | refine below_set ?_ GE206.out | refine below_set ?_ GE214.out) | exact HB.out)⟩⟩
                                    · rw [if_neg c46] at H
                                      have c46b0 : (x10_3 == (wrap64 (Int.tdiv (wrap64 (a1 - 1)) ((rd_T35 l0 x9_2).f0)))) = false := beq_eq_false_iff_ne.mpr c46
                                      have c46b1 : (x10_3 != (wrap64 (Int.tdiv (wrap64 (a1 - 1)) ((rd_T35 l0 x9_2).f0)))) = true := bne_iff_ne.mpr c46
                                      obtain rfl := Option.some.inj H
                                      have p218 : 0 ≤ (x9_2 : Int) := of_decide_eq_true (by first | (with_reducible assumption) | assumption)
                                      have q218 : x9_2 < (l0.length : Int) := of_decide_eq_true (by first | (with_reducible assumption) | assumption)
                                      obtain ⟨ad218, e218, hx218_0, hx218_1, hx218_2⟩ := at_T35 HR0.out x9_2 p218 q218
                                      cases e218
                                      replace hx218_0 := (HB.out.cell (World.block_lt_of_cell? w _ hx218_0)).trans hx218_0
                                      replace hx218_1 := (HB.out.cell (World.block_lt_of_cell? w _ hx218_1)).trans hx218_1
                                      replace hx218_2 := (HB.out.cell (World.block_lt_of_cell? w _ hx218_2)).trans hx218_2
                                      replace p218 := eq_true p218
                                      replace q218 := eq_true q218
                                      go_wp2
                                      go_ret
                                      exact ⟨by first | rfl | (simp [errW_none, errW_some] <;> rfl) | (simp [*, errW_none, errW_some] <;> rfl), by repeat (first | (with_reducible first | exact HB.out | apply below_alloc | apply pw_below_drewN | apply below_drew1 | refine below_set ?_ GE206.out | refine below_set ?_ GE214.out) | exact HB.out)⟩
                                · rw [if_neg c44] at H
                                  exact absurd H (by simp)
                              · rw [if_neg c43] at H
                                exact absurd H (by simp)
                            · replace c42 := Bool.eq_false_iff.mpr c42
                              subst c42
                              have H1 : (if x10_3 = 0 then (tocsinlaw21_SkipBlue.l0 kj35 l0 a1 (wrap64 (x9_2 + 1)) t199 t202 t207 t210) else (some false)) = some r := by rw [if_neg (show ¬ (false = true) by decide)] at H; exact H
                              clear H
                              have H := H1
                              clear H1
                              by_cases c47 : x10_3 = 0
                              · rw [if_pos c47] at H
                                have c47b0 : (x10_3 == 0) = true := beq_iff_eq.mpr c47
                                have c47b1 : (x10_3 != 0) = false := bne_eq_false_iff_eq.mpr c47
                                clear c47
                                have H' := Aside0.mk H
                                clear H
                                go_wp2
                                go_roundg kj35
                                case measure => have := HJ8.out; have := HK2.out; have := HK3.out; have := HJ35.out; omega
                                case rel => exact ⟨(wrap64 (x9_2 + 1)), (by first | rfl | (simp; done) | (simp [*]; done)), H', ⟨by have := HJ8.out; have := HK2.out; have := HK3.out; have := HJ35.out; omega⟩, ⟨by (with_reducible repeat (first | apply Kd.R_alloc | apply Kd.R_drewN | apply Kd.R_drew)); exact HO_207000.out⟩, ⟨by (with_reducible repeat (first | apply Kd.R_alloc | apply Kd.R_drewN | apply Kd.R_drew)); exact HO_207001.out⟩, ⟨by (with_reducible repeat (first | apply Kd.R_alloc | apply Kd.R_drewN | apply Kd.R_drew)); exact HO_215000.out⟩, ⟨by (with_reducible repeat (first | apply Kd.R_alloc | apply Kd.R_drewN | apply Kd.R_drew)); exact HO_215001.out⟩, ⟨by (with_reducible repeat (first | refine blk_drewN ?_ _ | refine blk_drew ?_ | refine blk_alloc ?_ _)); exact BK206.out⟩, ⟨by (with_reducible repeat (first | refine blk_drewN ?_ _ | refine blk_drew ?_ | refine blk_alloc ?_ _)); exact BK214.out⟩, ⟨by repeat (first | (with_reducible first | exact HB.out | apply below_alloc | apply pw_below_drewN | apply below_drew1 | refine below_set ?_ GE206.out | refine below_set ?_ GE214.out) | exact HB.out)⟩⟩
                              · rw [if_neg c47] at H
                                have c47b0 : (x10_3 == 0) = false := beq_eq_false_iff_ne.mpr c47
                                have c47b1 : (x10_3 != 0) = true := bne_iff_ne.mpr c47
                                obtain rfl := Option.some.inj H
                                go_wp2
                                go_ret
                                exact ⟨by first | rfl | (simp [errW_none, errW_some] <;> rfl) | (simp [*, errW_none, errW_some] <;> rfl), by repeat (first | (with_reducible first | exact HB.out | apply below_alloc | apply pw_below_drewN | apply below_drew1 | refine below_set ?_ GE206.out | refine below_set ?_ GE214.out) | exact HB.out)⟩
                · rw [if_neg c25] at H
                  have c25b0 : decide (x9_2 < (l0.length : Int)) = false := decide_eq_false c25
                  clear c25
                  by_cases c48 : (t202.length : Int) = (t210.length : Int)
                  · rw [if_pos c48] at H
                    have c48b0 : ((t202.length : Int) == (t210.length : Int)) = true := beq_iff_eq.mpr c48
                    have c48b1 : ((t202.length : Int) != (t210.length : Int)) = false := bne_eq_false_iff_eq.mpr c48
                    have c48b2 : (t202.length == t210.length) = true := by first | simpa using c48 | (simp at c48 ⊢; omega)
                    clear c48
                    obtain rfl := Option.some.inj H
                    have hnb49 := NB206_214.out
                    have hnc49 := NB214_206.out
                    have hcz50_0 : wr.cell? ⟨gb206, 0, none⟩ = some (.slice Ao14 t199.length co14) := (blk_cell BK206.out 0).trans rfl
                    have hcz50_1 : wr.cell? ⟨gb206, 1, none⟩ = some (.slice Ao16 t202.length co16) := (blk_cell BK206.out 1).trans rfl
                    have hfz50_0 := blk_frozen BK206.out 0
                    have hfz50_1 := blk_frozen BK206.out 1
                    have hcz51_0 : wr.cell? ⟨gb214, 0, none⟩ = some (.slice Ao19 t207.length co19) := (blk_cell BK214.out 0).trans rfl
                    have hcz51_1 : wr.cell? ⟨gb214, 1, none⟩ = some (.slice Ao22 t210.length co22) := (blk_cell BK214.out 1).trans rfl
                    have hfz51_0 := blk_frozen BK214.out 0
                    have hfz51_1 := blk_frozen BK214.out 1
                    go_wp2
                    go_ret
                    exact ⟨by first | rfl | (simp [errW_none, errW_some] <;> rfl) | (simp [*, errW_none, errW_some] <;> rfl), by repeat (first | (with_reducible first | exact HB.out | apply below_alloc | apply pw_below_drewN | apply below_drew1 | refine below_set ?_ GE206.out | refine below_set ?_ GE214.out) | exact HB.out)⟩
                  · rw [if_neg c48] at H
                    have c48b0 : ((t202.length : Int) == (t210.length : Int)) = false := beq_eq_false_iff_ne.mpr c48
                    have c48b1 : ((t202.length : Int) != (t210.length : Int)) = true := bne_iff_ne.mpr c48
                    have c48b2 : (t202.length == t210.length) = false := by first | simpa using c48 | (simp at c48 ⊢; omega)
                    obtain rfl := Option.some.inj H
                    have hnb52 := NB206_214.out
                    have hnc52 := NB214_206.out
                    have hcz53_0 : wr.cell? ⟨gb206, 0, none⟩ = some (.slice Ao14 t199.length co14) := (blk_cell BK206.out 0).trans rfl
                    have hcz53_1 : wr.cell? ⟨gb206, 1, none⟩ = some (.slice Ao16 t202.length co16) := (blk_cell BK206.out 1).trans rfl
                    have hfz53_0 := blk_frozen BK206.out 0
                    have hfz53_1 := blk_frozen BK206.out 1
                    have hcz54_0 : wr.cell? ⟨gb214, 0, none⟩ = some (.slice Ao19 t207.length co19) := (blk_cell BK214.out 0).trans rfl
                    have hcz54_1 : wr.cell? ⟨gb214, 1, none⟩ = some (.slice Ao22 t210.length co22) := (blk_cell BK214.out 1).trans rfl
                    have hfz54_0 := blk_frozen BK214.out 0
                    have hfz54_1 := blk_frozen BK214.out 1
                    go_wp2
                    go_ret
                    exact ⟨by first | rfl | (simp [errW_none, errW_some] <;> rfl) | (simp [*, errW_none, errW_some] <;> rfl), by repeat (first | (with_reducible first | exact HB.out | apply below_alloc | apply pw_below_drewN | apply below_drew1 | refine below_set ?_ GE206.out | refine below_set ?_ GE214.out) | exact HB.out)⟩
    · replace c6 := Bool.eq_false_iff.mpr c6
      subst c6
      have H1 : (some true) = some r := by rw [if_neg (show ¬ (false = true) by decide)] at H; exact H
      clear H
      have H := H1
      clear H1
      obtain rfl := Option.some.inj H
      go_enter Try.func3, Try.ntmps3
      go_wp2_with (first | ((with_reducible refine gate_callee (f := 9) rfl ?_); refine goesL_ (some 13) rfl rfl Try.func9 (by kernel_rfl) rfl #[] rfl (by (try simp only [List.map_toArray, List.map_cons, List.map_nil]); first | done | rfl | (simp only [List.length_drop, List.length_take]; rfl)) ?_; (with_reducible refine (tocsinlaw21_awake.calls k  true _ A3.out).mono ?_); rintro e w55 ⟨rfl, hb⟩; refine ⟨_, rfl, ?_⟩; have n0_ := Aside0.mk (below_step (by repeat (first | (with_reducible first | exact HB.out | apply below_alloc | apply pw_below_drewN | apply below_drew1) | exact HB.out)) hb); clear HB; have HB := n0_; clear n0_; (try clear hb); (try clear hb2); (try clear hk); (try clear hi)) | ((with_reducible refine gate_callee (f := 10) rfl ?_); refine goesL_ (some 17) rfl rfl Try.func10 (by kernel_rfl) rfl #[.slice A0 l0.length c0, .int .i64 a1] rfl (by (try simp only [List.map_toArray, List.map_cons, List.map_nil]); first | done | rfl | (simp only [List.length_drop, List.length_take]; rfl)) ?_; (with_reducible refine (tocsinlaw21_light.calls k _ _ l0 a1 false _ ?side1 ?side2 A5.out).mono ?_); (case side1 => repeat (first | exact (Kd.C_below HR0.out HB.out) | (with_reducible refine Kd.C_alloc ?_ _) | (with_reducible refine Kd.C_drewN ?_ _) | (with_reducible refine Kd.C_drew ?_))); (case side2 => exact HC0.out); rintro e w56 ⟨rfl, hb⟩; refine ⟨_, rfl, ?_⟩; have n0_ := Aside0.mk (below_step (by repeat (first | (with_reducible first | exact HB.out | apply below_alloc | apply pw_below_drewN | apply below_drew1) | exact HB.out)) hb); clear HB; have HB := n0_; clear n0_; (try clear hb); (try clear hb2); (try clear hk); (try clear hi)))
      go_ret
      exact ⟨by first | rfl | (simp [errW_none, errW_some] <;> rfl) | (simp [*, errW_none, errW_some] <;> rfl), by repeat (first | (with_reducible first | exact HB.out | apply below_alloc | apply pw_below_drewN | apply below_drew1) | exact HB.out)⟩
  · replace c4 := Bool.eq_false_iff.mpr c4
    subst c4
    have H1 : (some false) = some r := by rw [if_neg (show ¬ (false = true) by decide)] at H; exact H
    clear H
    have H := H1
    clear H1
    obtain rfl := Option.some.inj H
    go_enter Try.func3, Try.ntmps3
    go_wp2_with (first | ((with_reducible refine gate_callee (f := 9) rfl ?_); refine goesL_ (some 13) rfl rfl Try.func9 (by kernel_rfl) rfl #[] rfl (by (try simp only [List.map_toArray, List.map_cons, List.map_nil]); first | done | rfl | (simp only [List.length_drop, List.length_take]; rfl)) ?_; (with_reducible refine (tocsinlaw21_awake.calls k  false _ A3.out).mono ?_); rintro e w57 ⟨rfl, hb⟩; refine ⟨_, rfl, ?_⟩; have n0_ := Aside0.mk (below_step (by repeat (first | (with_reducible first | exact HB.out | apply below_alloc | apply pw_below_drewN | apply below_drew1) | exact HB.out)) hb); clear HB; have HB := n0_; clear n0_; (try clear hb); (try clear hb2); (try clear hk); (try clear hi)))
    go_ret
    exact ⟨by first | rfl | (simp [errW_none, errW_some] <;> rfl) | (simp [*, errW_none, errW_some] <;> rfl), by repeat (first | (with_reducible first | exact HB.out | apply below_alloc | apply pw_below_drewN | apply below_drew1) | exact HB.out)⟩

end Go.Proofs.Ytkjboaepeecinaa.PSk
