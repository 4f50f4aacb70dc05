-- functions and contracts as the kit's print.py writes them, the roots chosen in this session (wip/proots.sh)
import Derived.Test.YteahinhmdeakfaaDoorPUtx0
import Derived.Test.YteahinhmdeakfaaDoorStUt
import Derived.Test.YteahinhmdeakfaaDoorPUtx1
import Derived.Test.YteahinhmdeakfaaDoorPUtx4
namespace Go.Proofs.YteahinhmdeakfaaDoor.PUt
open Go.RowKit Go.Proofs.YteahinhmdeakfaaDoorW.PrintWords Go.Proofs.YteahinhmdeakfaaDoorW.PrintLast Go.Proofs.YteahinhmdeakfaaDoorW.PrintMore
attribute [local go_sem] max2_int min2_int max_two min_two max_three min_three max_four min_four   -- for this text's walks alone
set_option linter.unusedVariables false
set_option linter.unusedSimpArgs false

/-! ### tocsinref1_Text: function 16 -/
mutual
def tocsinref1_Text.l0 : Nat → Int → ByteArray → Option (ByteArray)
  | 0, _, _ => none
  | k + 1, x0, x5 => if (x5.size : Int) < 3 then (if 1 + x5.size ≤ 9223372036854775807 then (tocsinref1_Text.l0 k x0 ((⟨#[48]⟩ : ByteArray) ++ x5)) else (none)) else ((tocsinref1_Digits.f k (x0 / 1048576)).bind fun t212 => (if t212.size + 1 ≤ 9223372036854775807 then (if (t212 ++ (⟨#[46]⟩ : ByteArray)).size + x5.size ≤ 9223372036854775807 then (some ((t212 ++ (⟨#[46]⟩ : ByteArray)) ++ x5)) else (none)) else (none)))
def tocsinref1_Text.f : Nat → Int → Option (ByteArray)
  | 0, _ => none
  | k + 1, a0 => if a0 < 0 then (if a0 = (-9223372036854775808) then (some (⟨#[45]⟩ : ByteArray)) else ((tocsinref1_Text.f k (wrap64 (-a0))).bind fun t208 => (if 1 + t208.size ≤ 9223372036854775807 then (some ((⟨#[45]⟩ : ByteArray) ++ t208)) else (none)))) else ((tocsinref1_Share.f k (Go.bits .and .i64 a0 1048575) 1000 1048576).bind fun bt209 => ((tocsinref1_Digits.f k bt209.1).bind fun t211 => (tocsinref1_Text.l0 k a0 t211)))
end
theorem tocsinref1_Text.mono_l : ∀ k, (∀ y0, LeO (tocsinref1_Text.f k y0) (tocsinref1_Text.f (k + 1) y0)) ∧ (∀ y0 y1, LeO (tocsinref1_Text.l0 k y0 y1) (tocsinref1_Text.l0 (k + 1) y0 y1))
  | 0 => ⟨fun _ r h => by simp [tocsinref1_Text.f] at h, fun _ _ r h => by simp [tocsinref1_Text.l0] at h⟩
  | k + 1 => by
    obtain ⟨ih0, ih1⟩ := tocsinref1_Text.mono_l k
    refine ⟨?_, ?_⟩
    · intro y0
      unfold tocsinref1_Text.f
      repeat' first
      | (with_reducible exact ih0 _)
      | (with_reducible exact ih1 _ _)
      | (with_reducible exact tocsinref1_Digits.mono _ _)
      | (with_reducible exact tocsinref1_Share.mono _ _ _ _)
      | (with_reducible exact LeO.refl _)
      | (with_reducible exact LeO.none _)
      | (with_reducible refine LeO.ite ?_ ?_)
      | (with_reducible refine LeO.bind ?_ (fun _ => ?_))
      | exact ih0 _
      | exact ih1 _ _
      | exact tocsinref1_Digits.mono _ _
      | exact tocsinref1_Share.mono _ _ _ _
      | exact LeO.none _
      | refine LeO.ite ?_ ?_
      | refine LeO.bind ?_ (fun _ => ?_)
    · intro y0 y1
      unfold tocsinref1_Text.l0
      repeat' first
      | (with_reducible exact ih0 _)
      | (with_reducible exact ih1 _ _)
      | (with_reducible exact tocsinref1_Digits.mono _ _)
      | (with_reducible exact tocsinref1_Share.mono _ _ _ _)
      | (with_reducible exact LeO.refl _)
      | (with_reducible exact LeO.none _)
      | (with_reducible refine LeO.ite ?_ ?_)
      | (with_reducible refine LeO.bind ?_ (fun _ => ?_))
      | exact ih0 _
      | exact ih1 _ _
      | exact tocsinref1_Digits.mono _ _
      | exact tocsinref1_Share.mono _ _ _ _
      | exact LeO.none _
      | refine LeO.ite ?_ ?_
      | refine LeO.bind ?_ (fun _ => ?_)
theorem tocsinref1_Text.mono : ∀ a0 k, LeO (tocsinref1_Text.f k a0) (tocsinref1_Text.f (k + 1) a0) := by
  intro a0 k
  obtain ⟨ih0, ih1⟩ := tocsinref1_Text.mono_l k
  exact ih0 a0
set_option maxHeartbeats 8000000 in
set_option maxRecDepth 100000 in
theorem tocsinref1_Text.calls (k : Nat) : ∀ (a0 : Int) (r : ByteArray) (w : World) (h : tocsinref1_Text.f k a0 = some r),
    Calls Tryd.prog 16 #[.int .i64 a0] w fun e w' => e = .returned (.string r) ∧ Below w.heap.size w w' := by
  induction k using Nat.strongRecOn with
  | _ k ih =>
  intro a0 r w h
  cases k with
  | zero => exact absurd h (by simp [tocsinref1_Text.f])
  | succ k =>
  simp only [tocsinref1_Text.f] at h
  have HB := Aside0.mk (Below.refl w.heap.size w)
  have H : (if a0 < 0 then (if a0 = (-9223372036854775808) then (some (⟨#[45]⟩ : ByteArray)) else ((tocsinref1_Text.f k (wrap64 (-a0))).bind fun t208 => (if 1 + t208.size ≤ 9223372036854775807 then (some ((⟨#[45]⟩ : ByteArray) ++ t208)) else (none)))) else ((tocsinref1_Share.f k (Go.bits .and .i64 a0 1048575) 1000 1048576).bind fun bt209 => ((tocsinref1_Digits.f k bt209.1).bind fun t211 => (tocsinref1_Text.l0 k a0 t211)))) = some r := h
  clear h
  by_cases c2 : a0 < 0
  · rw [if_pos c2] at H
    have c2b0 : decide (a0 < 0) = true := decide_eq_true c2
    clear c2
    by_cases c3 : a0 = (-9223372036854775808)
    · rw [if_pos c3] at H
      have c3b0 : (a0 == (-9223372036854775808)) = true := beq_iff_eq.mpr c3
      have c3b1 : (a0 != (-9223372036854775808)) = false := bne_eq_false_iff_eq.mpr c3
      clear c3
      obtain rfl := Option.some.inj H
      go_enter Tryd.func16, Tryd.ntmps16
      go_wp2
      go_ret
      exact ⟨by first | rfl | (simp [errW_none, errW_some] <;> rfl) | (simp [*, errW_none, errW_some] <;> rfl), by repeat (first | (with_reducible first | exact HB.out | apply below_alloc | apply pw_below_drewN | apply below_drew1) | exact HB.out)⟩
    · rw [if_neg c3] at H
      have c3b0 : (a0 == (-9223372036854775808)) = false := beq_eq_false_iff_ne.mpr c3
      have c3b1 : (a0 != (-9223372036854775808)) = true := bne_iff_ne.mpr c3
      replace H := Option.bind_eq_some_iff.mp H
      obtain ⟨t208, A40, H⟩ := H
      replace H : (if 1 + t208.size ≤ 9223372036854775807 then (some ((⟨#[45]⟩ : ByteArray) ++ t208)) else (none)) = some r := H
      have A4 := Aside0.mk A40
      clear A40
      by_cases c5 : 1 + t208.size ≤ 9223372036854775807
      · rw [if_pos c5] at H
        have c5b0 := eq_true c5
        have c5b1 : decide (1 + t208.size ≤ 9223372036854775807) = true := decide_eq_true c5
        try have c5b2 : (9223372036854775807 < 1 + t208.size) = False := eq_false (Nat.not_lt.2 c5)
        obtain rfl := Option.some.inj H
        go_enter Tryd.func16, Tryd.ntmps16
        go_wp2_with (first | ((with_reducible refine gate_callee (f := 16) rfl ?_); refine goesL_ (some 12) rfl rfl Tryd.func16 (by kernel_rfl) rfl #[.int .i64 (wrap64 (-a0))] rfl (by (try simp only [List.map_toArray, List.map_cons, List.map_nil]); first | done | rfl | (simp only [List.length_drop, List.length_take]; rfl)) ?_; (with_reducible refine (ih k (by omega) (wrap64 (-a0)) t208 _ A4.out).mono ?_); rintro e w6 ⟨rfl, hb⟩; refine ⟨_, rfl, ?_⟩; have n0_ := Aside0.mk (below_step (by repeat (first | (with_reducible first | exact HB.out | apply below_alloc | apply pw_below_drewN | apply below_drew1) | exact HB.out)) hb); clear HB; have HB := n0_; clear n0_; (try clear hb); (try clear hb2); (try clear hk); (try clear hi)))
        go_ret
        exact ⟨by first | rfl | (simp [errW_none, errW_some] <;> rfl) | (simp [*, errW_none, errW_some] <;> rfl), by repeat (first | (with_reducible first | exact HB.out | apply below_alloc | apply pw_below_drewN | apply below_drew1) | exact HB.out)⟩
      · rw [if_neg c5] at H
        exact absurd H (by simp)
  · rw [if_neg c2] at H
    have c2b0 : decide (a0 < 0) = false := decide_eq_false c2
    clear c2
    replace H := Option.bind_eq_some_iff.mp H
    obtain ⟨⟨t209, t210⟩, A70, H⟩ := H
    replace H : ((tocsinref1_Digits.f k t209).bind fun t211 => (tocsinref1_Text.l0 k a0 t211)) = some r := H
    have A7 := Aside0.mk A70
    clear A70
    replace H := Option.bind_eq_some_iff.mp H
    obtain ⟨t211, A80, H⟩ := H
    replace H : (tocsinref1_Text.l0 k a0 t211) = some r := H
    have A8 := Aside0.mk A80
    clear A80
    have H' := Aside0.mk H
    clear H
    go_enter Tryd.func16, Tryd.ntmps16
    go_wp2_with (first | ((with_reducible refine gate_callee (f := 24) rfl ?_); refine goesL_ (some 17) rfl rfl Tryd.func24 (by kernel_rfl) rfl #[.int .i64 (Go.bits .and .i64 a0 1048575), .int .i64 1000, .int .i64 1048576] rfl (by (try simp only [List.map_toArray, List.map_cons, List.map_nil]); first | done | rfl | (simp only [List.length_drop, List.length_take]; rfl)) ?_; (with_reducible refine (tocsinref1_Share.calls k (Go.bits .and .i64 a0 1048575) 1000 1048576 t209 t210 _ A7.out).mono ?_); rintro e w9 ⟨rfl, hb⟩; refine ⟨_, rfl, ?_⟩; have n0_ := Aside0.mk (below_step (by repeat (first | (with_reducible first | exact HB.out | apply below_alloc | apply pw_below_drewN | apply below_drew1) | exact HB.out)) hb); clear HB; have HB := n0_; clear n0_; (try clear hb); (try clear hb2); (try clear hk); (try clear hi)) | ((with_reducible refine gate_callee (f := 25) rfl ?_); refine goesL_ (some 21) rfl rfl Tryd.func25 (by kernel_rfl) rfl #[.int .i64 t209] rfl (by (try simp only [List.map_toArray, List.map_cons, List.map_nil]); first | done | rfl | (simp only [List.length_drop, List.length_take]; rfl)) ?_; (with_reducible refine (tocsinref1_Digits.calls k t209 t211 _ A8.out).mono ?_); rintro e w10 ⟨rfl, hb⟩; refine ⟨_, rfl, ?_⟩; have n0_ := Aside0.mk (below_step (by repeat (first | (with_reducible first | exact HB.out | apply below_alloc | apply pw_below_drewN | apply below_drew1) | exact HB.out)) hb); clear HB; have HB := n0_; clear n0_; (try clear hb); (try clear hb2); (try clear hk); (try clear hi)))
    go_loopg [5] k (fun kq v5 w' => ∃ (x5_1 : ByteArray), v5 = .string x5_1 ∧ Aside0 (tocsinref1_Text.l0 kq a0 x5_1 = some r) ∧ Aside0 (kq ≤ k) ∧ Aside0 (Below w.heap.size w w'))
    case atStart => exact ⟨(t211), (by first | rfl | (simp; done) | (simp [*]; done)), H', ⟨Nat.le_refl _⟩, ⟨by repeat (first | (with_reducible first | exact HB.out | apply below_alloc | apply pw_below_drewN | apply below_drew1) | exact HB.out)⟩⟩
    case round =>
      clear H'
      try clear c1
      try clear c2
      try clear c2b0
      try clear p2
      try clear c3
      try clear c3b0
      try clear c3b1
      try clear c5
      try clear c5b0
      try clear c5b1
      try clear c5b2
      try clear p6
      obtain ⟨x5_1, rfl, HA, HK1, HB⟩ := hrel
      cases gk with
      | zero => exact absurd HA.out (by simp [tocsinref1_Text.l0])
      | succ k1 =>
        have H := HA.out
        clear HA
        simp only [tocsinref1_Text.l0] at H
        by_cases c11 : (x5_1.size : Int) < 3
        · rw [if_pos c11] at H
          have c11b0 : decide ((x5_1.size : Int) < 3) = true := decide_eq_true c11
          have c11b1 : decide (x5_1.size < 3) = true := decide_eq_true (by omega)
          clear c11
          by_cases c12 : 1 + x5_1.size ≤ 9223372036854775807
          · rw [if_pos c12] at H
            have c12b0 := eq_true c12
            have c12b1 : decide (1 + x5_1.size ≤ 9223372036854775807) = true := decide_eq_true c12
            try have c12b2 : (9223372036854775807 < 1 + x5_1.size) = False := eq_false (Nat.not_lt.2 c12)
            have H' := Aside0.mk H
            clear H
            go_wp2
            go_roundg k1
            case measure => have := HK1.out; omega
            case rel => exact ⟨((⟨#[48]⟩ : ByteArray) ++ x5_1), (by first | rfl | (simp; done) | (simp [*]; done)), H', ⟨by have := HK1.out; omega⟩, ⟨by repeat (first | (with_reducible first | exact HB.out | apply below_alloc | apply pw_below_drewN | apply below_drew1) | exact HB.out)⟩⟩
          · rw [if_neg c12] at H
            exact absurd H (by simp)
        · rw [if_neg c11] at H
          have c11b0 : decide ((x5_1.size : Int) < 3) = false := decide_eq_false c11
          have c11b1 : decide (x5_1.size < 3) = false := decide_eq_false (by omega)
          clear c11
          replace H := Option.bind_eq_some_iff.mp H
          obtain ⟨t212, A130, H⟩ := H
          replace H : (if t212.size + 1 ≤ 9223372036854775807 then (if (t212 ++ (⟨#[46]⟩ : ByteArray)).size + x5_1.size ≤ 9223372036854775807 then (some ((t212 ++ (⟨#[46]⟩ : ByteArray)) ++ x5_1)) else (none)) else (none)) = some r := H
          have A13 := Aside0.mk A130
          clear A130
          by_cases c14 : t212.size + 1 ≤ 9223372036854775807
          · rw [if_pos c14] at H
            have c14b0 := eq_true c14
            have c14b1 : decide (t212.size + 1 ≤ 9223372036854775807) = true := decide_eq_true c14
            try have c14b2 : (9223372036854775807 < t212.size + 1) = False := eq_false (Nat.not_lt.2 c14)
            by_cases c15 : (t212 ++ (⟨#[46]⟩ : ByteArray)).size + x5_1.size ≤ 9223372036854775807
            · rw [if_pos c15] at H
              have c15b0 := eq_true c15
              have c15b1 : decide ((t212 ++ (⟨#[46]⟩ : ByteArray)).size + x5_1.size ≤ 9223372036854775807) = true := decide_eq_true c15
              try have c15b2 : (9223372036854775807 < (t212 ++ (⟨#[46]⟩ : ByteArray)).size + x5_1.size) = False := eq_false (Nat.not_lt.2 c15)
              obtain rfl := Option.some.inj H
              go_wp2_with (first | ((with_reducible refine gate_callee (f := 25) rfl ?_); refine goesL_ (some 29) rfl rfl Tryd.func25 (by kernel_rfl) rfl #[.int .i64 (a0 / 1048576)] rfl (by (try simp only [List.map_toArray, List.map_cons, List.map_nil]); first | done | rfl | (simp only [List.length_drop, List.length_take]; rfl)) ?_; (with_reducible refine (tocsinref1_Digits.calls k1 (a0 / 1048576) t212 _ A13.out).mono ?_); rintro e w16 ⟨rfl, hb⟩; refine ⟨_, rfl, ?_⟩; have n0_ := Aside0.mk (below_step (by repeat (first | (with_reducible first | exact HB.out | apply below_alloc | apply pw_below_drewN | apply below_drew1) | exact HB.out)) hb); clear HB; have HB := n0_; clear n0_; (try clear hb); (try clear hb2); (try clear hk); (try clear hi)))
              go_ret
              exact ⟨by first | rfl | (simp [errW_none, errW_some] <;> rfl) | (simp [*, errW_none, errW_some] <;> rfl), by repeat (first | (with_reducible first | exact HB.out | apply below_alloc | apply pw_below_drewN | apply below_drew1) | exact HB.out)⟩
            · rw [if_neg c15] at H
              exact absurd H (by simp)
          · rw [if_neg c14] at H
            exact absurd H (by simp)

/-! ### tocsinlaw12_UtilSays: function 6 -/
def tocsinlaw12_UtilSays.f (k : Nat) (a0 : Int) (a1 : Int) (a2 : Int) (l3 : List Int) : Option (Bool) := (tocsinlaw12_awake.f k).bind fun t213 => (if t213 = true then (if (l3.length : Int) > 20 then (some true) else ((util_Of.f a0 a1).bind fun bt214 => ((tocsinref1_Util.f k a0 a1).bind fun bt216 => ((util_Period.f k a0 a2).bind fun bt218 => ((tocsinref1_Period.f k a0 a2).bind fun bt220 => ((util_Sum.f k l3).bind fun bt222 => ((tocsinref1_Sum.f k l3).bind fun bt224 => (if bt214.1 = bt216.1 then (if (bt214.2 == bt216.2) = true then (if bt218.1 = bt220.1 then (if (bt218.2 == bt220.2) = true then (if bt222.1 = bt224.1 then (if (bt222.2 == bt224.2) = true then ((util_Text.f a2).bind fun t226 => ((tocsinref1_Text.f k a2).bind fun t227 => (some (t226.toList == t227.toList)))) else (some false)) else (some false)) else (some false)) else (some false)) else (some false)) else (some false))))))))) else (some false))
theorem tocsinlaw12_UtilSays.mono : ∀ a0 a1 a2 a3 k, LeO (tocsinlaw12_UtilSays.f k a0 a1 a2 a3) (tocsinlaw12_UtilSays.f (k + 1) a0 a1 a2 a3) := by
  intro a0 a1 a2 a3 k
  unfold tocsinlaw12_UtilSays.f
  repeat' first
      | (with_reducible exact tocsinlaw12_awake.mono _)
      | (with_reducible exact tocsinref1_Period.mono _ _ _)
      | (with_reducible exact tocsinref1_Sum.mono _ _)
      | (with_reducible exact tocsinref1_Text.mono _ _)
      | (with_reducible exact tocsinref1_Util.mono _ _ _)
      | (with_reducible exact util_Period.mono _ _ _)
      | (with_reducible exact util_Sum.mono _ _)
      | (with_reducible exact LeO.refl _)
      | (with_reducible exact LeO.none _)
      | (with_reducible refine LeO.ite ?_ ?_)
      | (with_reducible refine LeO.bind ?_ (fun _ => ?_))
      | exact tocsinlaw12_awake.mono _
      | exact tocsinref1_Period.mono _ _ _
      | exact tocsinref1_Sum.mono _ _
      | exact tocsinref1_Text.mono _ _
      | exact tocsinref1_Util.mono _ _ _
      | exact util_Period.mono _ _ _
      | exact util_Sum.mono _ _
      | exact LeO.none _
      | refine LeO.ite ?_ ?_
      | refine LeO.bind ?_ (fun _ => ?_)
set_option maxHeartbeats 8000000 in
set_option maxRecDepth 100000 in
theorem tocsinlaw12_UtilSays.calls (k : Nat) (a0 : Int) (a1 : Int) (a2 : Int) (A3 : Option Addr) (c3 : Nat) (l3 : List Int) (r : Bool) (w : World) (hTb : Tab w) (hr3 : Kd.C (Kd.int .i64) w A3 l3.length l3) (hc3 : l3.length ≤ c3) (h : tocsinlaw12_UtilSays.f k a0 a1 a2 l3 = some r) (hr_ : r = true) :
    Calls Tryd.prog 6 #[.int .i64 a0, .int .i64 a1, .int .i64 a2, .slice A3 l3.length c3] w fun e w' => e = .returned (.bool r) ∧ Below w.heap.size w w' := by
  have HTb := Aside0.mk hTb
  clear hTb
  have HR3 := Aside0.mk hr3
  have HC3 := Aside0.mk hc3
  clear hr3 hc3
  have HB := Aside0.mk (Below.refl w.heap.size w)
  have H : ((tocsinlaw12_awake.f k).bind fun t213 => (if t213 = true then (if (l3.length : Int) > 20 then (some true) else ((util_Of.f a0 a1).bind fun bt214 => ((tocsinref1_Util.f k a0 a1).bind fun bt216 => ((util_Period.f k a0 a2).bind fun bt218 => ((tocsinref1_Period.f k a0 a2).bind fun bt220 => ((util_Sum.f k l3).bind fun bt222 => ((tocsinref1_Sum.f k l3).bind fun bt224 => (if bt214.1 = bt216.1 then (if (bt214.2 == bt216.2) = true then (if bt218.1 = bt220.1 then (if (bt218.2 == bt220.2) = true then (if bt222.1 = bt224.1 then (if (bt222.2 == bt224.2) = true then ((util_Text.f a2).bind fun t226 => ((tocsinref1_Text.f k a2).bind fun t227 => (some (t226.toList == t227.toList)))) else (some false)) else (some false)) else (some false)) else (some false)) else (some false)) else (some false))))))))) else (some false))) = some r := h
  clear h
  replace H := Option.bind_eq_some_iff.mp H
  obtain ⟨t213, A50, H⟩ := H
  replace H : (if t213 = true then (if (l3.length : Int) > 20 then (some true) else ((util_Of.f a0 a1).bind fun bt214 => ((tocsinref1_Util.f k a0 a1).bind fun bt216 => ((util_Period.f k a0 a2).bind fun bt218 => ((tocsinref1_Period.f k a0 a2).bind fun bt220 => ((util_Sum.f k l3).bind fun bt222 => ((tocsinref1_Sum.f k l3).bind fun bt224 => (if bt214.1 = bt216.1 then (if (bt214.2 == bt216.2) = true then (if bt218.1 = bt220.1 then (if (bt218.2 == bt220.2) = true then (if bt222.1 = bt224.1 then (if (bt222.2 == bt224.2) = true then ((util_Text.f a2).bind fun t226 => ((tocsinref1_Text.f k a2).bind fun t227 => (some (t226.toList == t227.toList)))) else (some false)) else (some false)) else (some false)) else (some false)) else (some false)) else (some false))))))))) else (some false)) = some r := H
  have A5 := Aside0.mk A50
  clear A50
  by_cases c6 : t213 = true
  · subst c6
    have H1 : (if (l3.length : Int) > 20 then (some true) else ((util_Of.f a0 a1).bind fun bt214 => ((tocsinref1_Util.f k a0 a1).bind fun bt216 => ((util_Period.f k a0 a2).bind fun bt218 => ((tocsinref1_Period.f k a0 a2).bind fun bt220 => ((util_Sum.f k l3).bind fun bt222 => ((tocsinref1_Sum.f k l3).bind fun bt224 => (if bt214.1 = bt216.1 then (if (bt214.2 == bt216.2) = true then (if bt218.1 = bt220.1 then (if (bt218.2 == bt220.2) = true then (if bt222.1 = bt224.1 then (if (bt222.2 == bt224.2) = true then ((util_Text.f a2).bind fun t226 => ((tocsinref1_Text.f k a2).bind fun t227 => (some (t226.toList == t227.toList)))) else (some false)) else (some false)) else (some false)) else (some false)) else (some false)) else (some false))))))))) = some r := by rw [if_pos rfl] at H; exact H
    clear H
    have H := H1
    clear H1
    by_cases c7 : (l3.length : Int) > 20
    · rw [if_pos c7] at H
      have c7b0 : decide (20 < (l3.length : Int)) = true := decide_eq_true c7
      have c7b1 : decide (20 < l3.length) = true := decide_eq_true (by omega)
      clear c7
      obtain rfl := Option.some.inj H
      go_enter Tryd.func6, Tryd.ntmps6
      go_wp2_with (first | ((with_reducible refine gate_callee (f := 8) rfl ?_); refine goesL_ (some 21) rfl rfl Tryd.func8 (by kernel_rfl) rfl #[] rfl (by (try simp only [List.map_toArray, List.map_cons, List.map_nil]); first | done | rfl | (simp only [List.length_drop, List.length_take]; rfl)) ?_; (with_reducible refine (tocsinlaw12_awake.calls k  true _ (tab_below HTb.out (by repeat (first | (with_reducible first | exact HB.out | apply below_alloc | apply pw_below_drewN | apply below_drew1) | exact HB.out))) A5.out).mono ?_); rintro e w8 ⟨rfl, hb⟩; refine ⟨_, rfl, ?_⟩; have n0_ := Aside0.mk (below_step (by repeat (first | (with_reducible first | exact HB.out | apply below_alloc | apply pw_below_drewN | apply below_drew1) | exact HB.out)) hb); clear HB; have HB := n0_; clear n0_; (try clear hb); (try clear hb2); (try clear hk); (try clear hi)))
      go_ret
      exact ⟨by first | rfl | (simp [errW_none, errW_some] <;> rfl) | (simp [*, errW_none, errW_some] <;> rfl), by repeat (first | (with_reducible first | exact HB.out | apply below_alloc | apply pw_below_drewN | apply below_drew1) | exact HB.out)⟩
    · rw [if_neg c7] at H
      have c7b0 : decide (20 < (l3.length : Int)) = false := decide_eq_false c7
      have c7b1 : decide (20 < l3.length) = false := decide_eq_false (by omega)
      clear c7
      replace H := Option.bind_eq_some_iff.mp H
      obtain ⟨⟨t214, t215⟩, A90, H⟩ := H
      replace H : ((tocsinref1_Util.f k a0 a1).bind fun bt216 => ((util_Period.f k a0 a2).bind fun bt218 => ((tocsinref1_Period.f k a0 a2).bind fun bt220 => ((util_Sum.f k l3).bind fun bt222 => ((tocsinref1_Sum.f k l3).bind fun bt224 => (if t214 = bt216.1 then (if (t215 == bt216.2) = true then (if bt218.1 = bt220.1 then (if (bt218.2 == bt220.2) = true then (if bt222.1 = bt224.1 then (if (bt222.2 == bt224.2) = true then ((util_Text.f a2).bind fun t226 => ((tocsinref1_Text.f k a2).bind fun t227 => (some (t226.toList == t227.toList)))) else (some false)) else (some false)) else (some false)) else (some false)) else (some false)) else (some false))))))) = some r := H
      have A9 := Aside0.mk A90
      clear A90
      replace H := Option.bind_eq_some_iff.mp H
      obtain ⟨⟨t216, t217⟩, A100, H⟩ := H
      replace H : ((util_Period.f k a0 a2).bind fun bt218 => ((tocsinref1_Period.f k a0 a2).bind fun bt220 => ((util_Sum.f k l3).bind fun bt222 => ((tocsinref1_Sum.f k l3).bind fun bt224 => (if t214 = t216 then (if (t215 == t217) = true then (if bt218.1 = bt220.1 then (if (bt218.2 == bt220.2) = true then (if bt222.1 = bt224.1 then (if (bt222.2 == bt224.2) = true then ((util_Text.f a2).bind fun t226 => ((tocsinref1_Text.f k a2).bind fun t227 => (some (t226.toList == t227.toList)))) else (some false)) else (some false)) else (some false)) else (some false)) else (some false)) else (some false)))))) = some r := H
      have A10 := Aside0.mk A100
      clear A100
      replace H := Option.bind_eq_some_iff.mp H
      obtain ⟨⟨t218, t219⟩, A110, H⟩ := H
      replace H : ((tocsinref1_Period.f k a0 a2).bind fun bt220 => ((util_Sum.f k l3).bind fun bt222 => ((tocsinref1_Sum.f k l3).bind fun bt224 => (if t214 = t216 then (if (t215 == t217) = true then (if t218 = bt220.1 then (if (t219 == bt220.2) = true then (if bt222.1 = bt224.1 then (if (bt222.2 == bt224.2) = true then ((util_Text.f a2).bind fun t226 => ((tocsinref1_Text.f k a2).bind fun t227 => (some (t226.toList == t227.toList)))) else (some false)) else (some false)) else (some false)) else (some false)) else (some false)) else (some false))))) = some r := H
      have A11 := Aside0.mk A110
      clear A110
      replace H := Option.bind_eq_some_iff.mp H
      obtain ⟨⟨t220, t221⟩, A120, H⟩ := H
      replace H : ((util_Sum.f k l3).bind fun bt222 => ((tocsinref1_Sum.f k l3).bind fun bt224 => (if t214 = t216 then (if (t215 == t217) = true then (if t218 = t220 then (if (t219 == t221) = true then (if bt222.1 = bt224.1 then (if (bt222.2 == bt224.2) = true then ((util_Text.f a2).bind fun t226 => ((tocsinref1_Text.f k a2).bind fun t227 => (some (t226.toList == t227.toList)))) else (some false)) else (some false)) else (some false)) else (some false)) else (some false)) else (some false)))) = some r := H
      have A12 := Aside0.mk A120
      clear A120
      replace H := Option.bind_eq_some_iff.mp H
      obtain ⟨⟨t222, t223⟩, A130, H⟩ := H
      replace H : ((tocsinref1_Sum.f k l3).bind fun bt224 => (if t214 = t216 then (if (t215 == t217) = true then (if t218 = t220 then (if (t219 == t221) = true then (if t222 = bt224.1 then (if (t223 == bt224.2) = true then ((util_Text.f a2).bind fun t226 => ((tocsinref1_Text.f k a2).bind fun t227 => (some (t226.toList == t227.toList)))) else (some false)) else (some false)) else (some false)) else (some false)) else (some false)) else (some false))) = some r := H
      have A13 := Aside0.mk A130
      clear A130
      replace H := Option.bind_eq_some_iff.mp H
      obtain ⟨⟨t224, t225⟩, A140, H⟩ := H
      replace H : (if t214 = t216 then (if (t215 == t217) = true then (if t218 = t220 then (if (t219 == t221) = true then (if t222 = t224 then (if (t223 == t225) = true then ((util_Text.f a2).bind fun t226 => ((tocsinref1_Text.f k a2).bind fun t227 => (some (t226.toList == t227.toList)))) else (some false)) else (some false)) else (some false)) else (some false)) else (some false)) else (some false)) = some r := H
      have A14 := Aside0.mk A140
      clear A140
      by_cases c15 : t214 = t216
      · rw [if_pos c15] at H
        have c15b0 : (t214 == t216) = true := beq_iff_eq.mpr c15
        have c15b1 : (t214 != t216) = false := bne_eq_false_iff_eq.mpr c15
        clear c15
        by_cases c16 : (t215 == t217) = true
        · rw [if_pos c16] at H
          have c16b0 : (t215 == t217) = true := c16
          (try (have c16b1 : decide (t215 = t217) = true := by simpa using c16))
          (try (have c16b2 : (t215 == t217) = true := by simpa using c16))
          clear c16
          by_cases c17 : t218 = t220
          · rw [if_pos c17] at H
            have c17b0 : (t218 == t220) = true := beq_iff_eq.mpr c17
            have c17b1 : (t218 != t220) = false := bne_eq_false_iff_eq.mpr c17
            clear c17
            by_cases c18 : (t219 == t221) = true
            · rw [if_pos c18] at H
              have c18b0 : (t219 == t221) = true := c18
              (try (have c18b1 : decide (t219 = t221) = true := by simpa using c18))
              (try (have c18b2 : (t219 == t221) = true := by simpa using c18))
              clear c18
              by_cases c19 : t222 = t224
              · rw [if_pos c19] at H
                have c19b0 : (t222 == t224) = true := beq_iff_eq.mpr c19
                have c19b1 : (t222 != t224) = false := bne_eq_false_iff_eq.mpr c19
                clear c19
                by_cases c20 : (t223 == t225) = true
                · rw [if_pos c20] at H
                  have c20b0 : (t223 == t225) = true := c20
                  (try (have c20b1 : decide (t223 = t225) = true := by simpa using c20))
                  (try (have c20b2 : (t223 == t225) = true := by simpa using c20))
                  clear c20
                  replace H := Option.bind_eq_some_iff.mp H
                  obtain ⟨t226, A210, H⟩ := H
                  replace H : ((tocsinref1_Text.f k a2).bind fun t227 => (some (t226.toList == t227.toList))) = some r := H
                  have A21 := Aside0.mk A210
                  clear A210
                  replace H := Option.bind_eq_some_iff.mp H
                  obtain ⟨t227, A220, H⟩ := H
                  replace H : (some (t226.toList == t227.toList)) = some r := H
                  have A22 := Aside0.mk A220
                  clear A220
                  obtain rfl := Option.some.inj H
                  go_enter Tryd.func6, Tryd.ntmps6
                  go_wp2_with (first | ((with_reducible refine gate_callee (f := 8) rfl ?_); refine goesL_ (some 21) rfl rfl Tryd.func8 (by kernel_rfl) rfl #[] rfl (by (try simp only [List.map_toArray, List.map_cons, List.map_nil]); first | done | rfl | (simp only [List.length_drop, List.length_take]; rfl)) ?_; (with_reducible refine (tocsinlaw12_awake.calls k  true _ (tab_below HTb.out (by repeat (first | (with_reducible first | exact HB.out | apply below_alloc | apply pw_below_drewN | apply below_drew1) | exact HB.out))) A5.out).mono ?_); rintro e w23 ⟨rfl, hb⟩; refine ⟨_, rfl, ?_⟩; have n0_ := Aside0.mk (below_step (by repeat (first | (with_reducible first | exact HB.out | apply below_alloc | apply pw_below_drewN | apply below_drew1) | exact HB.out)) hb); clear HB; have HB := n0_; clear n0_; (try clear hb); (try clear hb2); (try clear hk); (try clear hi)) | ((with_reducible refine gate_callee (f := 10) rfl ?_); refine goesL_ (some 29) rfl rfl Tryd.func10 (by kernel_rfl) rfl #[.int .i64 a0, .int .i64 a1] rfl (by (try simp only [List.map_toArray, List.map_cons, List.map_nil]); first | done | rfl | (simp only [List.length_drop, List.length_take]; rfl)) ?_; (with_reducible refine (util_Of.calls a0 a1 t214 t215 _ A9.out).mono ?_); rintro e w24 ⟨rfl, hb⟩; refine ⟨_, rfl, ?_⟩; have n0_ := Aside0.mk (below_step (by repeat (first | (with_reducible first | exact HB.out | apply below_alloc | apply pw_below_drewN | apply below_drew1) | exact HB.out)) hb); clear HB; have HB := n0_; clear n0_; (try clear hb); (try clear hb2); (try clear hk); (try clear hi)) | ((with_reducible refine gate_callee (f := 13) rfl ?_); refine goesL_ (some 35) rfl rfl Tryd.func13 (by kernel_rfl) rfl #[.int .i64 a0, .int .i64 a1] rfl (by (try simp only [List.map_toArray, List.map_cons, List.map_nil]); first | done | rfl | (simp only [List.length_drop, List.length_take]; rfl)) ?_; (with_reducible refine (tocsinref1_Util.calls k a0 a1 t216 t217 _ A10.out).mono ?_); rintro e w25 ⟨rfl, hb⟩; refine ⟨_, rfl, ?_⟩; have n0_ := Aside0.mk (below_step (by repeat (first | (with_reducible first | exact HB.out | apply below_alloc | apply pw_below_drewN | apply below_drew1) | exact HB.out)) hb); clear HB; have HB := n0_; clear n0_; (try clear hb); (try clear hb2); (try clear hk); (try clear hi)) | ((with_reducible refine gate_callee (f := 9) rfl ?_); refine goesL_ (some 41) rfl rfl Tryd.func9 (by kernel_rfl) rfl #[.int .i64 a0, .int .i64 a2] rfl (by (try simp only [List.map_toArray, List.map_cons, List.map_nil]); first | done | rfl | (simp only [List.length_drop, List.length_take]; rfl)) ?_; (with_reducible refine (util_Period.calls k a0 a2 t218 t219 _ A11.out).mono ?_); rintro e w26 ⟨rfl, hb⟩; refine ⟨_, rfl, ?_⟩; have n0_ := Aside0.mk (below_step (by repeat (first | (with_reducible first | exact HB.out | apply below_alloc | apply pw_below_drewN | apply below_drew1) | exact HB.out)) hb); clear HB; have HB := n0_; clear n0_; (try clear hb); (try clear hb2); (try clear hk); (try clear hi)) | ((with_reducible refine gate_callee (f := 14) rfl ?_); refine goesL_ (some 47) rfl rfl Tryd.func14 (by kernel_rfl) rfl #[.int .i64 a0, .int .i64 a2] rfl (by (try simp only [List.map_toArray, List.map_cons, List.map_nil]); first | done | rfl | (simp only [List.length_drop, List.length_take]; rfl)) ?_; (with_reducible refine (tocsinref1_Period.calls k a0 a2 t220 t221 _ A12.out).mono ?_); rintro e w27 ⟨rfl, hb⟩; refine ⟨_, rfl, ?_⟩; have n0_ := Aside0.mk (below_step (by repeat (first | (with_reducible first | exact HB.out | apply below_alloc | apply pw_below_drewN | apply below_drew1) | exact HB.out)) hb); clear HB; have HB := n0_; clear n0_; (try clear hb); (try clear hb2); (try clear hk); (try clear hi)) | ((with_reducible refine gate_callee (f := 12) rfl ?_); refine goesL_ (some 52) rfl rfl Tryd.func12 (by kernel_rfl) rfl #[.slice A3 l3.length c3] rfl (by (try simp only [List.map_toArray, List.map_cons, List.map_nil]); first | done | rfl | (simp only [List.length_drop, List.length_take]; rfl)) ?_; (with_reducible refine (util_Sum.calls k _ _ l3 t222 t223 _ ?side1 ?side2 A13.out).mono ?_); (case side1 => repeat (first | exact (Kd.C_below HR3.out HB.out) | (with_reducible refine Kd.C_alloc ?_ _) | (with_reducible refine Kd.C_drewN ?_ _) | (with_reducible refine Kd.C_drew ?_))); (case side2 => exact HC3.out); rintro e w' ⟨rfl, ⟨nd, rfl⟩⟩; refine ⟨_, rfl, ?_⟩) | ((with_reducible refine gate_callee (f := 15) rfl ?_); refine goesL_ (some 57) rfl rfl Tryd.func15 (by kernel_rfl) rfl #[.slice A3 l3.length c3] rfl (by (try simp only [List.map_toArray, List.map_cons, List.map_nil]); first | done | rfl | (simp only [List.length_drop, List.length_take]; rfl)) ?_; (with_reducible refine (tocsinref1_Sum.calls k _ _ l3 t224 t225 _ ?side1 ?side2 A14.out).mono ?_); (case side1 => repeat (first | exact (Kd.C_below HR3.out (by repeat (first | (with_reducible first | exact HB.out | apply below_alloc | apply pw_below_drewN | apply below_drew1) | exact HB.out))) | (with_reducible refine Kd.C_alloc ?_ _) | (with_reducible refine Kd.C_drewN ?_ _) | (with_reducible refine Kd.C_drew ?_))); (case side2 => exact HC3.out); rintro e w' ⟨rfl, ⟨nd, rfl⟩⟩; refine ⟨_, rfl, ?_⟩) | (go_at_call 11; (with_reducible refine (util_Text.calls a2 t226 _ (tab_below HTb.out (by repeat (first | (with_reducible first | exact HB.out | apply below_alloc | apply pw_below_drewN | apply below_drew1) | exact HB.out))) A21.out).mono ?_); rintro e w28 ⟨rfl, hb⟩; have n0_ := Aside0.mk (below_step (by repeat (first | (with_reducible first | exact HB.out | apply below_alloc | apply pw_below_drewN | apply below_drew1) | exact HB.out)) hb); clear HB; have HB := n0_; clear n0_; (try clear hb); (try clear hb2); (try clear hk); (try clear hi)) | (go_at_call 16; (with_reducible refine (tocsinref1_Text.calls k a2 t227 _ A22.out).mono ?_); rintro e w29 ⟨rfl, hb⟩; have n0_ := Aside0.mk (below_step (by repeat (first | (with_reducible first | exact HB.out | apply below_alloc | apply pw_below_drewN | apply below_drew1) | exact HB.out)) hb); clear HB; have HB := n0_; clear n0_; (try clear hb); (try clear hb2); (try clear hk); (try clear hi)))
                  go_ret
                  exact ⟨by first | rfl | (simp [errW_none, errW_some] <;> rfl) | (simp [*, errW_none, errW_some] <;> rfl), by repeat (first | (with_reducible first | exact HB.out | apply below_alloc | apply pw_below_drewN | apply below_drew1) | exact HB.out)⟩
                · rw [if_neg c20] at H
                  have c20b0 : (t223 == t225) = false := by simpa using c20
                  (try (have c20b1 : decide (t223 = t225) = false := by simpa using c20))
                  (try (have c20b2 : (t223 == t225) = false := by simpa using c20))
                  (try (have c20b3 : ¬ (t223 = t225) := by simpa using c20))
                  clear c20
                  obtain rfl := Option.some.inj H
                  exact absurd hr_ (by decide)
              · rw [if_neg c19] at H
                have c19b0 : (t222 == t224) = false := beq_eq_false_iff_ne.mpr c19
                have c19b1 : (t222 != t224) = true := bne_iff_ne.mpr c19
                obtain rfl := Option.some.inj H
                exact absurd hr_ (by decide)
            · rw [if_neg c18] at H
              have c18b0 : (t219 == t221) = false := by simpa using c18
              (try (have c18b1 : decide (t219 = t221) = false := by simpa using c18))
              (try (have c18b2 : (t219 == t221) = false := by simpa using c18))
              (try (have c18b3 : ¬ (t219 = t221) := by simpa using c18))
              clear c18
              obtain rfl := Option.some.inj H
              exact absurd hr_ (by decide)
          · rw [if_neg c17] at H
            have c17b0 : (t218 == t220) = false := beq_eq_false_iff_ne.mpr c17
            have c17b1 : (t218 != t220) = true := bne_iff_ne.mpr c17
            obtain rfl := Option.some.inj H
            exact absurd hr_ (by decide)
        · rw [if_neg c16] at H
          have c16b0 : (t215 == t217) = false := by simpa using c16
          (try (have c16b1 : decide (t215 = t217) = false := by simpa using c16))
          (try (have c16b2 : (t215 == t217) = false := by simpa using c16))
          (try (have c16b3 : ¬ (t215 = t217) := by simpa using c16))
          clear c16
          obtain rfl := Option.some.inj H
          exact absurd hr_ (by decide)
      · rw [if_neg c15] at H
        have c15b0 : (t214 == t216) = false := beq_eq_false_iff_ne.mpr c15
        have c15b1 : (t214 != t216) = true := bne_iff_ne.mpr c15
        obtain rfl := Option.some.inj H
        exact absurd hr_ (by decide)
  · replace c6 := Bool.eq_false_iff.mpr c6
    subst c6
    have H1 : (some false) = some r := by rw [if_neg (show ¬ (false = true) by decide)] at H; exact H
    clear H
    have H := H1
    clear H1
    obtain rfl := Option.some.inj H
    exact absurd hr_ (by decide)


end Go.Proofs.YteahinhmdeakfaaDoor.PUt
