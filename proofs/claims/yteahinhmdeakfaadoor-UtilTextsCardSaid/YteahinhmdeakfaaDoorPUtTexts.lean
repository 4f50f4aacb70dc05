-- functions and contracts as the kit's print.py writes them, the roots chosen in this session (wip/proots.sh)
import Derived.Laws.Cover1
import Derived.Test.YteahinhmdeakfaaDoorPUtx0
import Derived.Test.YteahinhmdeakfaaDoorStUt
import Derived.Test.YteahinhmdeakfaaDoorPUtx1
namespace Go.Proofs.YteahinhmdeakfaaDoor.PUt
open Go.RowKit Go.Proofs.YteahinhmdeakfaaDoorW.PrintWords Go.Proofs.YteahinhmdeakfaaDoorW.PrintLast Go.Proofs.YteahinhmdeakfaaDoorW.PrintMore
attribute [local go_sem] max2_int min2_int max_two min_two max_three min_three max_four min_four   -- for this text's walks alone
set_option linter.unusedVariables false
set_option linter.unusedSimpArgs false

theorem le_of : ∀ (a b : List UInt8), Op.bytesLess b a = false → (Op.bytesLess a b || a == b) = true
  | [], [], _ => rfl
  | [], _ :: _, _ => rfl
  | _ :: _, [], h => by simp [Op.bytesLess] at h
  | a :: x, b :: y, h => by
    simp only [Op.bytesLess, Bool.or_eq_false_iff, decide_eq_false_iff_not, Bool.and_eq_false_iff] at h ⊢
    obtain ⟨h1, h2⟩ := h
    by_cases e : a < b
    · simp [e]
    · have he : a = b := by
        have := UInt8.le_antisymm (UInt8.not_lt.1 h1) (UInt8.not_lt.1 e)
        exact this
      subst he
      have := le_of x y (by rcases h2 with h2 | h2; simp at h2; exact h2)
      simpa [e] using this
/-! ### tocsinlaw12_UtilTexts: function 4 -/
def tocsinlaw12_UtilTexts.j0 : Nat → Int → Int → Bool → Option (Bool)
  | 0, _, _, _ => none
  | k + 1, x0, x1, x15 => if x15 = true then (some true) else ((util_Text.f x0).bind fun t139 => ((util_Text.f x1).bind fun t140 => (if (t139.size : Int) ≤ (t140.size : Int) then (if (t139.size : Int) < (t140.size : Int) then (if (t139.size : Int) ≥ 5 then (if 0 ≤ (wrap64 ((t139.size : Int) - 4)) then (if (wrap64 ((t139.size : Int) - 4)) < (t139.size : Int) then (some ((bt t139 (wrap64 ((t139.size : Int) - 4))) == 46)) else (none)) else (none)) else (some false)) else (if ((Op.bytesLess t140.toList t139.toList) = true) then (some false) else (if (t139.size : Int) ≥ 5 then (if 0 ≤ (wrap64 ((t139.size : Int) - 4)) then (if (wrap64 ((t139.size : Int) - 4)) < (t139.size : Int) then (some ((bt t139 (wrap64 ((t139.size : Int) - 4))) == 46)) else (none)) else (none)) else (some false)))) else (some false))))
def tocsinlaw12_UtilTexts.f (k : Nat) (a0 : Int) (a1 : Int) : Option (Bool) := (tocsinlaw12_awake.f k).bind fun t138 => (if t138 = true then (if a0 < 0 then (tocsinlaw12_UtilTexts.j0 k a0 a1 true) else (tocsinlaw12_UtilTexts.j0 k a0 a1 (decide (a1 < a0)))) else (some false))
theorem tocsinlaw12_UtilTexts.mono_l : ∀ k, (∀ y0 y1 y2, LeO (tocsinlaw12_UtilTexts.j0 k y0 y1 y2) (tocsinlaw12_UtilTexts.j0 (k + 1) y0 y1 y2))
  | 0 => fun _ _ _ r h => by simp [tocsinlaw12_UtilTexts.j0] at h
  | k + 1 => by
    have ih0 := tocsinlaw12_UtilTexts.mono_l k
    · intro y0 y1 y2
      unfold tocsinlaw12_UtilTexts.j0
      repeat' first
      | (with_reducible exact ih0 _ _ _)
      | (with_reducible exact tocsinlaw12_awake.mono _)
      | (with_reducible exact LeO.refl _)
      | (with_reducible exact LeO.none _)
      | (with_reducible refine LeO.ite ?_ ?_)
      | (with_reducible refine LeO.bind ?_ (fun _ => ?_))
      | exact ih0 _ _ _
      | exact tocsinlaw12_awake.mono _
      | exact LeO.none _
      | refine LeO.ite ?_ ?_
      | refine LeO.bind ?_ (fun _ => ?_)
theorem tocsinlaw12_UtilTexts.mono : ∀ a0 a1 k, LeO (tocsinlaw12_UtilTexts.f k a0 a1) (tocsinlaw12_UtilTexts.f (k + 1) a0 a1) := by
  intro a0 a1 k
  have ih0 := tocsinlaw12_UtilTexts.mono_l k
  unfold tocsinlaw12_UtilTexts.f
  repeat' first
      | (with_reducible exact ih0 _ _ _)
      | (with_reducible exact tocsinlaw12_awake.mono _)
      | (with_reducible exact LeO.refl _)
      | (with_reducible exact LeO.none _)
      | (with_reducible refine LeO.ite ?_ ?_)
      | (with_reducible refine LeO.bind ?_ (fun _ => ?_))
      | exact ih0 _ _ _
      | exact tocsinlaw12_awake.mono _
      | exact LeO.none _
      | refine LeO.ite ?_ ?_
      | refine LeO.bind ?_ (fun _ => ?_)
set_option maxHeartbeats 8000000 in
set_option maxRecDepth 100000 in
theorem tocsinlaw12_UtilTexts.calls (k : Nat) (a0 : Int) (a1 : Int) (r : Bool) (w : World) (hTb : Tab w) (h : tocsinlaw12_UtilTexts.f k a0 a1 = some r) (hr_ : r = true) :
    Calls Tryd.prog 4 #[.int .i64 a0, .int .i64 a1] w fun e w' => e = .returned (.bool r) ∧ Below w.heap.size w w' := by
  have HTb := Aside0.mk hTb
  clear hTb
  have HB := Aside0.mk (Below.refl w.heap.size w)
  have H : ((tocsinlaw12_awake.f k).bind fun t138 => (if t138 = true then (if a0 < 0 then (tocsinlaw12_UtilTexts.j0 k a0 a1 true) else (tocsinlaw12_UtilTexts.j0 k a0 a1 (decide (a1 < a0)))) else (some false))) = some r := h
  clear h
  replace H := Option.bind_eq_some_iff.mp H
  obtain ⟨t138, A30, H⟩ := H
  replace H : (if t138 = true then (if a0 < 0 then (tocsinlaw12_UtilTexts.j0 k a0 a1 true) else (tocsinlaw12_UtilTexts.j0 k a0 a1 (decide (a1 < a0)))) else (some false)) = some r := H
  have A3 := Aside0.mk A30
  clear A30
  by_cases c4 : t138 = true
  · subst c4
    have H1 : (if a0 < 0 then (tocsinlaw12_UtilTexts.j0 k a0 a1 true) else (tocsinlaw12_UtilTexts.j0 k a0 a1 (decide (a1 < a0)))) = some r := by rw [if_pos rfl] at H; exact H
    clear H
    have H := H1
    clear H1
    have HC5 := Aside0.mk H
    clear H
    go_enter Tryd.func4, Tryd.ntmps4
    go_upto_region 3 with (first | ((with_reducible refine gate_callee (f := 8) rfl ?_); refine goesL_ (some 7) rfl rfl Tryd.func8 (by kernel_rfl) rfl #[] rfl (by (try simp only [List.map_toArray, List.map_cons, List.map_nil]); first | done | rfl | (simp only [List.length_drop, List.length_take]; rfl)) ?_; (with_reducible refine (tocsinlaw12_awake.calls k  true _ (tab_below HTb.out (by repeat (first | (with_reducible first | exact HB.out | apply below_alloc | apply pw_below_drewN | apply below_drew1) | exact HB.out))) A3.out).mono ?_); rintro e w6 ⟨rfl, hb⟩; refine ⟨_, rfl, ?_⟩; have n0_ := Aside0.mk (below_step (by repeat (first | (with_reducible first | exact HB.out | apply below_alloc | apply pw_below_drewN | apply below_drew1) | exact HB.out)) hb); clear HB; have HB := n0_; clear n0_; (try clear hb); (try clear hb2); (try clear hk); (try clear hi)))
    (try simp only [Act.put, List.setIfInBounds_toArray, List.set_cons_zero, List.set_cons_succ])
    go_cut [15] (fun v15 wc => ∃ (kq : Nat) (x15_4 : Bool), v15 = .bool x15_4 ∧ Aside0 (tocsinlaw12_UtilTexts.j0 kq a0 a1 x15_4 = some r) ∧ Aside0 (kq ≤ k) ∧ Aside0 (Below w.heap.size w wc))
    case first =>
      have H := HC5.out
      clear HC5
      by_cases c7 : a0 < 0
      · rw [if_pos c7] at H
        have c7b0 : decide (a0 < 0) = true := decide_eq_true c7
        clear c7
        (first | rw [c7b0] | (simp only [i64_w, i32_w]; rw [c7b0]) | skip)
        have H' := Aside0.mk H
        clear H
        go_wp2
        go_meet
        case rel => exact ⟨_, (true), (by first | rfl | (simp; done) | (simp [*]; done)), H', ⟨by first | omega | exact Nat.le_refl _⟩, ⟨by repeat (first | (with_reducible first | exact HB.out | apply below_alloc | apply pw_below_drewN | apply below_drew1) | exact HB.out)⟩⟩
      · rw [if_neg c7] at H
        have c7b0 : decide (a0 < 0) = false := decide_eq_false c7
        clear c7
        (first | rw [c7b0] | (simp only [i64_w, i32_w]; rw [c7b0]) | skip)
        have H' := Aside0.mk H
        clear H
        go_wp2
        go_meet
        case rel => exact ⟨_, (decide (a1 < a0)), (by first | rfl | (simp; done) | (simp [*]; done)), H', ⟨by first | omega | exact Nat.le_refl _⟩, ⟨by repeat (first | (with_reducible first | exact HB.out | apply below_alloc | apply pw_below_drewN | apply below_drew1) | exact HB.out)⟩⟩
    case rest =>
      clear HC5
      try clear p2
      try clear c4
      try clear c7
      try clear c7b0
      obtain ⟨kq, x15_4, rfl, HA, HJ4, HB⟩ := hcut
      cases kq with
      | zero => exact absurd HA.out (by simp [tocsinlaw12_UtilTexts.j0])
      | succ kj4 =>
        have H := HA.out
        clear HA
        simp only [tocsinlaw12_UtilTexts.j0] at H
        by_cases c8 : x15_4 = true
        · subst c8
          have H1 : (some true) = some r := by rw [if_pos rfl] at H; exact H
          clear H
          have H := H1
          clear H1
          obtain rfl := Option.some.inj H
          go_wp2
          go_ret
          exact ⟨by first | rfl | (simp [errW_none, errW_some] <;> rfl) | (simp [*, errW_none, errW_some] <;> rfl), by repeat (first | (with_reducible first | exact HB.out | apply below_alloc | apply pw_below_drewN | apply below_drew1) | exact HB.out)⟩
        · replace c8 := Bool.eq_false_iff.mpr c8
          subst c8
          have H1 : ((util_Text.f a0).bind fun t139 => ((util_Text.f a1).bind fun t140 => (if (t139.size : Int) ≤ (t140.size : Int) then (if (t139.size : Int) < (t140.size : Int) then (if (t139.size : Int) ≥ 5 then (if 0 ≤ (wrap64 ((t139.size : Int) - 4)) then (if (wrap64 ((t139.size : Int) - 4)) < (t139.size : Int) then (some ((bt t139 (wrap64 ((t139.size : Int) - 4))) == 46)) else (none)) else (none)) else (some false)) else (if ((Op.bytesLess t140.toList t139.toList) = true) then (some false) else (if (t139.size : Int) ≥ 5 then (if 0 ≤ (wrap64 ((t139.size : Int) - 4)) then (if (wrap64 ((t139.size : Int) - 4)) < (t139.size : Int) then (some ((bt t139 (wrap64 ((t139.size : Int) - 4))) == 46)) else (none)) else (none)) else (some false)))) else (some false)))) = some r := by rw [if_neg (show ¬ (false = true) by decide)] at H; exact H
          clear H
          have H := H1
          clear H1
          replace H := Option.bind_eq_some_iff.mp H
          obtain ⟨t139, A90, H⟩ := H
          replace H : ((util_Text.f a1).bind fun t140 => (if (t139.size : Int) ≤ (t140.size : Int) then (if (t139.size : Int) < (t140.size : Int) then (if (t139.size : Int) ≥ 5 then (if 0 ≤ (wrap64 ((t139.size : Int) - 4)) then (if (wrap64 ((t139.size : Int) - 4)) < (t139.size : Int) then (some ((bt t139 (wrap64 ((t139.size : Int) - 4))) == 46)) else (none)) else (none)) else (some false)) else (if ((Op.bytesLess t140.toList t139.toList) = true) then (some false) else (if (t139.size : Int) ≥ 5 then (if 0 ≤ (wrap64 ((t139.size : Int) - 4)) then (if (wrap64 ((t139.size : Int) - 4)) < (t139.size : Int) then (some ((bt t139 (wrap64 ((t139.size : Int) - 4))) == 46)) else (none)) else (none)) else (some false)))) else (some false))) = some r := H
          have A9 := Aside0.mk A90
          clear A90
          replace H := Option.bind_eq_some_iff.mp H
          obtain ⟨t140, A100, H⟩ := H
          replace H : (if (t139.size : Int) ≤ (t140.size : Int) then (if (t139.size : Int) < (t140.size : Int) then (if (t139.size : Int) ≥ 5 then (if 0 ≤ (wrap64 ((t139.size : Int) - 4)) then (if (wrap64 ((t139.size : Int) - 4)) < (t139.size : Int) then (some ((bt t139 (wrap64 ((t139.size : Int) - 4))) == 46)) else (none)) else (none)) else (some false)) else (if ((Op.bytesLess t140.toList t139.toList) = true) then (some false) else (if (t139.size : Int) ≥ 5 then (if 0 ≤ (wrap64 ((t139.size : Int) - 4)) then (if (wrap64 ((t139.size : Int) - 4)) < (t139.size : Int) then (some ((bt t139 (wrap64 ((t139.size : Int) - 4))) == 46)) else (none)) else (none)) else (some false)))) else (some false)) = some r := H
          have A10 := Aside0.mk A100
          clear A100
          by_cases c11 : (t139.size : Int) ≤ (t140.size : Int)
          · rw [if_pos c11] at H
            have c11b0 : decide ((t139.size : Int) ≤ (t140.size : Int)) = true := decide_eq_true c11
            have c11b1 : decide (t139.size ≤ t140.size) = true := decide_eq_true (Int.ofNat_le.mp c11)
            clear c11
            by_cases c12 : (t139.size : Int) < (t140.size : Int)
            · rw [if_pos c12] at H
              have c12b0 : decide ((t139.size : Int) < (t140.size : Int)) = true := decide_eq_true c12
              have c12b1 : decide (t139.size < t140.size) = true := decide_eq_true (Int.ofNat_lt.mp c12)
              clear c12
              by_cases c13 : (t139.size : Int) ≥ 5
              · rw [if_pos c13] at H
                have c13b0 : decide (5 ≤ (t139.size : Int)) = true := decide_eq_true c13
                have c13b1 : decide (5 ≤ t139.size) = true := decide_eq_true (by omega)
                clear c13
                obtain ⟨ji14, hji14⟩ : ∃ j_ : Int, (wrap64 ((t139.size : Int) - 4)) = j_ := ⟨_, rfl⟩
                replace H : (if 0 ≤ (ji14) then (if (ji14) < (t139.size : Int) then (some ((bt t139 (ji14)) == 46)) else (none)) else (none)) = some r := by first | (rw [hji14] at H; exact H) | (simp only [hji14] at H ⊢; exact H)
                (try rw [hji14] at A9)
                (try rw [hji14] at A10)
                have hji14w : (IntKind.i64.wrap ((t139.size : Int) - 4)) = ji14 := (i64_w _).trans hji14
                by_cases c15 : 0 ≤ (ji14)
                · rw [if_pos c15] at H
                  have c15b0 : decide (0 ≤ (ji14)) = true := decide_eq_true c15
                  clear c15
                  by_cases c16 : (ji14) < (t139.size : Int)
                  · rw [if_pos c16] at H
                    have c16b0 : decide ((ji14) < (t139.size : Int)) = true := decide_eq_true c16
                    clear c16
                    obtain rfl := Option.some.inj H
                    go_wp2_with (first | ((with_reducible refine gate_callee (f := 11) rfl ?_); refine goesL_ (some 17) rfl rfl Tryd.func11 (by kernel_rfl) rfl #[.int .i64 a0] rfl (by (try simp only [List.map_toArray, List.map_cons, List.map_nil]); first | done | rfl | (simp only [List.length_drop, List.length_take]; rfl)) ?_; (with_reducible refine (util_Text.calls a0 t139 _ (tab_below HTb.out (by repeat (first | (with_reducible first | exact HB.out | apply below_alloc | apply pw_below_drewN | apply below_drew1) | exact HB.out))) A9.out).mono ?_); rintro e w18 ⟨rfl, hb⟩; refine ⟨_, rfl, ?_⟩; have n0_ := Aside0.mk (below_step (by repeat (first | (with_reducible first | exact HB.out | apply below_alloc | apply pw_below_drewN | apply below_drew1) | exact HB.out)) hb); clear HB; have HB := n0_; clear n0_; (try clear hb); (try clear hb2); (try clear hk); (try clear hi)) | ((with_reducible refine gate_callee (f := 11) rfl ?_); refine goesL_ (some 19) rfl rfl Tryd.func11 (by kernel_rfl) rfl #[.int .i64 a1] rfl (by (try simp only [List.map_toArray, List.map_cons, List.map_nil]); first | done | rfl | (simp only [List.length_drop, List.length_take]; rfl)) ?_; (with_reducible refine (util_Text.calls a1 t140 _ (tab_below HTb.out (by repeat (first | (with_reducible first | exact HB.out | apply below_alloc | apply pw_below_drewN | apply below_drew1) | exact HB.out))) A10.out).mono ?_); rintro e w19 ⟨rfl, hb⟩; refine ⟨_, rfl, ?_⟩; have n0_ := Aside0.mk (below_step (by repeat (first | (with_reducible first | exact HB.out | apply below_alloc | apply pw_below_drewN | apply below_drew1) | exact HB.out)) hb); clear HB; have HB := n0_; clear n0_; (try clear hb); (try clear hb2); (try clear hk); (try clear hi); have p17 : 0 ≤ ((ji14) : Int) := of_decide_eq_true (by first | (with_reducible assumption) | assumption); have q17 : (ji14) < (t139.size : Int) := of_decide_eq_true (by first | (with_reducible assumption) | assumption); have hx17 := bt_at t139 (ji14); replace p17 := eq_true p17; replace q17 := eq_true q17))
                    go_ret
                    exact ⟨by first | rfl | (simp [errW_none, errW_some] <;> rfl) | (simp only [← hji14]; first | rfl | (simp [errW_none, errW_some] <;> rfl)) | (simp [*, errW_none, errW_some] <;> rfl), by repeat (first | (with_reducible first | exact HB.out | apply below_alloc | apply pw_below_drewN | apply below_drew1) | exact HB.out)⟩
                  · rw [if_neg c16] at H
                    exact absurd H (by simp)
                · rw [if_neg c15] at H
                  exact absurd H (by simp)
              · rw [if_neg c13] at H
                have c13b0 : decide (5 ≤ (t139.size : Int)) = false := decide_eq_false c13
                have c13b1 : decide (5 ≤ t139.size) = false := decide_eq_false (by omega)
                clear c13
                obtain rfl := Option.some.inj H
                exact absurd hr_ (by decide)
            · rw [if_neg c12] at H
              have c12b0 : decide ((t139.size : Int) < (t140.size : Int)) = false := decide_eq_false c12
              have c12b1 : decide (t139.size < t140.size) = false := decide_eq_false (fun h => c12 (Int.ofNat_lt.mpr h))
              clear c12
              by_cases c22 : ((Op.bytesLess t140.toList t139.toList) = true)
              · rw [if_pos c22] at H
                have c22b0 : (Op.bytesLess t140.toList t139.toList) = true := c22
                clear c22
                obtain rfl := Option.some.inj H
                exact absurd hr_ (by decide)
              · rw [if_neg c22] at H
                have c22b0 : (Op.bytesLess t140.toList t139.toList) = false := by simpa using c22
                have c22c0 := le_of t139.toList t140.toList c22b0
                clear c22
                by_cases c25 : (t139.size : Int) ≥ 5
                · rw [if_pos c25] at H
                  have c25b0 : decide (5 ≤ (t139.size : Int)) = true := decide_eq_true c25
                  have c25b1 : decide (5 ≤ t139.size) = true := decide_eq_true (by omega)
                  clear c25
                  obtain ⟨ji26, hji26⟩ : ∃ j_ : Int, (wrap64 ((t139.size : Int) - 4)) = j_ := ⟨_, rfl⟩
                  replace H : (if 0 ≤ (ji26) then (if (ji26) < (t139.size : Int) then (some ((bt t139 (ji26)) == 46)) else (none)) else (none)) = some r := by first | (rw [hji26] at H; exact H) | (simp only [hji26] at H ⊢; exact H)
                  (try rw [hji26] at A9)
                  (try rw [hji26] at A10)
                  have hji26w : (IntKind.i64.wrap ((t139.size : Int) - 4)) = ji26 := (i64_w _).trans hji26
                  by_cases c27 : 0 ≤ (ji26)
                  · rw [if_pos c27] at H
                    have c27b0 : decide (0 ≤ (ji26)) = true := decide_eq_true c27
                    clear c27
                    by_cases c28 : (ji26) < (t139.size : Int)
                    · rw [if_pos c28] at H
                      have c28b0 : decide ((ji26) < (t139.size : Int)) = true := decide_eq_true c28
                      clear c28
                      obtain rfl := Option.some.inj H
                      go_wp2_with (first | ((with_reducible refine gate_callee (f := 11) rfl ?_); refine goesL_ (some 17) rfl rfl Tryd.func11 (by kernel_rfl) rfl #[.int .i64 a0] rfl (by (try simp only [List.map_toArray, List.map_cons, List.map_nil]); first | done | rfl | (simp only [List.length_drop, List.length_take]; rfl)) ?_; (with_reducible refine (util_Text.calls a0 t139 _ (tab_below HTb.out (by repeat (first | (with_reducible first | exact HB.out | apply below_alloc | apply pw_below_drewN | apply below_drew1) | exact HB.out))) A9.out).mono ?_); rintro e w30 ⟨rfl, hb⟩; refine ⟨_, rfl, ?_⟩; have n0_ := Aside0.mk (below_step (by repeat (first | (with_reducible first | exact HB.out | apply below_alloc | apply pw_below_drewN | apply below_drew1) | exact HB.out)) hb); clear HB; have HB := n0_; clear n0_; (try clear hb); (try clear hb2); (try clear hk); (try clear hi)) | ((with_reducible refine gate_callee (f := 11) rfl ?_); refine goesL_ (some 19) rfl rfl Tryd.func11 (by kernel_rfl) rfl #[.int .i64 a1] rfl (by (try simp only [List.map_toArray, List.map_cons, List.map_nil]); first | done | rfl | (simp only [List.length_drop, List.length_take]; rfl)) ?_; (with_reducible refine (util_Text.calls a1 t140 _ (tab_below HTb.out (by repeat (first | (with_reducible first | exact HB.out | apply below_alloc | apply pw_below_drewN | apply below_drew1) | exact HB.out))) A10.out).mono ?_); rintro e w31 ⟨rfl, hb⟩; refine ⟨_, rfl, ?_⟩; have n0_ := Aside0.mk (below_step (by repeat (first | (with_reducible first | exact HB.out | apply below_alloc | apply pw_below_drewN | apply below_drew1) | exact HB.out)) hb); clear HB; have HB := n0_; clear n0_; (try clear hb); (try clear hb2); (try clear hk); (try clear hi); have p29 : 0 ≤ ((ji26) : Int) := of_decide_eq_true (by first | (with_reducible assumption) | assumption); have q29 : (ji26) < (t139.size : Int) := of_decide_eq_true (by first | (with_reducible assumption) | assumption); have hx29 := bt_at t139 (ji26); replace p29 := eq_true p29; replace q29 := eq_true q29))
                      go_ret
                      exact ⟨by first | rfl | (simp [errW_none, errW_some] <;> rfl) | (simp only [← hji26]; first | rfl | (simp [errW_none, errW_some] <;> rfl)) | (simp [*, errW_none, errW_some] <;> rfl), by repeat (first | (with_reducible first | exact HB.out | apply below_alloc | apply pw_below_drewN | apply below_drew1) | exact HB.out)⟩
                    · rw [if_neg c28] at H
                      exact absurd H (by simp)
                  · rw [if_neg c27] at H
                    exact absurd H (by simp)
                · rw [if_neg c25] at H
                  have c25b0 : decide (5 ≤ (t139.size : Int)) = false := decide_eq_false c25
                  have c25b1 : decide (5 ≤ t139.size) = false := decide_eq_false (by omega)
                  clear c25
                  obtain rfl := Option.some.inj H
                  exact absurd hr_ (by decide)
          · rw [if_neg c11] at H
            have c11b0 : decide ((t139.size : Int) ≤ (t140.size : Int)) = false := decide_eq_false c11
            have c11b1 : decide (t139.size ≤ t140.size) = false := decide_eq_false (fun h => c11 (Int.ofNat_le.mpr h))
            clear c11
            obtain rfl := Option.some.inj H
            exact absurd hr_ (by decide)
  · replace c4 := Bool.eq_false_iff.mpr c4
    subst c4
    have H1 : (some false) = some r := by rw [if_neg (show ¬ (false = true) by decide)] at H; exact H
    clear H
    have H := H1
    clear H1
    obtain rfl := Option.some.inj H
    exact absurd hr_ (by decide)


end Go.Proofs.YteahinhmdeakfaaDoor.PUt
