-- functions and contracts as the kit's print.py writes them, the roots chosen in this session (wip/proots.sh)
import Derived.Test.YtfoafigpimhppaaDoorPNmx0
import Derived.Test.YtfoafigpimhppaaDoorStNm
import Derived.Test.YtfoafigpimhppaaDoorPNmx1
namespace Go.Proofs.YtfoafigpimhppaaDoor.PNm
open Go.RowKit Go.Proofs.YtfoafigpimhppaaDoorW.PrintWords Go.Proofs.YtfoafigpimhppaaDoorW.PrintLast Go.Proofs.YtfoafigpimhppaaDoorW.PrintMore
attribute [local go_sem] max2_int min2_int max_two min_two max_three min_three max_four min_four   -- for this text's walks alone
set_option linter.unusedVariables false
set_option linter.unusedSimpArgs false

/-! ### tocsinlaw3_NameWords: function 3 -/
mutual
def tocsinlaw3_NameWords.j0 : Nat → ByteArray → ByteArray → ByteArray → Bool → Option (Bool)
  | 0, _, _, _, _ => none
  | k + 1, x0, x1, x2, x27 => if x27 = true then (some true) else ((name_Words.f x0).bind fun t121 => (tocsinlaw3_NameWords.l0 k x0 x1 x2 t121 (⟨#[]⟩ : ByteArray) 0))
def tocsinlaw3_NameWords.l0 : Nat → ByteArray → ByteArray → ByteArray → List ByteArray → ByteArray → Int → Option (Bool)
  | 0, _, _, _, _, _, _ => none
  | k + 1, x0, x1, x2, x7, x8, x9 => if x9 < (x7.length : Int) then (if x8.size + 2 ≤ 9223372036854775807 then (if 0 ≤ x9 then (if (x8 ++ (⟨#[32, 32]⟩ : ByteArray)).size + (rdOf ByteArray.empty x7 x9).size ≤ 9223372036854775807 then (tocsinlaw3_NameWords.l0 k x0 x1 x2 x7 ((x8 ++ (⟨#[32, 32]⟩ : ByteArray)) ++ (rdOf ByteArray.empty x7 x9)) (wrap64 (x9 + 1))) else (none)) else (none)) else (none)) else ((name_Words.f x8).bind fun t125 => ((tocsinlaw3_texts.f k t125 x7).bind fun t128 => (if t128 = true then (tocsinlaw3_NameWords.l1 k x0 x1 x2 0) else (some false))))
def tocsinlaw3_NameWords.l1 : Nat → ByteArray → ByteArray → ByteArray → Int → Option (Bool)
  | 0, _, _, _, _ => none
  | k + 1, x0, x1, x2, x10 => if x1.size + x2.size ≤ 9223372036854775807 then (if x10 < ((x1 ++ x2).size : Int) then (if 0 ≤ x10 then (if (bt (x1 ++ x2) x10) = 32 then (some true) else (if (bt (x1 ++ x2) x10) = 9 then (some true) else (tocsinlaw3_NameWords.l1 k x0 x1 x2 (wrap64 (x10 + 1))))) else (none)) else (if x1.size + 1 ≤ 9223372036854775807 then (if (x1 ++ (⟨#[61]⟩ : ByteArray)).size + x2.size ≤ 9223372036854775807 then (if ((x1 ++ (⟨#[61]⟩ : ByteArray)) ++ x2).size + 1 ≤ 9223372036854775807 then (if (((x1 ++ (⟨#[61]⟩ : ByteArray)) ++ x2) ++ (⟨#[32]⟩ : ByteArray)).size + x0.size ≤ 9223372036854775807 then ((name_Field.f k ((((x1 ++ (⟨#[61]⟩ : ByteArray)) ++ x2) ++ (⟨#[32]⟩ : ByteArray)) ++ x0) x1).bind fun bt129 => (if bt129.2 = true then (if bt129.1.toList = x2.toList then (some true) else ((tocsinlaw3_hasMark.f k x1).bind fun t131 => (some t131))) else (some false))) else (none)) else (none)) else (none)) else (none))) else (none)
end
def tocsinlaw3_NameWords.f (k : Nat) (a0 : ByteArray) (a1 : ByteArray) (a2 : ByteArray) : Option (Bool) := (tocsinlaw3_awake.f k).bind fun t120 => (if t120 = true then (if (a0.size : Int) > 200 then (tocsinlaw3_NameWords.j0 k a0 a1 a2 true) else (if (a1.size : Int) > 50 then (tocsinlaw3_NameWords.j0 k a0 a1 a2 true) else (tocsinlaw3_NameWords.j0 k a0 a1 a2 (decide ((a2.size : Int) > 50))))) else (some false))
theorem tocsinlaw3_NameWords.mono_l : ∀ k, (∀ y0 y1 y2 y3, LeO (tocsinlaw3_NameWords.j0 k y0 y1 y2 y3) (tocsinlaw3_NameWords.j0 (k + 1) y0 y1 y2 y3)) ∧ (∀ y0 y1 y2 y3 y4 y5, LeO (tocsinlaw3_NameWords.l0 k y0 y1 y2 y3 y4 y5) (tocsinlaw3_NameWords.l0 (k + 1) y0 y1 y2 y3 y4 y5)) ∧ (∀ y0 y1 y2 y3, LeO (tocsinlaw3_NameWords.l1 k y0 y1 y2 y3) (tocsinlaw3_NameWords.l1 (k + 1) y0 y1 y2 y3))
  | 0 => ⟨fun _ _ _ _ r h => by simp [tocsinlaw3_NameWords.j0] at h, fun _ _ _ _ _ _ r h => by simp [tocsinlaw3_NameWords.l0] at h, fun _ _ _ _ r h => by simp [tocsinlaw3_NameWords.l1] at h⟩
  | k + 1 => by
    obtain ⟨ih0, ih1, ih2⟩ := tocsinlaw3_NameWords.mono_l k
    refine ⟨?_, ?_, ?_⟩
    · intro y0 y1 y2 y3
      unfold tocsinlaw3_NameWords.j0
      repeat' first
      | (with_reducible exact ih0 _ _ _ _)
      | (with_reducible exact ih1 _ _ _ _ _ _)
      | (with_reducible exact ih2 _ _ _ _)
      | (with_reducible exact name_Field.mono _ _ _)
      | (with_reducible exact tocsinlaw3_awake.mono _)
      | (with_reducible exact tocsinlaw3_hasMark.mono _ _)
      | (with_reducible exact tocsinlaw3_texts.mono _ _ _)
      | (with_reducible exact LeO.refl _)
      | (with_reducible exact LeO.none _)
      | (with_reducible refine LeO.ite ?_ ?_)
      | (with_reducible refine LeO.bind ?_ (fun _ => ?_))
      | exact ih0 _ _ _ _
      | exact ih1 _ _ _ _ _ _
      | exact ih2 _ _ _ _
      | exact name_Field.mono _ _ _
      | exact tocsinlaw3_awake.mono _
      | exact tocsinlaw3_hasMark.mono _ _
      | exact tocsinlaw3_texts.mono _ _ _
      | exact LeO.none _
      | refine LeO.ite ?_ ?_
      | refine LeO.bind ?_ (fun _ => ?_)
    · intro y0 y1 y2 y3 y4 y5
      unfold tocsinlaw3_NameWords.l0
      repeat' first
      | (with_reducible exact ih0 _ _ _ _)
      | (with_reducible exact ih1 _ _ _ _ _ _)
      | (with_reducible exact ih2 _ _ _ _)
      | (with_reducible exact name_Field.mono _ _ _)
      | (with_reducible exact tocsinlaw3_awake.mono _)
      | (with_reducible exact tocsinlaw3_hasMark.mono _ _)
      | (with_reducible exact tocsinlaw3_texts.mono _ _ _)
      | (with_reducible exact LeO.refl _)
      | (with_reducible exact LeO.none _)
      | (with_reducible refine LeO.ite ?_ ?_)
      | (with_reducible refine LeO.bind ?_ (fun _ => ?_))
      | exact ih0 _ _ _ _
      | exact ih1 _ _ _ _ _ _
      | exact ih2 _ _ _ _
      | exact name_Field.mono _ _ _
      | exact tocsinlaw3_awake.mono _
      | exact tocsinlaw3_hasMark.mono _ _
      | exact tocsinlaw3_texts.mono _ _ _
      | exact LeO.none _
      | refine LeO.ite ?_ ?_
      | refine LeO.bind ?_ (fun _ => ?_)
    · intro y0 y1 y2 y3
      unfold tocsinlaw3_NameWords.l1
      repeat' first
      | (with_reducible exact ih0 _ _ _ _)
      | (with_reducible exact ih1 _ _ _ _ _ _)
      | (with_reducible exact ih2 _ _ _ _)
      | (with_reducible exact name_Field.mono _ _ _)
      | (with_reducible exact tocsinlaw3_awake.mono _)
      | (with_reducible exact tocsinlaw3_hasMark.mono _ _)
      | (with_reducible exact tocsinlaw3_texts.mono _ _ _)
      | (with_reducible exact LeO.refl _)
      | (with_reducible exact LeO.none _)
      | (with_reducible refine LeO.ite ?_ ?_)
      | (with_reducible refine LeO.bind ?_ (fun _ => ?_))
      | exact ih0 _ _ _ _
      | exact ih1 _ _ _ _ _ _
      | exact ih2 _ _ _ _
      | exact name_Field.mono _ _ _
      | exact tocsinlaw3_awake.mono _
      | exact tocsinlaw3_hasMark.mono _ _
      | exact tocsinlaw3_texts.mono _ _ _
      | exact LeO.none _
      | refine LeO.ite ?_ ?_
      | refine LeO.bind ?_ (fun _ => ?_)
theorem tocsinlaw3_NameWords.mono : ∀ a0 a1 a2 k, LeO (tocsinlaw3_NameWords.f k a0 a1 a2) (tocsinlaw3_NameWords.f (k + 1) a0 a1 a2) := by
  intro a0 a1 a2 k
  obtain ⟨ih0, ih1, ih2⟩ := tocsinlaw3_NameWords.mono_l k
  unfold tocsinlaw3_NameWords.f
  repeat' first
      | (with_reducible exact ih0 _ _ _ _)
      | (with_reducible exact ih1 _ _ _ _ _ _)
      | (with_reducible exact ih2 _ _ _ _)
      | (with_reducible exact name_Field.mono _ _ _)
      | (with_reducible exact tocsinlaw3_awake.mono _)
      | (with_reducible exact tocsinlaw3_hasMark.mono _ _)
      | (with_reducible exact tocsinlaw3_texts.mono _ _ _)
      | (with_reducible exact LeO.refl _)
      | (with_reducible exact LeO.none _)
      | (with_reducible refine LeO.ite ?_ ?_)
      | (with_reducible refine LeO.bind ?_ (fun _ => ?_))
      | exact ih0 _ _ _ _
      | exact ih1 _ _ _ _ _ _
      | exact ih2 _ _ _ _
      | exact name_Field.mono _ _ _
      | exact tocsinlaw3_awake.mono _
      | exact tocsinlaw3_hasMark.mono _ _
      | exact tocsinlaw3_texts.mono _ _ _
      | exact LeO.none _
      | refine LeO.ite ?_ ?_
      | refine LeO.bind ?_ (fun _ => ?_)
set_option maxHeartbeats 8000000 in
set_option maxRecDepth 100000 in
theorem tocsinlaw3_NameWords.calls (k : Nat) (a0 : ByteArray) (a1 : ByteArray) (a2 : ByteArray) (r : Bool) (w : World) (hTb : Tab w) (h : tocsinlaw3_NameWords.f k a0 a1 a2 = some r) (hr_ : r = true) :
    Calls Tryd.prog 3 #[.string a0, .string a1, .string a2] w fun e w' => e = .returned (.bool r) ∧ Below w.heap.size w w' := by
  have HTb := Aside0.mk hTb
  clear hTb
  have HB := Aside0.mk (Below.refl w.heap.size w)
  have H : ((tocsinlaw3_awake.f k).bind fun t120 => (if t120 = true then (if (a0.size : Int) > 200 then (tocsinlaw3_NameWords.j0 k a0 a1 a2 true) else (if (a1.size : Int) > 50 then (tocsinlaw3_NameWords.j0 k a0 a1 a2 true) else (tocsinlaw3_NameWords.j0 k a0 a1 a2 (decide ((a2.size : Int) > 50))))) else (some false))) = some r := h
  clear h
  replace H := Option.bind_eq_some_iff.mp H
  obtain ⟨t120, A40, H⟩ := H
  replace H : (if t120 = true then (if (a0.size : Int) > 200 then (tocsinlaw3_NameWords.j0 k a0 a1 a2 true) else (if (a1.size : Int) > 50 then (tocsinlaw3_NameWords.j0 k a0 a1 a2 true) else (tocsinlaw3_NameWords.j0 k a0 a1 a2 (decide ((a2.size : Int) > 50))))) else (some false)) = some r := H
  have A4 := Aside0.mk A40
  clear A40
  by_cases c5 : t120 = true
  · subst c5
    have H1 : (if (a0.size : Int) > 200 then (tocsinlaw3_NameWords.j0 k a0 a1 a2 true) else (if (a1.size : Int) > 50 then (tocsinlaw3_NameWords.j0 k a0 a1 a2 true) else (tocsinlaw3_NameWords.j0 k a0 a1 a2 (decide ((a2.size : Int) > 50))))) = some r := by rw [if_pos rfl] at H; exact H
    clear H
    have H := H1
    clear H1
    have HC6 := Aside0.mk H
    clear H
    go_enter Tryd.func3, Tryd.ntmps3
    go_upto_region 3 with (first | ((with_reducible refine gate_callee (f := 9) rfl ?_); refine goesL_ (some 13) rfl rfl Tryd.func9 (by kernel_rfl) rfl #[] rfl (by (try simp only [List.map_toArray, List.map_cons, List.map_nil]); first | done | rfl | (simp only [List.length_drop, List.length_take]; rfl)) ?_; (with_reducible refine (tocsinlaw3_awake.calls k  true _ (tab_below HTb.out (by repeat (first | (with_reducible first | exact HB.out | apply below_alloc | apply pw_below_drewN | apply below_drew1) | exact HB.out))) A4.out).mono ?_); rintro e w7 ⟨rfl, hb⟩; refine ⟨_, rfl, ?_⟩; have n0_ := Aside0.mk (below_step (by repeat (first | (with_reducible first | exact HB.out | apply below_alloc | apply pw_below_drewN | apply below_drew1) | exact HB.out)) hb); clear HB; have HB := n0_; clear n0_; (try clear hb); (try clear hb2); (try clear hk); (try clear hi)))
    (try simp only [Act.put, List.setIfInBounds_toArray, List.set_cons_zero, List.set_cons_succ])
    go_cut [27] (fun v27 wc => ∃ (kq : Nat) (x27_5 : Bool), v27 = .bool x27_5 ∧ Aside0 (tocsinlaw3_NameWords.j0 kq a0 a1 a2 x27_5 = some r) ∧ Aside0 (kq ≤ k) ∧ Aside0 (Below w.heap.size w wc))
    case first =>
      have H := HC6.out
      clear HC6
      by_cases c8 : (a0.size : Int) > 200
      · rw [if_pos c8] at H
        have c8b0 : decide (200 < (a0.size : Int)) = true := decide_eq_true c8
        have c8b1 : decide (200 < a0.size) = true := decide_eq_true (by omega)
        clear c8
        (first | rw [c8b0] | (simp only [i64_w, i32_w]; rw [c8b0]) | skip)
        have H' := Aside0.mk H
        clear H
        go_wp2
        go_meet
        case rel => exact ⟨_, (true), (by first | rfl | (simp; done) | (simp [*]; done)), H', ⟨by first | omega | exact Nat.le_refl _⟩, ⟨by repeat (first | (with_reducible first | exact HB.out | apply below_alloc | apply pw_below_drewN | apply below_drew1) | exact HB.out)⟩⟩
      · rw [if_neg c8] at H
        have c8b0 : decide (200 < (a0.size : Int)) = false := decide_eq_false c8
        have c8b1 : decide (200 < a0.size) = false := decide_eq_false (by omega)
        clear c8
        (first | rw [c8b0] | (simp only [i64_w, i32_w]; rw [c8b0]) | skip)
        by_cases c9 : (a1.size : Int) > 50
        · rw [if_pos c9] at H
          have c9b0 : decide (50 < (a1.size : Int)) = true := decide_eq_true c9
          have c9b1 : decide (50 < a1.size) = true := decide_eq_true (by omega)
          clear c9
          have H' := Aside0.mk H
          clear H
          go_wp2
          go_meet
          case rel => exact ⟨_, (true), (by first | rfl | (simp; done) | (simp [*]; done)), H', ⟨by first | omega | exact Nat.le_refl _⟩, ⟨by repeat (first | (with_reducible first | exact HB.out | apply below_alloc | apply pw_below_drewN | apply below_drew1) | exact HB.out)⟩⟩
        · rw [if_neg c9] at H
          have c9b0 : decide (50 < (a1.size : Int)) = false := decide_eq_false c9
          have c9b1 : decide (50 < a1.size) = false := decide_eq_false (by omega)
          clear c9
          have H' := Aside0.mk H
          clear H
          go_wp2
          go_meet
          case rel => exact ⟨_, (decide ((a2.size : Int) > 50)), (by first | rfl | (simp; done) | (simp [*]; done)), H', ⟨by first | omega | exact Nat.le_refl _⟩, ⟨by repeat (first | (with_reducible first | exact HB.out | apply below_alloc | apply pw_below_drewN | apply below_drew1) | exact HB.out)⟩⟩
    case rest =>
      clear HC6
      try clear p2
      try clear c3
      try clear c5
      try clear c8
      try clear c8b0
      try clear c8b1
      try clear c9
      try clear c9b0
      try clear c9b1
      obtain ⟨kq, x27_5, rfl, HA, HJ5, HB⟩ := hcut
      cases kq with
      | zero => exact absurd HA.out (by simp [tocsinlaw3_NameWords.j0])
      | succ kj5 =>
        have H := HA.out
        clear HA
        simp only [tocsinlaw3_NameWords.j0] at H
        by_cases c10 : x27_5 = true
        · subst c10
          have H1 : (some true) = some r := by rw [if_pos rfl] at H; exact H
          clear H
          have H := H1
          clear H1
          obtain rfl := Option.some.inj H
          go_wp2
          go_ret
          exact ⟨by first | rfl | (simp [errW_none, errW_some] <;> rfl) | (simp [*, errW_none, errW_some] <;> rfl), by repeat (first | (with_reducible first | exact HB.out | apply below_alloc | apply pw_below_drewN | apply below_drew1) | exact HB.out)⟩
        · replace c10 := Bool.eq_false_iff.mpr c10
          subst c10
          have H1 : ((name_Words.f a0).bind fun t121 => (tocsinlaw3_NameWords.l0 kj5 a0 a1 a2 t121 (⟨#[]⟩ : ByteArray) 0)) = some r := by rw [if_neg (show ¬ (false = true) by decide)] at H; exact H
          clear H
          have H := H1
          clear H1
          replace H := Option.bind_eq_some_iff.mp H
          obtain ⟨t121, A110, H⟩ := H
          replace H : (tocsinlaw3_NameWords.l0 kj5 a0 a1 a2 t121 (⟨#[]⟩ : ByteArray) 0) = some r := H
          have A11 := Aside0.mk A110
          clear A110
          have H' := Aside0.mk H
          clear H
          go_wp2_with (first | ((with_reducible refine gate_callee (f := 10) rfl ?_); refine goesL_ (some 29) rfl rfl Tryd.func10 (by kernel_rfl) rfl #[.string a0] rfl (by (try simp only [List.map_toArray, List.map_cons, List.map_nil]); first | done | rfl | (simp only [List.length_drop, List.length_take]; rfl)) ?_; (with_reducible refine (name_Words.calls a0 t121 _ A11.out).mono ?_); rintro e w12 ⟨v122, rfl, ho0, hb⟩; refine ⟨_, rfl, ?_⟩; have n0_ := Aside0.mk (Kd.R_lower ho0 (below_size (by repeat (first | (with_reducible first | exact HB.out | apply below_alloc | apply pw_below_drewN | apply below_drew1) | exact HB.out)))); have n1_ := Aside0.mk (below_step (by repeat (first | (with_reducible first | exact HB.out | apply below_alloc | apply pw_below_drewN | apply below_drew1) | exact HB.out)) hb); clear HB; have HO123 := n0_; have HB := n1_; clear n0_ n1_; (try clear hb); (try clear hb2); (try clear hk); (try clear hi); (try clear ho0)))
          go_loopg [8, 9] kj5 (fun kq v8 v9 w' => ∃ (x8_2 : ByteArray) (x9_2 : Int), v8 = .string x8_2 ∧ v9 = .int .i64 x9_2 ∧ Aside0 (tocsinlaw3_NameWords.l0 kq a0 a1 a2 t121 x8_2 x9_2 = some r) ∧ Aside0 (kq ≤ kj5) ∧ Aside0 (Kd.R Kd.string 9 w' w.heap.size (fun _ => True) v122 t121) ∧ Aside0 (Below w.heap.size w w'))
          case atStart => exact ⟨((⟨#[]⟩ : ByteArray)), (0), (by first | rfl | (simp; done) | (simp [*]; done)), (by first | rfl | (simp; done) | (simp [*]; done)), H', ⟨Nat.le_refl _⟩, ⟨by (with_reducible repeat (first | apply Kd.R_alloc | apply Kd.R_drewN | apply Kd.R_drew)); exact HO123.out⟩, ⟨by repeat (first | (with_reducible first | exact HB.out | apply below_alloc | apply pw_below_drewN | apply below_drew1) | exact HB.out)⟩⟩
          case round =>
            clear H'
            try clear c1
            try clear p2
            try clear c3
            try clear c5
            try clear c8
            try clear c8b0
            try clear c8b1
            try clear c9
            try clear c9b0
            try clear c9b1
            try clear c10
            try clear p2
            obtain ⟨x8_2, x9_2, rfl, rfl, HA, HK2, HO_7, HB⟩ := hrel
            cases gk with
            | zero => exact absurd HA.out (by simp [tocsinlaw3_NameWords.l0])
            | succ k2 =>
              have H := HA.out
              clear HA
              simp only [tocsinlaw3_NameWords.l0] at H
              by_cases c13 : x9_2 < (t121.length : Int)
              · rw [if_pos c13] at H
                have c13b0 : decide (x9_2 < (t121.length : Int)) = true := decide_eq_true c13
                clear c13
                by_cases c14 : x8_2.size + 2 ≤ 9223372036854775807
                · rw [if_pos c14] at H
                  have c14b0 := eq_true c14
                  have c14b1 : decide (x8_2.size + 2 ≤ 9223372036854775807) = true := decide_eq_true c14
                  try have c14b2 : (9223372036854775807 < x8_2.size + 2) = False := eq_false (Nat.not_lt.2 c14)
                  by_cases c15 : 0 ≤ x9_2
                  · rw [if_pos c15] at H
                    have c15b0 : decide (0 ≤ x9_2) = true := decide_eq_true c15
                    clear c15
                    by_cases c16 : (x8_2 ++ (⟨#[32, 32]⟩ : ByteArray)).size + (rdOf ByteArray.empty t121 x9_2).size ≤ 9223372036854775807
                    · rw [if_pos c16] at H
                      have c16b0 := eq_true c16
                      have c16b1 : decide ((x8_2 ++ (⟨#[32, 32]⟩ : ByteArray)).size + (rdOf ByteArray.empty t121 x9_2).size ≤ 9223372036854775807) = true := decide_eq_true c16
                      try have c16b1s := c16b1
                      try simp only [ByteArray.size_append, (show (⟨#[61]⟩ : ByteArray).size = 1 from rfl), (show (⟨#[32]⟩ : ByteArray).size = 1 from rfl), (show (⟨#[32, 32]⟩ : ByteArray).size = 2 from rfl)] at c16b1s
                      try have c16b2 : (9223372036854775807 < (x8_2 ++ (⟨#[32, 32]⟩ : ByteArray)).size + (rdOf ByteArray.empty t121 x9_2).size) = False := eq_false (Nat.not_lt.2 c16)
                      try have c16b2s := c16b2
                      try simp only [ByteArray.size_append, (show (⟨#[61]⟩ : ByteArray).size = 1 from rfl), (show (⟨#[32]⟩ : ByteArray).size = 1 from rfl), (show (⟨#[32, 32]⟩ : ByteArray).size = 2 from rfl)] at c16b2s
                      have H' := Aside0.mk H
                      clear H
                      obtain ⟨Ao17, co17, eo17⟩ := Kd.R_slice HO_7.out
                      subst eo17
                      have p124 : 0 ≤ (x9_2 : Int) := of_decide_eq_true (by first | (with_reducible assumption) | assumption)
                      have q124 : x9_2 < (t121.length : Int) := of_decide_eq_true (by first | (with_reducible assumption) | assumption)
                      obtain ⟨ad124, e124, hx124_0⟩ := Kd.at_string (Kd.R_reads' HO_7.out).2.2 x9_2 p124 q124
                      cases e124
                      replace p124 := eq_true p124
                      replace q124 := eq_true q124
                      go_wp2
                      go_roundg k2
                      case measure => have := HJ5.out; have := HK2.out; omega
                      case rel => exact ⟨((x8_2 ++ (⟨#[32, 32]⟩ : ByteArray)) ++ (rdOf ByteArray.empty t121 x9_2)), (wrap64 (x9_2 + 1)), (by first | rfl | (simp; done) | (simp [*]; done)), (by first | rfl | (simp; done) | (simp [*]; done)), H', ⟨by have := HJ5.out; have := HK2.out; omega⟩, ⟨by (with_reducible repeat (first | apply Kd.R_alloc | apply Kd.R_drewN | apply Kd.R_drew)); exact HO_7.out⟩, ⟨by repeat (first | (with_reducible first | exact HB.out | apply below_alloc | apply pw_below_drewN | apply below_drew1) | exact HB.out)⟩⟩
                    · rw [if_neg c16] at H
                      exact absurd H (by simp)
                  · rw [if_neg c15] at H
                    exact absurd H (by simp)
                · rw [if_neg c14] at H
                  exact absurd H (by simp)
              · rw [if_neg c13] at H
                have c13b0 : decide (x9_2 < (t121.length : Int)) = false := decide_eq_false c13
                clear c13
                replace H := Option.bind_eq_some_iff.mp H
                obtain ⟨t125, A180, H⟩ := H
                replace H : ((tocsinlaw3_texts.f k2 t125 t121).bind fun t128 => (if t128 = true then (tocsinlaw3_NameWords.l1 k2 a0 a1 a2 0) else (some false))) = some r := H
                have A18 := Aside0.mk A180
                clear A180
                replace H := Option.bind_eq_some_iff.mp H
                obtain ⟨t128, A190, H⟩ := H
                replace H : (if t128 = true then (tocsinlaw3_NameWords.l1 k2 a0 a1 a2 0) else (some false)) = some r := H
                have A19 := Aside0.mk A190
                clear A190
                by_cases c20 : t128 = true
                · subst c20
                  have H1 : (tocsinlaw3_NameWords.l1 k2 a0 a1 a2 0) = some r := by rw [if_pos rfl] at H; exact H
                  clear H
                  have H := H1
                  clear H1
                  have H' := Aside0.mk H
                  clear H
                  obtain ⟨Ao21, co21, eo21⟩ := Kd.R_slice HO_7.out
                  subst eo21
                  go_wp2_with (first | ((with_reducible refine gate_callee (f := 10) rfl ?_); refine goesL_ (some 44) rfl rfl Tryd.func10 (by kernel_rfl) rfl #[.string x8_2] rfl (by (try simp only [List.map_toArray, List.map_cons, List.map_nil]); first | done | rfl | (simp only [List.length_drop, List.length_take]; rfl)) ?_; (with_reducible refine (name_Words.calls x8_2 t125 _ A18.out).mono ?_); rintro e w22 ⟨v126, rfl, ho0, hb⟩; refine ⟨_, rfl, ?_⟩; have n0_ := Aside0.mk (Kd.R_elder' (by (with_reducible repeat (first | apply Kd.R_alloc | apply Kd.R_drewN | apply Kd.R_drew)); exact HO_7.out) (Kd.R_base ho0) hb); have n1_ := Aside0.mk (Kd.R_lower (Kd.R_new' ho0 (Kd.R_lt (by (with_reducible repeat (first | apply Kd.R_alloc | apply Kd.R_drewN | apply Kd.R_drew)); exact HO_7.out))) (below_size (by repeat (first | (with_reducible first | exact HB.out | apply below_alloc | apply pw_below_drewN | apply below_drew1) | exact HB.out)))); have n2_ := Aside0.mk (below_step (by repeat (first | (with_reducible first | exact HB.out | apply below_alloc | apply pw_below_drewN | apply below_drew1) | exact HB.out)) hb); clear HO_7; clear HB; have HO_7 := n0_; have HO127 := n1_; have HB := n2_; clear n0_ n1_ n2_; (try clear hb); (try clear hb2); (try clear hk); (try clear hi); (try clear ho0); obtain ⟨Ao23, co23, eo23⟩ := Kd.R_slice HO127.out; subst eo23) | ((with_reducible refine gate_callee (f := 11) rfl ?_); refine goesL_ (some 46) rfl rfl Tryd.func11 (by kernel_rfl) rfl #[.slice Ao23 t125.length co23, .slice Ao21 t121.length co21] rfl (by (try simp only [List.map_toArray, List.map_cons, List.map_nil]); first | done | rfl | (simp only [List.length_drop, List.length_take]; rfl)) ?_; (with_reducible refine (tocsinlaw3_texts.calls k2 _ _ t125 _ _ t121 true _ ?side1 ?side2 ?side3 ?side4 A19.out).mono ?_); (case side1 => repeat (first | exact (Kd.R_reads' HO127.out).2.2 | (with_reducible refine Kd.C_alloc ?_ _) | (with_reducible refine Kd.C_drewN ?_ _) | (with_reducible refine Kd.C_drew ?_))); (case side2 => exact (Kd.R_reads' HO127.out).2.1); (case side3 => repeat (first | exact (Kd.R_reads' HO_7.out).2.2 | (with_reducible refine Kd.C_alloc ?_ _) | (with_reducible refine Kd.C_drewN ?_ _) | (with_reducible refine Kd.C_drew ?_))); (case side4 => exact (Kd.R_reads' HO_7.out).2.1); rintro e w' ⟨rfl, ⟨nd, rfl⟩⟩; refine ⟨_, rfl, ?_⟩))
                  go_loopg [10] k2 (fun kq v10 w' => ∃ (x10_3 : Int), v10 = .int .i64 x10_3 ∧ Aside0 (tocsinlaw3_NameWords.l1 kq a0 a1 a2 x10_3 = some r) ∧ Aside0 (kq ≤ k2) ∧ Aside0 (Below w.heap.size w w'))
                  case atStart => exact ⟨(0), (by first | rfl | (simp; done) | (simp [*]; done)), H', ⟨Nat.le_refl _⟩, ⟨by repeat (first | (with_reducible first | exact HB.out | apply below_alloc | apply pw_below_drewN | apply below_drew1) | exact HB.out)⟩⟩
                  case round =>
                    clear H'
                    try clear c1
                    try clear p1
                    try clear q1
                    try clear hx1
                    try clear c2
                    try clear p2
                    try clear c3
                    try clear c5
                    try clear p6
                    try clear c8
                    try clear c8b0
                    try clear c8b1
                    try clear c9
                    try clear c9b0
                    try clear c9b1
                    try clear c10
                    try clear c11
                    try clear p12
                    try clear q12
                    try clear hx12
                    try clear c13
                    try clear c13b0
                    try clear c14
                    try clear c14b0
                    try clear c14b1
                    try clear c14b2
                    try clear c15
                    try clear c15b0
                    try clear c16
                    try clear c16b0
                    try clear c16b1
                    try clear c16b2
                    try clear c20
                    try clear hx124_0
                    try clear p124
                    try clear p2
                    try clear q124
                    obtain ⟨x10_3, rfl, HA, HK3, HB⟩ := hrel
                    cases gk with
                    | zero => exact absurd HA.out (by simp [tocsinlaw3_NameWords.l1])
                    | succ k3 =>
                      have H := HA.out
                      clear HA
                      simp only [tocsinlaw3_NameWords.l1] at H
                      by_cases c24 : a1.size + a2.size ≤ 9223372036854775807
                      · rw [if_pos c24] at H
                        have c24b0 := eq_true c24
                        have c24b1 : decide (a1.size + a2.size ≤ 9223372036854775807) = true := decide_eq_true c24
                        try have c24b2 : (9223372036854775807 < a1.size + a2.size) = False := eq_false (Nat.not_lt.2 c24)
                        by_cases c25 : x10_3 < ((a1 ++ a2).size : Int)
                        · rw [if_pos c25] at H
                          have c25b0 : decide (x10_3 < ((a1 ++ a2).size : Int)) = true := decide_eq_true c25
                          have c25b0s : decide (x10_3 < ((a1.size : Int) + (a2.size : Int))) = true := by have h_ := c25b0; rw [ByteArray.size_append, Int.natCast_add] at h_; exact h_
                          clear c25
                          by_cases c26 : 0 ≤ x10_3
                          · rw [if_pos c26] at H
                            have c26b0 : decide (0 ≤ x10_3) = true := decide_eq_true c26
                            clear c26
                            by_cases c28 : (bt (a1 ++ a2) x10_3) = 32
                            · rw [if_pos c28] at H
                              have c28b0 : ((bt (a1 ++ a2) x10_3) == 32) = true := beq_iff_eq.mpr c28
                              have c28b1 : ((bt (a1 ++ a2) x10_3) != 32) = false := bne_eq_false_iff_eq.mpr c28
                              clear c28
                              obtain rfl := Option.some.inj H
                              first
                              | exact absurd hr_ (by decide)
                              | have p27 : 0 ≤ (x10_3 : Int) := of_decide_eq_true (by first | (with_reducible assumption) | assumption)
                                have q27 : x10_3 < ((a1 ++ a2).size : Int) := of_decide_eq_true (by first | (with_reducible assumption) | assumption)
                                have hx27 := bt_at (a1 ++ a2) x10_3
                                replace p27 := eq_true p27
                                replace q27 := eq_true q27
                                have q27s : (x10_3 < ((a1.size : Int) + (a2.size : Int))) = True := by have h_ := q27; rw [ByteArray.size_append, Int.natCast_add] at h_; exact h_
                                go_wp2
                                go_ret
                                exact ⟨by first | rfl | (simp [errW_none, errW_some] <;> rfl) | (simp [*, errW_none, errW_some] <;> rfl), by repeat (first | (with_reducible first | exact HB.out | apply below_alloc | apply pw_below_drewN | apply below_drew1) | exact HB.out)⟩
                            · rw [if_neg c28] at H
                              have c28b0 : ((bt (a1 ++ a2) x10_3) == 32) = false := beq_eq_false_iff_ne.mpr c28
                              have c28b1 : ((bt (a1 ++ a2) x10_3) != 32) = true := bne_iff_ne.mpr c28
                              by_cases c30 : (bt (a1 ++ a2) x10_3) = 9
                              · rw [if_pos c30] at H
                                have c30b0 : ((bt (a1 ++ a2) x10_3) == 9) = true := beq_iff_eq.mpr c30
                                have c30b1 : ((bt (a1 ++ a2) x10_3) != 9) = false := bne_eq_false_iff_eq.mpr c30
                                clear c30
                                obtain rfl := Option.some.inj H
                                first
                                | exact absurd hr_ (by decide)
                                | have p27 : 0 ≤ (x10_3 : Int) := of_decide_eq_true (by first | (with_reducible assumption) | assumption)
                                  have q27 : x10_3 < ((a1 ++ a2).size : Int) := of_decide_eq_true (by first | (with_reducible assumption) | assumption)
                                  have hx27 := bt_at (a1 ++ a2) x10_3
                                  replace p27 := eq_true p27
                                  replace q27 := eq_true q27
                                  have q27s : (x10_3 < ((a1.size : Int) + (a2.size : Int))) = True := by have h_ := q27; rw [ByteArray.size_append, Int.natCast_add] at h_; exact h_
                                  have p29 : 0 ≤ (x10_3 : Int) := of_decide_eq_true (by first | (with_reducible assumption) | assumption)
                                  have q29 : x10_3 < ((a1 ++ a2).size : Int) := of_decide_eq_true (by first | (with_reducible assumption) | assumption)
                                  have hx29 := bt_at (a1 ++ a2) x10_3
                                  replace p29 := eq_true p29
                                  replace q29 := eq_true q29
                                  have q29s : (x10_3 < ((a1.size : Int) + (a2.size : Int))) = True := by have h_ := q29; rw [ByteArray.size_append, Int.natCast_add] at h_; exact h_
                                  go_wp2
                                  go_ret
                                  exact ⟨by first | rfl | (simp [errW_none, errW_some] <;> rfl) | (simp [*, errW_none, errW_some] <;> rfl), by repeat (first | (with_reducible first | exact HB.out | apply below_alloc | apply pw_below_drewN | apply below_drew1) | exact HB.out)⟩
                              · rw [if_neg c30] at H
                                have c30b0 : ((bt (a1 ++ a2) x10_3) == 9) = false := beq_eq_false_iff_ne.mpr c30
                                have c30b1 : ((bt (a1 ++ a2) x10_3) != 9) = true := bne_iff_ne.mpr c30
                                have H' := Aside0.mk H
                                clear H
                                have p27 : 0 ≤ (x10_3 : Int) := of_decide_eq_true (by first | (with_reducible assumption) | assumption)
                                have q27 : x10_3 < ((a1 ++ a2).size : Int) := of_decide_eq_true (by first | (with_reducible assumption) | assumption)
                                have hx27 := bt_at (a1 ++ a2) x10_3
                                replace p27 := eq_true p27
                                replace q27 := eq_true q27
                                have q27s : (x10_3 < ((a1.size : Int) + (a2.size : Int))) = True := by have h_ := q27; rw [ByteArray.size_append, Int.natCast_add] at h_; exact h_
                                have p29 : 0 ≤ (x10_3 : Int) := of_decide_eq_true (by first | (with_reducible assumption) | assumption)
                                have q29 : x10_3 < ((a1 ++ a2).size : Int) := of_decide_eq_true (by first | (with_reducible assumption) | assumption)
                                have hx29 := bt_at (a1 ++ a2) x10_3
                                replace p29 := eq_true p29
                                replace q29 := eq_true q29
                                have q29s : (x10_3 < ((a1.size : Int) + (a2.size : Int))) = True := by have h_ := q29; rw [ByteArray.size_append, Int.natCast_add] at h_; exact h_
                                go_wp2
                                go_roundg k3
                                case measure => have := HJ5.out; have := HK2.out; have := HK3.out; omega
                                case rel => exact ⟨(wrap64 (x10_3 + 1)), (by first | rfl | (simp; done) | (simp [*]; done)), H', ⟨by have := HJ5.out; have := HK2.out; have := HK3.out; omega⟩, ⟨by repeat (first | (with_reducible first | exact HB.out | apply below_alloc | apply pw_below_drewN | apply below_drew1) | exact HB.out)⟩⟩
                          · rw [if_neg c26] at H
                            exact absurd H (by simp)
                        · rw [if_neg c25] at H
                          have c25b0 : decide (x10_3 < ((a1 ++ a2).size : Int)) = false := decide_eq_false c25
                          have c25b0s : decide (x10_3 < ((a1.size : Int) + (a2.size : Int))) = false := by have h_ := c25b0; rw [ByteArray.size_append, Int.natCast_add] at h_; exact h_
                          clear c25
                          by_cases c31 : a1.size + 1 ≤ 9223372036854775807
                          · rw [if_pos c31] at H
                            have c31b0 := eq_true c31
                            have c31b1 : decide (a1.size + 1 ≤ 9223372036854775807) = true := decide_eq_true c31
                            try have c31b2 : (9223372036854775807 < a1.size + 1) = False := eq_false (Nat.not_lt.2 c31)
                            by_cases c32 : (a1 ++ (⟨#[61]⟩ : ByteArray)).size + a2.size ≤ 9223372036854775807
                            · rw [if_pos c32] at H
                              have c32b0 := eq_true c32
                              have c32b1 : decide ((a1 ++ (⟨#[61]⟩ : ByteArray)).size + a2.size ≤ 9223372036854775807) = true := decide_eq_true c32
                              try have c32b1s := c32b1
                              try simp only [ByteArray.size_append, (show (⟨#[61]⟩ : ByteArray).size = 1 from rfl), (show (⟨#[32]⟩ : ByteArray).size = 1 from rfl), (show (⟨#[32, 32]⟩ : ByteArray).size = 2 from rfl)] at c32b1s
                              try have c32b2 : (9223372036854775807 < (a1 ++ (⟨#[61]⟩ : ByteArray)).size + a2.size) = False := eq_false (Nat.not_lt.2 c32)
                              try have c32b2s := c32b2
                              try simp only [ByteArray.size_append, (show (⟨#[61]⟩ : ByteArray).size = 1 from rfl), (show (⟨#[32]⟩ : ByteArray).size = 1 from rfl), (show (⟨#[32, 32]⟩ : ByteArray).size = 2 from rfl)] at c32b2s
                              by_cases c33 : ((a1 ++ (⟨#[61]⟩ : ByteArray)) ++ a2).size + 1 ≤ 9223372036854775807
                              · rw [if_pos c33] at H
                                have c33b0 := eq_true c33
                                have c33b1 : decide (((a1 ++ (⟨#[61]⟩ : ByteArray)) ++ a2).size + 1 ≤ 9223372036854775807) = true := decide_eq_true c33
                                try have c33b1s := c33b1
                                try simp only [ByteArray.size_append, (show (⟨#[61]⟩ : ByteArray).size = 1 from rfl), (show (⟨#[32]⟩ : ByteArray).size = 1 from rfl), (show (⟨#[32, 32]⟩ : ByteArray).size = 2 from rfl)] at c33b1s
                                try have c33b2 : (9223372036854775807 < ((a1 ++ (⟨#[61]⟩ : ByteArray)) ++ a2).size + 1) = False := eq_false (Nat.not_lt.2 c33)
                                try have c33b2s := c33b2
                                try simp only [ByteArray.size_append, (show (⟨#[61]⟩ : ByteArray).size = 1 from rfl), (show (⟨#[32]⟩ : ByteArray).size = 1 from rfl), (show (⟨#[32, 32]⟩ : ByteArray).size = 2 from rfl)] at c33b2s
                                by_cases c34 : (((a1 ++ (⟨#[61]⟩ : ByteArray)) ++ a2) ++ (⟨#[32]⟩ : ByteArray)).size + a0.size ≤ 9223372036854775807
                                · rw [if_pos c34] at H
                                  have c34b0 := eq_true c34
                                  have c34b1 : decide ((((a1 ++ (⟨#[61]⟩ : ByteArray)) ++ a2) ++ (⟨#[32]⟩ : ByteArray)).size + a0.size ≤ 9223372036854775807) = true := decide_eq_true c34
                                  try have c34b1s := c34b1
                                  try simp only [ByteArray.size_append, (show (⟨#[61]⟩ : ByteArray).size = 1 from rfl), (show (⟨#[32]⟩ : ByteArray).size = 1 from rfl), (show (⟨#[32, 32]⟩ : ByteArray).size = 2 from rfl)] at c34b1s
                                  try have c34b2 : (9223372036854775807 < (((a1 ++ (⟨#[61]⟩ : ByteArray)) ++ a2) ++ (⟨#[32]⟩ : ByteArray)).size + a0.size) = False := eq_false (Nat.not_lt.2 c34)
                                  try have c34b2s := c34b2
                                  try simp only [ByteArray.size_append, (show (⟨#[61]⟩ : ByteArray).size = 1 from rfl), (show (⟨#[32]⟩ : ByteArray).size = 1 from rfl), (show (⟨#[32, 32]⟩ : ByteArray).size = 2 from rfl)] at c34b2s
                                  replace H := Option.bind_eq_some_iff.mp H
                                  obtain ⟨⟨t129, t130⟩, A350, H⟩ := H
                                  replace H : (if t130 = true then (if t129.toList = a2.toList then (some true) else ((tocsinlaw3_hasMark.f k3 a1).bind fun t131 => (some t131))) else (some false)) = some r := H
                                  have A35 := Aside0.mk A350
                                  clear A350
                                  by_cases c36 : t130 = true
                                  · subst c36
                                    have H1 : (if t129.toList = a2.toList then (some true) else ((tocsinlaw3_hasMark.f k3 a1).bind fun t131 => (some t131))) = some r := by rw [if_pos rfl] at H; exact H
                                    clear H
                                    have H := H1
                                    clear H1
                                    by_cases c37 : t129.toList = a2.toList
                                    · rw [if_pos c37] at H
                                      have c37b0 : (t129.toList == a2.toList) = true := beq_iff_eq.mpr c37
                                      have c37b1 : (t129.toList != a2.toList) = false := bne_eq_false_iff_eq.mpr c37
                                      clear c37
                                      obtain rfl := Option.some.inj H
                                      first
                                      | exact absurd hr_ (by decide)
                                      | go_wp2_with (first | ((with_reducible refine gate_callee (f := 12) rfl ?_); refine goesL_ (some 79) rfl rfl Tryd.func12 (by kernel_rfl) rfl #[.string ((((a1 ++ (⟨#[61]⟩ : ByteArray)) ++ a2) ++ (⟨#[32]⟩ : ByteArray)) ++ a0), .string a1] rfl (by (try simp only [List.map_toArray, List.map_cons, List.map_nil]); first | done | rfl | (simp only [List.length_drop, List.length_take]; rfl)) ?_; (with_reducible refine (name_Field.calls k3 ((((a1 ++ (⟨#[61]⟩ : ByteArray)) ++ a2) ++ (⟨#[32]⟩ : ByteArray)) ++ a0) a1 t129 true _ A35.out).mono ?_); rintro e w38 ⟨rfl, hb⟩; refine ⟨_, rfl, ?_⟩; have n0_ := Aside0.mk (below_step (by repeat (first | (with_reducible first | exact HB.out | apply below_alloc | apply pw_below_drewN | apply below_drew1) | exact HB.out)) hb); clear HB; have HB := n0_; clear n0_; (try clear hb); (try clear hb2); (try clear hk); (try clear hi)))
                                        go_ret
                                        exact ⟨by first | rfl | (simp [errW_none, errW_some] <;> rfl) | (simp [*, errW_none, errW_some] <;> rfl), by repeat (first | (with_reducible first | exact HB.out | apply below_alloc | apply pw_below_drewN | apply below_drew1) | exact HB.out)⟩
                                    · rw [if_neg c37] at H
                                      have c37b0 : (t129.toList == a2.toList) = false := beq_eq_false_iff_ne.mpr c37
                                      have c37b1 : (t129.toList != a2.toList) = true := bne_iff_ne.mpr c37
                                      replace H := Option.bind_eq_some_iff.mp H
                                      obtain ⟨t131, A390, H⟩ := H
                                      replace H : (some t131) = some r := H
                                      have A39 := Aside0.mk A390
                                      clear A390
                                      obtain rfl := Option.some.inj H
                                      first
                                      | exact absurd hr_ (by decide)
                                      | go_wp2_with (first | ((with_reducible refine gate_callee (f := 12) rfl ?_); refine goesL_ (some 79) rfl rfl Tryd.func12 (by kernel_rfl) rfl #[.string ((((a1 ++ (⟨#[61]⟩ : ByteArray)) ++ a2) ++ (⟨#[32]⟩ : ByteArray)) ++ a0), .string a1] rfl (by (try simp only [List.map_toArray, List.map_cons, List.map_nil]); first | done | rfl | (simp only [List.length_drop, List.length_take]; rfl)) ?_; (with_reducible refine (name_Field.calls k3 ((((a1 ++ (⟨#[61]⟩ : ByteArray)) ++ a2) ++ (⟨#[32]⟩ : ByteArray)) ++ a0) a1 t129 true _ A35.out).mono ?_); rintro e w40 ⟨rfl, hb⟩; refine ⟨_, rfl, ?_⟩; have n0_ := Aside0.mk (below_step (by repeat (first | (with_reducible first | exact HB.out | apply below_alloc | apply pw_below_drewN | apply below_drew1) | exact HB.out)) hb); clear HB; have HB := n0_; clear n0_; (try clear hb); (try clear hb2); (try clear hk); (try clear hi)) | (go_at_call 13; (with_reducible refine (tocsinlaw3_hasMark.calls k3 a1 t131 _ A39.out).mono ?_); rintro e w' ⟨rfl, ⟨nd, rfl⟩⟩))
                                        go_ret
                                        exact ⟨by first | rfl | (simp [errW_none, errW_some] <;> rfl) | (simp [*, errW_none, errW_some] <;> rfl), by repeat (first | (with_reducible first | exact HB.out | apply below_alloc | apply pw_below_drewN | apply below_drew1) | exact HB.out)⟩
                                  · replace c36 := Bool.eq_false_iff.mpr c36
                                    subst c36
                                    have H1 : (some false) = some r := by rw [if_neg (show ¬ (false = true) by decide)] at H; exact H
                                    clear H
                                    have H := H1
                                    clear H1
                                    obtain rfl := Option.some.inj H
                                    exact absurd hr_ (by decide)
                                · rw [if_neg c34] at H
                                  exact absurd H (by simp)
                              · rw [if_neg c33] at H
                                exact absurd H (by simp)
                            · rw [if_neg c32] at H
                              exact absurd H (by simp)
                          · rw [if_neg c31] at H
                            exact absurd H (by simp)
                      · rw [if_neg c24] at H
                        exact absurd H (by simp)
                · replace c20 := Bool.eq_false_iff.mpr c20
                  subst c20
                  have H1 : (some false) = some r := by rw [if_neg (show ¬ (false = true) by decide)] at H; exact H
                  clear H
                  have H := H1
                  clear H1
                  obtain rfl := Option.some.inj H
                  exact absurd hr_ (by decide)
  · replace c5 := Bool.eq_false_iff.mpr c5
    subst c5
    have H1 : (some false) = some r := by rw [if_neg (show ¬ (false = true) by decide)] at H; exact H
    clear H
    have H := H1
    clear H1
    obtain rfl := Option.some.inj H
    exact absurd hr_ (by decide)


/-! ### tocsinlaw3_NameParts: function 5 -/
mutual
def tocsinlaw3_NameParts.l0 : Nat → ByteArray → List ByteArray → ByteArray → ByteArray → Int → Option (Bool)
  | 0, _, _, _, _, _ => none
  | k + 1, x0, x3, x4, x5, x6 => if x6 < (x3.length : Int) then (if 0 ≤ x6 then (if (rdOf ByteArray.empty x3 x6).toList = ([] : List UInt8) then (some false) else (if x4.size + (rdOf ByteArray.empty x3 x6).size ≤ 9223372036854775807 then (tocsinlaw3_NameParts.l0 k x0 x3 (x4 ++ (rdOf ByteArray.empty x3 x6)) x5 (wrap64 (x6 + 1))) else (none))) else (none)) else (tocsinlaw3_NameParts.l1 k x0 x4 x5 0)
def tocsinlaw3_NameParts.l1 : Nat → ByteArray → ByteArray → ByteArray → Int → Option (Bool)
  | 0, _, _, _, _ => none
  | k + 1, x0, x4, x5, x7 => if x7 < (x0.size : Int) then (if 0 ≤ x7 then (if (bt x0 x7) = 32 then (tocsinlaw3_NameParts.l1 k x0 x4 x5 (wrap64 (x7 + 1))) else (if (bt x0 x7) = 9 then (tocsinlaw3_NameParts.l1 k x0 x4 x5 (wrap64 (x7 + 1))) else (if x7 ≤ (wrap64 (x7 + 1)) then (if (wrap64 (x7 + 1)) ≤ (x0.size : Int) then (if x5.size + (x0.extract (x7 : Int).toNat ((wrap64 (x7 + 1)) : Int).toNat).size ≤ 9223372036854775807 then (tocsinlaw3_NameParts.l1 k x0 x4 (x5 ++ (x0.extract (x7 : Int).toNat ((wrap64 (x7 + 1)) : Int).toNat)) (wrap64 (x7 + 1))) else (none)) else (none)) else (none)))) else (none)) else (some (x4.toList == x5.toList))
end
def tocsinlaw3_NameParts.f (k : Nat) (a0 : ByteArray) : Option (Bool) := (tocsinlaw3_awake.f k).bind fun t132 => (if t132 = true then (if (a0.size : Int) > 300 then (some true) else ((name_Words.f a0).bind fun t133 => (tocsinlaw3_NameParts.l0 k a0 t133 (⟨#[]⟩ : ByteArray) (⟨#[]⟩ : ByteArray) 0))) else (some false))
theorem tocsinlaw3_NameParts.mono_l : ∀ k, (∀ y0 y1 y2 y3 y4, LeO (tocsinlaw3_NameParts.l0 k y0 y1 y2 y3 y4) (tocsinlaw3_NameParts.l0 (k + 1) y0 y1 y2 y3 y4)) ∧ (∀ y0 y1 y2 y3, LeO (tocsinlaw3_NameParts.l1 k y0 y1 y2 y3) (tocsinlaw3_NameParts.l1 (k + 1) y0 y1 y2 y3))
  | 0 => ⟨fun _ _ _ _ _ r h => by simp [tocsinlaw3_NameParts.l0] at h, fun _ _ _ _ r h => by simp [tocsinlaw3_NameParts.l1] at h⟩
  | k + 1 => by
    obtain ⟨ih0, ih1⟩ := tocsinlaw3_NameParts.mono_l k
    refine ⟨?_, ?_⟩
    · intro y0 y1 y2 y3 y4
      unfold tocsinlaw3_NameParts.l0
      repeat' first
      | (with_reducible exact ih0 _ _ _ _ _)
      | (with_reducible exact ih1 _ _ _ _)
      | (with_reducible exact tocsinlaw3_awake.mono _)
      | (with_reducible exact LeO.refl _)
      | (with_reducible exact LeO.none _)
      | (with_reducible refine LeO.ite ?_ ?_)
      | (with_reducible refine LeO.bind ?_ (fun _ => ?_))
      | exact ih0 _ _ _ _ _
      | exact ih1 _ _ _ _
      | exact tocsinlaw3_awake.mono _
      | exact LeO.none _
      | refine LeO.ite ?_ ?_
      | refine LeO.bind ?_ (fun _ => ?_)
    · intro y0 y1 y2 y3
      unfold tocsinlaw3_NameParts.l1
      repeat' first
      | (with_reducible exact ih0 _ _ _ _ _)
      | (with_reducible exact ih1 _ _ _ _)
      | (with_reducible exact tocsinlaw3_awake.mono _)
      | (with_reducible exact LeO.refl _)
      | (with_reducible exact LeO.none _)
      | (with_reducible refine LeO.ite ?_ ?_)
      | (with_reducible refine LeO.bind ?_ (fun _ => ?_))
      | exact ih0 _ _ _ _ _
      | exact ih1 _ _ _ _
      | exact tocsinlaw3_awake.mono _
      | exact LeO.none _
      | refine LeO.ite ?_ ?_
      | refine LeO.bind ?_ (fun _ => ?_)
theorem tocsinlaw3_NameParts.mono : ∀ a0 k, LeO (tocsinlaw3_NameParts.f k a0) (tocsinlaw3_NameParts.f (k + 1) a0) := by
  intro a0 k
  obtain ⟨ih0, ih1⟩ := tocsinlaw3_NameParts.mono_l k
  unfold tocsinlaw3_NameParts.f
  repeat' first
      | (with_reducible exact ih0 _ _ _ _ _)
      | (with_reducible exact ih1 _ _ _ _)
      | (with_reducible exact tocsinlaw3_awake.mono _)
      | (with_reducible exact LeO.refl _)
      | (with_reducible exact LeO.none _)
      | (with_reducible refine LeO.ite ?_ ?_)
      | (with_reducible refine LeO.bind ?_ (fun _ => ?_))
      | exact ih0 _ _ _ _ _
      | exact ih1 _ _ _ _
      | exact tocsinlaw3_awake.mono _
      | exact LeO.none _
      | refine LeO.ite ?_ ?_
      | refine LeO.bind ?_ (fun _ => ?_)
set_option maxHeartbeats 8000000 in
set_option maxRecDepth 100000 in
theorem tocsinlaw3_NameParts.calls (k : Nat) (a0 : ByteArray) (r : Bool) (w : World) (hTb : Tab w) (h : tocsinlaw3_NameParts.f k a0 = some r) (hr_ : r = true) :
    Calls Tryd.prog 5 #[.string a0] w fun e w' => e = .returned (.bool r) ∧ Below w.heap.size w w' := by
  have HTb := Aside0.mk hTb
  clear hTb
  have HB := Aside0.mk (Below.refl w.heap.size w)
  have H : ((tocsinlaw3_awake.f k).bind fun t132 => (if t132 = true then (if (a0.size : Int) > 300 then (some true) else ((name_Words.f a0).bind fun t133 => (tocsinlaw3_NameParts.l0 k a0 t133 (⟨#[]⟩ : ByteArray) (⟨#[]⟩ : ByteArray) 0))) else (some false))) = some r := h
  clear h
  replace H := Option.bind_eq_some_iff.mp H
  obtain ⟨t132, A20, H⟩ := H
  replace H : (if t132 = true then (if (a0.size : Int) > 300 then (some true) else ((name_Words.f a0).bind fun t133 => (tocsinlaw3_NameParts.l0 k a0 t133 (⟨#[]⟩ : ByteArray) (⟨#[]⟩ : ByteArray) 0))) else (some false)) = some r := H
  have A2 := Aside0.mk A20
  clear A20
  by_cases c3 : t132 = true
  · subst c3
    have H1 : (if (a0.size : Int) > 300 then (some true) else ((name_Words.f a0).bind fun t133 => (tocsinlaw3_NameParts.l0 k a0 t133 (⟨#[]⟩ : ByteArray) (⟨#[]⟩ : ByteArray) 0))) = some r := by rw [if_pos rfl] at H; exact H
    clear H
    have H := H1
    clear H1
    by_cases c4 : (a0.size : Int) > 300
    · rw [if_pos c4] at H
      have c4b0 : decide (300 < (a0.size : Int)) = true := decide_eq_true c4
      have c4b1 : decide (300 < a0.size) = true := decide_eq_true (by omega)
      clear c4
      obtain rfl := Option.some.inj H
      first
      | exact absurd hr_ (by decide)
      | go_enter Tryd.func5, Tryd.ntmps5
        go_wp2_with (first | ((with_reducible refine gate_callee (f := 9) rfl ?_); refine goesL_ (some 8) rfl rfl Tryd.func9 (by kernel_rfl) rfl #[] rfl (by (try simp only [List.map_toArray, List.map_cons, List.map_nil]); first | done | rfl | (simp only [List.length_drop, List.length_take]; rfl)) ?_; (with_reducible refine (tocsinlaw3_awake.calls k  true _ (tab_below HTb.out (by repeat (first | (with_reducible first | exact HB.out | apply below_alloc | apply pw_below_drewN | apply below_drew1) | exact HB.out))) A2.out).mono ?_); rintro e w5 ⟨rfl, hb⟩; refine ⟨_, rfl, ?_⟩; have n0_ := Aside0.mk (below_step (by repeat (first | (with_reducible first | exact HB.out | apply below_alloc | apply pw_below_drewN | apply below_drew1) | exact HB.out)) hb); clear HB; have HB := n0_; clear n0_; (try clear hb); (try clear hb2); (try clear hk); (try clear hi)))
        go_ret
        exact ⟨by first | rfl | (simp [errW_none, errW_some] <;> rfl) | (simp [*, errW_none, errW_some] <;> rfl), by repeat (first | (with_reducible first | exact HB.out | apply below_alloc | apply pw_below_drewN | apply below_drew1) | exact HB.out)⟩
    · rw [if_neg c4] at H
      have c4b0 : decide (300 < (a0.size : Int)) = false := decide_eq_false c4
      have c4b1 : decide (300 < a0.size) = false := decide_eq_false (by omega)
      clear c4
      replace H := Option.bind_eq_some_iff.mp H
      obtain ⟨t133, A60, H⟩ := H
      replace H : (tocsinlaw3_NameParts.l0 k a0 t133 (⟨#[]⟩ : ByteArray) (⟨#[]⟩ : ByteArray) 0) = some r := H
      have A6 := Aside0.mk A60
      clear A60
      have H' := Aside0.mk H
      clear H
      go_enter Tryd.func5, Tryd.ntmps5
      go_wp2_with (first | ((with_reducible refine gate_callee (f := 9) rfl ?_); refine goesL_ (some 8) rfl rfl Tryd.func9 (by kernel_rfl) rfl #[] rfl (by (try simp only [List.map_toArray, List.map_cons, List.map_nil]); first | done | rfl | (simp only [List.length_drop, List.length_take]; rfl)) ?_; (with_reducible refine (tocsinlaw3_awake.calls k  true _ (tab_below HTb.out (by repeat (first | (with_reducible first | exact HB.out | apply below_alloc | apply pw_below_drewN | apply below_drew1) | exact HB.out))) A2.out).mono ?_); rintro e w7 ⟨rfl, hb⟩; refine ⟨_, rfl, ?_⟩; have n0_ := Aside0.mk (below_step (by repeat (first | (with_reducible first | exact HB.out | apply below_alloc | apply pw_below_drewN | apply below_drew1) | exact HB.out)) hb); clear HB; have HB := n0_; clear n0_; (try clear hb); (try clear hb2); (try clear hk); (try clear hi)) | ((with_reducible refine gate_callee (f := 10) rfl ?_); refine goesL_ (some 14) rfl rfl Tryd.func10 (by kernel_rfl) rfl #[.string a0] rfl (by (try simp only [List.map_toArray, List.map_cons, List.map_nil]); first | done | rfl | (simp only [List.length_drop, List.length_take]; rfl)) ?_; (with_reducible refine (name_Words.calls a0 t133 _ A6.out).mono ?_); rintro e w8 ⟨v134, rfl, ho0, hb⟩; refine ⟨_, rfl, ?_⟩; have n0_ := Aside0.mk (Kd.R_lower ho0 (below_size (by repeat (first | (with_reducible first | exact HB.out | apply below_alloc | apply pw_below_drewN | apply below_drew1) | exact HB.out)))); have n1_ := Aside0.mk (below_step (by repeat (first | (with_reducible first | exact HB.out | apply below_alloc | apply pw_below_drewN | apply below_drew1) | exact HB.out)) hb); clear HB; have HO135 := n0_; have HB := n1_; clear n0_ n1_; (try clear hb); (try clear hb2); (try clear hk); (try clear hi); (try clear ho0)))
      go_loopg [4, 6] k (fun kq v4 v6 w' => ∃ (x4_1 : ByteArray) (x6_1 : Int), v4 = .string x4_1 ∧ v6 = .int .i64 x6_1 ∧ Aside0 (tocsinlaw3_NameParts.l0 kq a0 t133 x4_1 (⟨#[]⟩ : ByteArray) x6_1 = some r) ∧ Aside0 (kq ≤ k) ∧ Aside0 (Kd.R Kd.string 9 w' w.heap.size (fun _ => True) v134 t133) ∧ Aside0 (Below w.heap.size w w'))
      case atStart => exact ⟨((⟨#[]⟩ : ByteArray)), (0), (by first | rfl | (simp; done) | (simp [*]; done)), (by first | rfl | (simp; done) | (simp [*]; done)), H', ⟨Nat.le_refl _⟩, ⟨by (with_reducible repeat (first | apply Kd.R_alloc | apply Kd.R_drewN | apply Kd.R_drew)); exact HO135.out⟩, ⟨by repeat (first | (with_reducible first | exact HB.out | apply below_alloc | apply pw_below_drewN | apply below_drew1) | exact HB.out)⟩⟩
      case round =>
        clear H'
        try clear c1
        try clear p2
        try clear c3
        try clear c4
        try clear c4b0
        try clear c4b1
        try clear c5
        obtain ⟨x4_1, x6_1, rfl, rfl, HA, HK1, HO_3, HB⟩ := hrel
        cases gk with
        | zero => exact absurd HA.out (by simp [tocsinlaw3_NameParts.l0])
        | succ k1 =>
          have H := HA.out
          clear HA
          simp only [tocsinlaw3_NameParts.l0] at H
          by_cases c9 : x6_1 < (t133.length : Int)
          · rw [if_pos c9] at H
            have c9b0 : decide (x6_1 < (t133.length : Int)) = true := decide_eq_true c9
            clear c9
            by_cases c10 : 0 ≤ x6_1
            · rw [if_pos c10] at H
              have c10b0 : decide (0 ≤ x6_1) = true := decide_eq_true c10
              clear c10
              by_cases c11 : (rdOf ByteArray.empty t133 x6_1).toList = ([] : List UInt8)
              · rw [if_pos c11] at H
                have c11b0 : ((rdOf ByteArray.empty t133 x6_1).toList == ([] : List UInt8)) = true := beq_iff_eq.mpr c11
                have c11b1 : ((rdOf ByteArray.empty t133 x6_1).toList != ([] : List UInt8)) = false := bne_eq_false_iff_eq.mpr c11
                clear c11
                obtain rfl := Option.some.inj H
                first
                | exact absurd hr_ (by decide)
                | obtain ⟨Ao12, co12, eo12⟩ := Kd.R_slice HO_3.out
                  subst eo12
                  have p136 : 0 ≤ (x6_1 : Int) := of_decide_eq_true (by first | (with_reducible assumption) | assumption)
                  have q136 : x6_1 < (t133.length : Int) := of_decide_eq_true (by first | (with_reducible assumption) | assumption)
                  obtain ⟨ad136, e136, hx136_0⟩ := Kd.at_string (Kd.R_reads' HO_3.out).2.2 x6_1 p136 q136
                  cases e136
                  replace p136 := eq_true p136
                  replace q136 := eq_true q136
                  go_wp2
                  go_ret
                  exact ⟨by first | rfl | (simp [errW_none, errW_some] <;> rfl) | (simp [*, errW_none, errW_some] <;> rfl), by repeat (first | (with_reducible first | exact HB.out | apply below_alloc | apply pw_below_drewN | apply below_drew1) | exact HB.out)⟩
              · rw [if_neg c11] at H
                have c11b0 : ((rdOf ByteArray.empty t133 x6_1).toList == ([] : List UInt8)) = false := beq_eq_false_iff_ne.mpr c11
                have c11b1 : ((rdOf ByteArray.empty t133 x6_1).toList != ([] : List UInt8)) = true := bne_iff_ne.mpr c11
                by_cases c13 : x4_1.size + (rdOf ByteArray.empty t133 x6_1).size ≤ 9223372036854775807
                · rw [if_pos c13] at H
                  have c13b0 := eq_true c13
                  have c13b1 : decide (x4_1.size + (rdOf ByteArray.empty t133 x6_1).size ≤ 9223372036854775807) = true := decide_eq_true c13
                  try have c13b2 : (9223372036854775807 < x4_1.size + (rdOf ByteArray.empty t133 x6_1).size) = False := eq_false (Nat.not_lt.2 c13)
                  have H' := Aside0.mk H
                  clear H
                  obtain ⟨Ao14, co14, eo14⟩ := Kd.R_slice HO_3.out
                  subst eo14
                  have p136 : 0 ≤ (x6_1 : Int) := of_decide_eq_true (by first | (with_reducible assumption) | assumption)
                  have q136 : x6_1 < (t133.length : Int) := of_decide_eq_true (by first | (with_reducible assumption) | assumption)
                  obtain ⟨ad136, e136, hx136_0⟩ := Kd.at_string (Kd.R_reads' HO_3.out).2.2 x6_1 p136 q136
                  cases e136
                  replace p136 := eq_true p136
                  replace q136 := eq_true q136
                  have p137 : 0 ≤ (x6_1 : Int) := of_decide_eq_true (by first | (with_reducible assumption) | assumption)
                  have q137 : x6_1 < (t133.length : Int) := of_decide_eq_true (by first | (with_reducible assumption) | assumption)
                  obtain ⟨ad137, e137, hx137_0⟩ := Kd.at_string (Kd.R_reads' HO_3.out).2.2 x6_1 p137 q137
                  obtain rfl : ad136 = ad137 := (by injection e137)
                  replace p137 := eq_true p137
                  replace q137 := eq_true q137
                  go_wp2
                  go_roundg k1
                  case measure => have := HK1.out; omega
                  case rel => exact ⟨(x4_1 ++ (rdOf ByteArray.empty t133 x6_1)), (wrap64 (x6_1 + 1)), (by first | rfl | (simp; done) | (simp [*]; done)), (by first | rfl | (simp; done) | (simp [*]; done)), H', ⟨by have := HK1.out; omega⟩, ⟨by (with_reducible repeat (first | apply Kd.R_alloc | apply Kd.R_drewN | apply Kd.R_drew)); exact HO_3.out⟩, ⟨by repeat (first | (with_reducible first | exact HB.out | apply below_alloc | apply pw_below_drewN | apply below_drew1) | exact HB.out)⟩⟩
                · rw [if_neg c13] at H
                  exact absurd H (by simp)
            · rw [if_neg c10] at H
              exact absurd H (by simp)
          · rw [if_neg c9] at H
            have c9b0 : decide (x6_1 < (t133.length : Int)) = false := decide_eq_false c9
            clear c9
            have H' := Aside0.mk H
            clear H
            obtain ⟨Ao15, co15, eo15⟩ := Kd.R_slice HO_3.out
            subst eo15
            go_wp2
            go_loopg [5, 7] k1 (fun kq v5 v7 w' => ∃ (x5_2 : ByteArray) (x7_2 : Int), v5 = .string x5_2 ∧ v7 = .int .i64 x7_2 ∧ Aside0 (tocsinlaw3_NameParts.l1 kq a0 x4_1 x5_2 x7_2 = some r) ∧ Aside0 (kq ≤ k1) ∧ Aside0 (Below w.heap.size w w'))
            case atStart => exact ⟨((⟨#[]⟩ : ByteArray)), (0), (by first | rfl | (simp; done) | (simp [*]; done)), (by first | rfl | (simp; done) | (simp [*]; done)), H', ⟨Nat.le_refl _⟩, ⟨by repeat (first | (with_reducible first | exact HB.out | apply below_alloc | apply pw_below_drewN | apply below_drew1) | exact HB.out)⟩⟩
            case round =>
              clear H'
              try clear c1
              try clear p1
              try clear q1
              try clear hx1
              try clear p2
              try clear c3
              try clear c4
              try clear c4b0
              try clear c4b1
              try clear c5
              try clear p6
              try clear c9
              try clear c9b0
              try clear c10
              try clear c10b0
              try clear c11
              try clear c11b0
              try clear c11b1
              try clear c13
              try clear c13b0
              try clear c13b1
              try clear c13b2
              try clear p13
              try clear q13
              try clear hx13
              try clear hx136_0
              try clear hx137_0
              try clear p136
              try clear p137
              try clear p2
              try clear q136
              try clear q137
              obtain ⟨x5_2, x7_2, rfl, rfl, HA, HK2, HB⟩ := hrel
              cases gk with
              | zero => exact absurd HA.out (by simp [tocsinlaw3_NameParts.l1])
              | succ k2 =>
                have H := HA.out
                clear HA
                simp only [tocsinlaw3_NameParts.l1] at H
                by_cases c16 : x7_2 < (a0.size : Int)
                · rw [if_pos c16] at H
                  have c16b0 : decide (x7_2 < (a0.size : Int)) = true := decide_eq_true c16
                  clear c16
                  by_cases c17 : 0 ≤ x7_2
                  · rw [if_pos c17] at H
                    have c17b0 : decide (0 ≤ x7_2) = true := decide_eq_true c17
                    clear c17
                    by_cases c19 : (bt a0 x7_2) = 32
                    · rw [if_pos c19] at H
                      have c19b0 : ((bt a0 x7_2) == 32) = true := beq_iff_eq.mpr c19
                      have c19b1 : ((bt a0 x7_2) != 32) = false := bne_eq_false_iff_eq.mpr c19
                      clear c19
                      have H' := Aside0.mk H
                      clear H
                      have p18 : 0 ≤ (x7_2 : Int) := of_decide_eq_true (by first | (with_reducible assumption) | assumption)
                      have q18 : x7_2 < (a0.size : Int) := of_decide_eq_true (by first | (with_reducible assumption) | assumption)
                      have hx18 := bt_at a0 x7_2
                      replace p18 := eq_true p18
                      replace q18 := eq_true q18
                      go_wp2
                      go_roundg k2
                      case measure => have := HK1.out; have := HK2.out; omega
                      case rel => exact ⟨(x5_2), (wrap64 (x7_2 + 1)), (by first | rfl | (simp; done) | (simp [*]; done)), (by first | rfl | (simp; done) | (simp [*]; done)), H', ⟨by have := HK1.out; have := HK2.out; omega⟩, ⟨by repeat (first | (with_reducible first | exact HB.out | apply below_alloc | apply pw_below_drewN | apply below_drew1) | exact HB.out)⟩⟩
                    · rw [if_neg c19] at H
                      have c19b0 : ((bt a0 x7_2) == 32) = false := beq_eq_false_iff_ne.mpr c19
                      have c19b1 : ((bt a0 x7_2) != 32) = true := bne_iff_ne.mpr c19
                      by_cases c21 : (bt a0 x7_2) = 9
                      · rw [if_pos c21] at H
                        have c21b0 : ((bt a0 x7_2) == 9) = true := beq_iff_eq.mpr c21
                        have c21b1 : ((bt a0 x7_2) != 9) = false := bne_eq_false_iff_eq.mpr c21
                        clear c21
                        have H' := Aside0.mk H
                        clear H
                        have p18 : 0 ≤ (x7_2 : Int) := of_decide_eq_true (by first | (with_reducible assumption) | assumption)
                        have q18 : x7_2 < (a0.size : Int) := of_decide_eq_true (by first | (with_reducible assumption) | assumption)
                        have hx18 := bt_at a0 x7_2
                        replace p18 := eq_true p18
                        replace q18 := eq_true q18
                        have p20 : 0 ≤ (x7_2 : Int) := of_decide_eq_true (by first | (with_reducible assumption) | assumption)
                        have q20 : x7_2 < (a0.size : Int) := of_decide_eq_true (by first | (with_reducible assumption) | assumption)
                        have hx20 := bt_at a0 x7_2
                        replace p20 := eq_true p20
                        replace q20 := eq_true q20
                        go_wp2
                        go_roundg k2
                        case measure => have := HK1.out; have := HK2.out; omega
                        case rel => exact ⟨(x5_2), (wrap64 (x7_2 + 1)), (by first | rfl | (simp; done) | (simp [*]; done)), (by first | rfl | (simp; done) | (simp [*]; done)), H', ⟨by have := HK1.out; have := HK2.out; omega⟩, ⟨by repeat (first | (with_reducible first | exact HB.out | apply below_alloc | apply pw_below_drewN | apply below_drew1) | exact HB.out)⟩⟩
                      · rw [if_neg c21] at H
                        have c21b0 : ((bt a0 x7_2) == 9) = false := beq_eq_false_iff_ne.mpr c21
                        have c21b1 : ((bt a0 x7_2) != 9) = true := bne_iff_ne.mpr c21
                        have c22b0 := eq_true (of_decide_eq_true (by first | (with_reducible assumption) | assumption) : 0 ≤ x7_2)
                        by_cases c23 : x7_2 ≤ (wrap64 (x7_2 + 1))
                        · rw [if_pos c23] at H
                          have c23b0 := eq_true c23
                          have c23b1 : decide (x7_2 ≤ (wrap64 (x7_2 + 1))) = true := decide_eq_true c23
                          by_cases c24 : (wrap64 (x7_2 + 1)) ≤ (a0.size : Int)
                          · rw [if_pos c24] at H
                            have c24b0 := eq_true c24
                            have c24b1 : decide ((wrap64 (x7_2 + 1)) ≤ (a0.size : Int)) = true := decide_eq_true c24
                            by_cases c25 : x5_2.size + (a0.extract (x7_2 : Int).toNat ((wrap64 (x7_2 + 1)) : Int).toNat).size ≤ 9223372036854775807
                            · rw [if_pos c25] at H
                              have c25b0 := eq_true c25
                              have c25b1 : decide (x5_2.size + (a0.extract (x7_2 : Int).toNat ((wrap64 (x7_2 + 1)) : Int).toNat).size ≤ 9223372036854775807) = true := decide_eq_true c25
                              try have c25b2 : (9223372036854775807 < x5_2.size + (a0.extract (x7_2 : Int).toNat ((wrap64 (x7_2 + 1)) : Int).toNat).size) = False := eq_false (Nat.not_lt.2 c25)
                              have H' := Aside0.mk H
                              clear H
                              have p18 : 0 ≤ (x7_2 : Int) := of_decide_eq_true (by first | (with_reducible assumption) | assumption)
                              have q18 : x7_2 < (a0.size : Int) := of_decide_eq_true (by first | (with_reducible assumption) | assumption)
                              have hx18 := bt_at a0 x7_2
                              replace p18 := eq_true p18
                              replace q18 := eq_true q18
                              have p20 : 0 ≤ (x7_2 : Int) := of_decide_eq_true (by first | (with_reducible assumption) | assumption)
                              have q20 : x7_2 < (a0.size : Int) := of_decide_eq_true (by first | (with_reducible assumption) | assumption)
                              have hx20 := bt_at a0 x7_2
                              replace p20 := eq_true p20
                              replace q20 := eq_true q20
                              go_wp2
                              go_roundg k2
                              case measure => have := HK1.out; have := HK2.out; omega
                              case rel => exact ⟨(x5_2 ++ (a0.extract (x7_2 : Int).toNat ((wrap64 (x7_2 + 1)) : Int).toNat)), (wrap64 (x7_2 + 1)), (by first | rfl | (simp; done) | (simp [*]; done)), (by first | rfl | (simp; done) | (simp [*]; done)), H', ⟨by have := HK1.out; have := HK2.out; omega⟩, ⟨by repeat (first | (with_reducible first | exact HB.out | apply below_alloc | apply pw_below_drewN | apply below_drew1) | exact HB.out)⟩⟩
                            · rw [if_neg c25] at H
                              exact absurd H (by simp)
                          · rw [if_neg c24] at H
                            exact absurd H (by simp)
                        · rw [if_neg c23] at H
                          exact absurd H (by simp)
                  · rw [if_neg c17] at H
                    exact absurd H (by simp)
                · rw [if_neg c16] at H
                  have c16b0 : decide (x7_2 < (a0.size : Int)) = false := decide_eq_false c16
                  clear c16
                  obtain rfl := Option.some.inj H
                  first
                  | exact absurd hr_ (by decide)
                  | go_wp2
                    go_ret
                    exact ⟨by first | rfl | (simp [errW_none, errW_some] <;> rfl) | (simp [*, errW_none, errW_some] <;> rfl), by repeat (first | (with_reducible first | exact HB.out | apply below_alloc | apply pw_below_drewN | apply below_drew1) | exact HB.out)⟩
  · replace c3 := Bool.eq_false_iff.mpr c3
    subst c3
    have H1 : (some false) = some r := by rw [if_neg (show ¬ (false = true) by decide)] at H; exact H
    clear H
    have H := H1
    clear H1
    obtain rfl := Option.some.inj H
    exact absurd hr_ (by decide)


end Go.Proofs.YtfoafigpimhppaaDoor.PNm
