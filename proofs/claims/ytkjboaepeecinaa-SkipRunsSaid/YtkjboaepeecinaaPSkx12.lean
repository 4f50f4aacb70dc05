-- functions and contracts as the kit's print.py writes them, the roots chosen in this session (wip/proots.sh)
-- slim
import Derived.Test.YtkjboaepeecinaaPSkx0
import Derived.Test.YtkjboaepeecinaaStSk
import Derived.Test.YtkjboaepeecinaaPSkx9
import Derived.Test.YtkjboaepeecinaaPSkx11
namespace Go.Proofs.Ytkjboaepeecinaa.PSk
open Go.RowKit Go.Proofs.YtkjboaepeecinaaW.PrintWords Go.Proofs.YtkjboaepeecinaaW.PrintLast Go.Proofs.YtkjboaepeecinaaW.PrintMore
attribute [local go_sem] max2_int min2_int max_two min_two max_three min_three max_four min_four   -- for this text's walks alone
set_option linter.unusedVariables false
set_option linter.unusedSimpArgs false

/-! ### tocsinref1_Of: function 42 -/
def tocsinref1_Of.j0 : Nat → Int → Bool → Int → Int → Int → Option (Int)
 | 0, _, _, _, _, _ => none
 | k + 1, x1, x12, x303000, x303001, x303002 => if x12 = true then (some 0) else (if x1 > 1000000 then (if x303000 = 0 then (none) else (if x303002 > 0 then (if x303002 = 0 then (none) else (some (wrap64 ((wrap64 ((wrap64 (Int.tdiv (1000000 : Int) x303000)) - (wrap64 (Int.tdiv (wrap64 (Int.tdiv (1000000 : Int) x303000)) x303002)))) * x303001)))) else (some (wrap64 ((wrap64 (Int.tdiv (1000000 : Int) x303000)) * x303001))))) else (if x303000 = 0 then (none) else (if x303002 > 0 then (if x303002 = 0 then (none) else (some (wrap64 ((wrap64 ((wrap64 (Int.tdiv x1 x303000)) - (wrap64 (Int.tdiv (wrap64 (Int.tdiv x1 x303000)) x303002)))) * x303001)))) else (some (wrap64 ((wrap64 (Int.tdiv x1 x303000)) * x303001))))))
def tocsinref1_Of.f (k : Nat) (a0_0 : Int) (a0_1 : Int) (a0_2 : Int) (a1 : Int) : Option (Int) := (tocsinref1_GoodTask.f a0_0 a0_1 a0_2).bind fun t303 => (if t303 = true then (tocsinref1_Of.j0 k a1 (decide (a1 < 0)) a0_0 a0_1 a0_2) else (tocsinref1_Of.j0 k a1 true a0_0 a0_1 a0_2))
theorem tocsinref1_Of.mono_l : ∀ k, (∀ y0 y1 y2 y3 y4, LeO (tocsinref1_Of.j0 k y0 y1 y2 y3 y4) (tocsinref1_Of.j0 (k + 1) y0 y1 y2 y3 y4))
 | 0 => fun _ _ _ _ _ r h => by simp [tocsinref1_Of.j0] at h
 | k + 1 => by
  have ih0 := tocsinref1_Of.mono_l k
  ·intro y0 y1 y2 y3 y4
   unfold tocsinref1_Of.j0
   repeat' first
   | (with_reducible exact ih0 _ _ _ _ _)
   | (with_reducible exact LeO.refl _)
   | (with_reducible exact LeO.none _)
   | (with_reducible refine LeO.ite ?_ ?_)
   | (with_reducible refine LeO.bind ?_ (fun _ => ?_))
   | exact ih0 _ _ _ _ _
   | exact LeO.none _
   | refine LeO.ite ?_ ?_
   | refine LeO.bind ?_ (fun _ => ?_)
theorem tocsinref1_Of.mono : ∀ a0 a1 a2 a3 k, LeO (tocsinref1_Of.f k a0 a1 a2 a3) (tocsinref1_Of.f (k + 1) a0 a1 a2 a3) := by
 intro a0 a1 a2 a3 k
 have ih0 := tocsinref1_Of.mono_l k
 unfold tocsinref1_Of.f
 repeat' first
   | (with_reducible exact ih0 _ _ _ _ _)
   | (with_reducible exact LeO.refl _)
   | (with_reducible exact LeO.none _)
   | (with_reducible refine LeO.ite ?_ ?_)
   | (with_reducible refine LeO.bind ?_ (fun _ => ?_))
   | exact ih0 _ _ _ _ _
   | exact LeO.none _
   | refine LeO.ite ?_ ?_
   | refine LeO.bind ?_ (fun _ => ?_)
set_option maxHeartbeats 8000000 in
set_option maxRecDepth 100000 in
theorem tocsinref1_Of.calls (k : Nat) (a0_0 : Int) (a0_1 : Int) (a0_2 : Int) (a1 : Int) (r : Int) (w : World) (h : tocsinref1_Of.f k a0_0 a0_1 a0_2 a1 = some r) :
  Calls Try.prog 42 #[.agg #[.int .i64 a0_0, .int .i64 a0_1, .int .i64 a0_2], .int .i64 a1] w fun e w' => e = .returned (.int .i64 r) ∧ Below w.heap.size w w' := by
 have hu66 := Try.underlying66
 have HB := Aside0.mk (Below.refl w.heap.size w)
 have H : ((tocsinref1_GoodTask.f a0_0 a0_1 a0_2).bind fun t303 => (if t303 = true then (tocsinref1_Of.j0 k a1 (decide (a1 < 0)) a0_0 a0_1 a0_2) else (tocsinref1_Of.j0 k a1 true a0_0 a0_1 a0_2))) = some r := h
 clear h
 have HC3 := Aside0.mk H
 clear H
 go_enter Try.func42, Try.ntmps42
 go_upto_region 1 with (first | ((with_reducible refine gate_dst (N := 2) rfl ?_); refine box_event ?hg (N := 2) ?hd (cs := #[.int .i64 a0_0, .int .i64 a0_1, .int .i64 a0_2]) (t := 66) ?hr ?_; (case hd => rfl); (case hg => rfl); (case hr => first | (go_simp; done) | (go_simp; rfl)); intro gb302 hg w4 hbox hb; have n0_ := Aside0.mk (below_step (by repeat (first | (with_reducible first | exact HB.out | apply below_alloc | apply pw_below_drewN | apply below_drew1) | exact HB.out)) hb); have n1_ := Aside0.mk (hbox); have n2_ := Aside0.mk ((by rw [hg]; exact (below_size (by repeat (first | (with_reducible first | exact HB.out | apply below_alloc | apply pw_below_drewN | apply below_drew1) | exact HB.out))) : w.heap.size ≤ gb302)); have n3_ := Aside0.mk ((by rw [hg]; exact (below_size (by repeat (first | (with_reducible first | exact HB.out | apply below_alloc | apply pw_below_drewN | apply below_drew1) | exact HB.out))) : w.heap.size ≤ gb302)); clear HB; have HB := n0_; have BK302 := n1_; have GW302 := n2_; have GE302 := n3_; clear n0_ n1_ n2_ n3_; clear hb hbox hg))
 (try simp only [Act.put, List.setIfInBounds_toArray, List.set_cons_zero, List.set_cons_succ])
 go_cut [12] (fun v12 wc => ∃ (kq : Nat) (x12_2 : Bool), v12 = .bool x12_2 ∧ Aside0 (tocsinref1_Of.j0 kq a1 x12_2 a0_0 a0_1 a0_2 = some r) ∧ Aside0 (kq ≤ k) ∧ Aside0 (wc.heap[gb302]? = some (.cells #[.int .i64 a0_0, .int .i64 a0_1, .int .i64 a0_2] 66 (0, 0))) ∧ Aside0 (Below w.heap.size w wc))
 case first =>
  have H := HC3.out
  clear HC3
  replace H := Option.bind_eq_some_iff.mp H
  obtain ⟨t303, A50, H⟩ := H
  replace H : (if t303 = true then (tocsinref1_Of.j0 k a1 (decide (a1 < 0)) a0_0 a0_1 a0_2) else (tocsinref1_Of.j0 k a1 true a0_0 a0_1 a0_2)) = some r := H
  have A5 := Aside0.mk A50
  clear A50
  by_cases c6 : t303 = true
  ·subst c6
   have H1 : (tocsinref1_Of.j0 k a1 (decide (a1 < 0)) a0_0 a0_1 a0_2) = some r := by rw [if_pos rfl] at H; exact H
   clear H
   have H := H1
   clear H1
   have H' := Aside0.mk H
   clear H
   have hcz7_0 : w4.cell? ⟨gb302, 0, none⟩ = some (.int .i64 a0_0) := (blk_cell BK302.out 0).trans rfl
   have hcz7_1 : w4.cell? ⟨gb302, 1, none⟩ = some (.int .i64 a0_1) := (blk_cell BK302.out 1).trans rfl
   have hcz7_2 : w4.cell? ⟨gb302, 2, none⟩ = some (.int .i64 a0_2) := (blk_cell BK302.out 2).trans rfl
   have hfz7_0 := blk_frozen BK302.out 0
   have hfz7_1 := blk_frozen BK302.out 1
   have hfz7_2 := blk_frozen BK302.out 2
   go_wp2_with (first | ((with_reducible refine gate_callee (f := 40) rfl ?_); refine goesL_ (some 7) rfl rfl Try.func40 (by kernel_rfl) rfl #[.agg #[.int .i64 a0_0, .int .i64 a0_1, .int .i64 a0_2]] rfl (by (try simp only [List.map_toArray, List.map_cons, List.map_nil]); first | done | rfl | (simp only [List.length_drop, List.length_take]; rfl)) ?_; (with_reducible refine (tocsinref1_GoodTask.calls a0_0 a0_1 a0_2 true _ A5.out).mono ?_); rintro e w8 ⟨rfl, hb⟩; refine ⟨_, rfl, ?_⟩; have n0_ := Aside0.mk (blk_below (g := gb302) (o := .cells #[.int .i64 a0_0, .int .i64 a0_1, .int .i64 a0_2] 66 (0, 0)) (by (with_reducible repeat (first | refine blk_drewN ?_ _ | refine blk_drew ?_ | refine blk_alloc ?_ _)); exact BK302.out) hb); have n1_ := Aside0.mk (below_step (by repeat (first | (with_reducible first | exact HB.out | apply below_alloc | apply pw_below_drewN | apply below_drew1 | refine below_set ?_ GE302.out) | exact HB.out)) hb); clear BK302; clear HB; have BK302 := n0_; have HB := n1_; clear n0_ n1_; (try clear hb); (try clear hb2); (try clear hk); (try clear hi)))
   go_meet
   case rel => exact ⟨_, (decide (a1 < 0)), (by first | rfl | (simp; done) | (simp [*]; done)), H', ⟨by first | omega | exact Nat.le_refl _⟩, ⟨by (with_reducible repeat (first | refine blk_drewN ?_ _ | refine blk_drew ?_ | refine blk_alloc ?_ _)); exact BK302.out⟩, ⟨by repeat (first | (with_reducible first | exact HB.out | apply below_alloc | apply pw_below_drewN | apply below_drew1 | refine below_set ?_ GE302.out) | exact HB.out)⟩⟩
  ·replace c6 := Bool.eq_false_iff.mpr c6
   subst c6
   have H1 : (tocsinref1_Of.j0 k a1 true a0_0 a0_1 a0_2) = some r := by rw [if_neg (show ¬ (false = true) by decide)] at H; exact H
   clear H
   have H := H1
   clear H1
   have H' := Aside0.mk H
   clear H
   have hcz9_0 : w4.cell? ⟨gb302, 0, none⟩ = some (.int .i64 a0_0) := (blk_cell BK302.out 0).trans rfl
   have hcz9_1 : w4.cell? ⟨gb302, 1, none⟩ = some (.int .i64 a0_1) := (blk_cell BK302.out 1).trans rfl
   have hcz9_2 : w4.cell? ⟨gb302, 2, none⟩ = some (.int .i64 a0_2) := (blk_cell BK302.out 2).trans rfl
   have hfz9_0 := blk_frozen BK302.out 0
   have hfz9_1 := blk_frozen BK302.out 1
   have hfz9_2 := blk_frozen BK302.out 2
   go_wp2_with (first | ((with_reducible refine gate_callee (f := 40) rfl ?_); refine goesL_ (some 7) rfl rfl Try.func40 (by kernel_rfl) rfl #[.agg #[.int .i64 a0_0, .int .i64 a0_1, .int .i64 a0_2]] rfl (by (try simp only [List.map_toArray, List.map_cons, List.map_nil]); first | done | rfl | (simp only [List.length_drop, List.length_take]; rfl)) ?_; (with_reducible refine (tocsinref1_GoodTask.calls a0_0 a0_1 a0_2 false _ A5.out).mono ?_); rintro e w10 ⟨rfl, hb⟩; refine ⟨_, rfl, ?_⟩; have n0_ := Aside0.mk (blk_below (g := gb302) (o := .cells #[.int .i64 a0_0, .int .i64 a0_1, .int .i64 a0_2] 66 (0, 0)) (by (with_reducible repeat (first | refine blk_drewN ?_ _ | refine blk_drew ?_ | refine blk_alloc ?_ _)); exact BK302.out) hb); have n1_ := Aside0.mk (below_step (by repeat (first | (with_reducible first | exact HB.out | apply below_alloc | apply pw_below_drewN | apply below_drew1 | refine below_set ?_ GE302.out) | exact HB.out)) hb); clear BK302; clear HB; have BK302 := n0_; have HB := n1_; clear n0_ n1_; (try clear hb); (try clear hb2); (try clear hk); (try clear hi)))
   go_meet
   case rel => exact ⟨_, (true), (by first | rfl | (simp; done) | (simp [*]; done)), H', ⟨by first | omega | exact Nat.le_refl _⟩, ⟨by (with_reducible repeat (first | refine blk_drewN ?_ _ | refine blk_drew ?_ | refine blk_alloc ?_ _)); exact BK302.out⟩, ⟨by repeat (first | (with_reducible first | exact HB.out | apply below_alloc | apply pw_below_drewN | apply below_drew1 | refine below_set ?_ GE302.out) | exact HB.out)⟩⟩
 case rest =>
  clear HC3
  try clear p2
  try clear c4
  try clear c6
  try clear hcz7_0
  try clear hcz7_1
  try clear hcz7_2
  try clear hcz9_0
  try clear hcz9_1
  try clear hcz9_2
  try clear hfz7_0
  try clear hfz7_1
  try clear hfz7_2
  try clear hfz9_0
  try clear hfz9_1
  try clear hfz9_2
  obtain ⟨kq, x12_2, rfl, HA, HJ2, BK302, HB⟩ := hcut
  cases kq with
  | zero => exact absurd HA.out (by simp [tocsinref1_Of.j0])
  | succ kj2 =>
   have H := HA.out
   clear HA
   simp only [tocsinref1_Of.j0] at H
   by_cases c11 : x12_2 = true
   ·subst c11
    have H1 : (some 0) = some r := by rw [if_pos rfl] at H; exact H
    clear H
    have H := H1
    clear H1
    obtain rfl := Option.some.inj H
    go_wp2
    go_ret
    exact ⟨by first | rfl | (simp [errW_none, errW_some] <;> rfl) | (simp [*, errW_none, errW_some] <;> rfl), by repeat (first | (with_reducible first | exact HB.out | apply below_alloc | apply pw_below_drewN | apply below_drew1 | refine below_set ?_ GE302.out) | exact HB.out)⟩
   ·replace c11 := Bool.eq_false_iff.mpr c11
    subst c11
    have H1 : (if a1 > 1000000 then (if a0_0 = 0 then (none) else (if a0_2 > 0 then (if a0_2 = 0 then (none) else (some (wrap64 ((wrap64 ((wrap64 (Int.tdiv (1000000 : Int) a0_0)) - (wrap64 (Int.tdiv (wrap64 (Int.tdiv (1000000 : Int) a0_0)) a0_2)))) * a0_1)))) else (some (wrap64 ((wrap64 (Int.tdiv (1000000 : Int) a0_0)) * a0_1))))) else (if a0_0 = 0 then (none) else (if a0_2 > 0 then (if a0_2 = 0 then (none) else (some (wrap64 ((wrap64 ((wrap64 (Int.tdiv a1 a0_0)) - (wrap64 (Int.tdiv (wrap64 (Int.tdiv a1 a0_0)) a0_2)))) * a0_1)))) else (some (wrap64 ((wrap64 (Int.tdiv a1 a0_0)) * a0_1)))))) = some r := by rw [if_neg (show ¬ (false = true) by decide)] at H; exact H
    clear H
    have H := H1
    clear H1
    by_cases c12 : a1 > 1000000
    ·rw [if_pos c12] at H
     have c12b0 : decide (1000000 < a1) = true := decide_eq_true c12
     clear c12
     by_cases c13 : a0_0 = 0
     ·rw [if_pos c13] at H
      exact absurd H (by simp)
     ·rw [if_neg c13] at H
      have c13b0 : (a0_0 == 0) = false := beq_eq_false_iff_ne.mpr c13
      have c13b1 : (a0_0 != 0) = true := bne_iff_ne.mpr c13
      by_cases c14 : a0_2 > 0
      ·rw [if_pos c14] at H
       have c14b0 : decide (0 < a0_2) = true := decide_eq_true c14
       clear c14
       by_cases c15 : a0_2 = 0
       ·rw [if_pos c15] at H
        exact absurd H (by simp)
       ·rw [if_neg c15] at H
        have c15b0 : (a0_2 == 0) = false := beq_eq_false_iff_ne.mpr c15
        have c15b1 : (a0_2 != 0) = true := bne_iff_ne.mpr c15
        obtain rfl := Option.some.inj H
        have hcz16_0 : wc.cell? ⟨gb302, 0, none⟩ = some (.int .i64 a0_0) := (blk_cell BK302.out 0).trans rfl
        have hcz16_1 : wc.cell? ⟨gb302, 1, none⟩ = some (.int .i64 a0_1) := (blk_cell BK302.out 1).trans rfl
        have hcz16_2 : wc.cell? ⟨gb302, 2, none⟩ = some (.int .i64 a0_2) := (blk_cell BK302.out 2).trans rfl
        have hfz16_0 := blk_frozen BK302.out 0
        have hfz16_1 := blk_frozen BK302.out 1
        have hfz16_2 := blk_frozen BK302.out 2
        go_wp2
        go_ret
        exact ⟨by first | rfl | (simp [errW_none, errW_some] <;> rfl) | (simp [*, errW_none, errW_some] <;> rfl), by repeat (first | (with_reducible first | exact HB.out | apply below_alloc | apply pw_below_drewN | apply below_drew1 | refine below_set ?_ GE302.out) | exact HB.out)⟩
      ·rw [if_neg c14] at H
       have c14b0 : decide (0 < a0_2) = false := decide_eq_false c14
       clear c14
       obtain rfl := Option.some.inj H
       have hcz17_0 : wc.cell? ⟨gb302, 0, none⟩ = some (.int .i64 a0_0) := (blk_cell BK302.out 0).trans rfl
       have hcz17_1 : wc.cell? ⟨gb302, 1, none⟩ = some (.int .i64 a0_1) := (blk_cell BK302.out 1).trans rfl
       have hcz17_2 : wc.cell? ⟨gb302, 2, none⟩ = some (.int .i64 a0_2) := (blk_cell BK302.out 2).trans rfl
       have hfz17_0 := blk_frozen BK302.out 0
       have hfz17_1 := blk_frozen BK302.out 1
       have hfz17_2 := blk_frozen BK302.out 2
       go_wp2
       go_ret
       exact ⟨by first | rfl | (simp [errW_none, errW_some] <;> rfl) | (simp [*, errW_none, errW_some] <;> rfl), by repeat (first | (with_reducible first | exact HB.out | apply below_alloc | apply pw_below_drewN | apply below_drew1 | refine below_set ?_ GE302.out) | exact HB.out)⟩
    ·rw [if_neg c12] at H
     have c12b0 : decide (1000000 < a1) = false := decide_eq_false c12
     clear c12
     by_cases c18 : a0_0 = 0
     ·rw [if_pos c18] at H
      exact absurd H (by simp)
     ·rw [if_neg c18] at H
      have c18b0 : (a0_0 == 0) = false := beq_eq_false_iff_ne.mpr c18
      have c18b1 : (a0_0 != 0) = true := bne_iff_ne.mpr c18
      by_cases c19 : a0_2 > 0
      ·rw [if_pos c19] at H
       have c19b0 : decide (0 < a0_2) = true := decide_eq_true c19
       clear c19
       by_cases c20 : a0_2 = 0
       ·rw [if_pos c20] at H
        exact absurd H (by simp)
       ·rw [if_neg c20] at H
        have c20b0 : (a0_2 == 0) = false := beq_eq_false_iff_ne.mpr c20
        have c20b1 : (a0_2 != 0) = true := bne_iff_ne.mpr c20
        obtain rfl := Option.some.inj H
        have hcz21_0 : wc.cell? ⟨gb302, 0, none⟩ = some (.int .i64 a0_0) := (blk_cell BK302.out 0).trans rfl
        have hcz21_1 : wc.cell? ⟨gb302, 1, none⟩ = some (.int .i64 a0_1) := (blk_cell BK302.out 1).trans rfl
        have hcz21_2 : wc.cell? ⟨gb302, 2, none⟩ = some (.int .i64 a0_2) := (blk_cell BK302.out 2).trans rfl
        have hfz21_0 := blk_frozen BK302.out 0
        have hfz21_1 := blk_frozen BK302.out 1
        have hfz21_2 := blk_frozen BK302.out 2
        go_wp2
        go_ret
        exact ⟨by first | rfl | (simp [errW_none, errW_some] <;> rfl) | (simp [*, errW_none, errW_some] <;> rfl), by repeat (first | (with_reducible first | exact HB.out | apply below_alloc | apply pw_below_drewN | apply below_drew1 | refine below_set ?_ GE302.out) | exact HB.out)⟩
      ·rw [if_neg c19] at H
       have c19b0 : decide (0 < a0_2) = false := decide_eq_false c19
       clear c19
       obtain rfl := Option.some.inj H
       have hcz22_0 : wc.cell? ⟨gb302, 0, none⟩ = some (.int .i64 a0_0) := (blk_cell BK302.out 0).trans rfl
       have hcz22_1 : wc.cell? ⟨gb302, 1, none⟩ = some (.int .i64 a0_1) := (blk_cell BK302.out 1).trans rfl
       have hcz22_2 : wc.cell? ⟨gb302, 2, none⟩ = some (.int .i64 a0_2) := (blk_cell BK302.out 2).trans rfl
       have hfz22_0 := blk_frozen BK302.out 0
       have hfz22_1 := blk_frozen BK302.out 1
       have hfz22_2 := blk_frozen BK302.out 2
       go_wp2
       go_ret
       exact ⟨by first | rfl | (simp [errW_none, errW_some] <;> rfl) | (simp [*, errW_none, errW_some] <;> rfl), by repeat (first | (with_reducible first | exact HB.out | apply below_alloc | apply pw_below_drewN | apply below_drew1 | refine below_set ?_ GE302.out) | exact HB.out)⟩

/-! ### tocsinref1_All: function 35 -/
def tocsinref1_All.l0 : Nat → List (S66) → Int → Int → Int → Option (Int)
 | 0, _, _, _, _ => none
 | k + 1, x0, x1, x5, x6 => if x6 < (x0.length : Int) then (if 0 ≤ x6 then ((tocsinref1_Of.f k ((rd_T66 x0 x6).f0) ((rd_T66 x0 x6).f1) ((rd_T66 x0 x6).f2) x1).bind fun t305 => (tocsinref1_All.l0 k x0 x1 (wrap64 (x5 + t305)) (wrap64 (x6 + 1)))) else (none)) else (some x5)
def tocsinref1_All.f (k : Nat) (l0 : List (S66)) (a1 : Int) : Option (Int) := if (l0.length : Int) > 20 then (some 0) else (tocsinref1_All.l0 k l0 a1 0 0)
theorem tocsinref1_All.mono_l : ∀ k, (∀ y0 y1 y2 y3, LeO (tocsinref1_All.l0 k y0 y1 y2 y3) (tocsinref1_All.l0 (k + 1) y0 y1 y2 y3))
 | 0 => fun _ _ _ _ r h => by simp [tocsinref1_All.l0] at h
 | k + 1 => by
  have ih0 := tocsinref1_All.mono_l k
  ·intro y0 y1 y2 y3
   unfold tocsinref1_All.l0
   repeat' first
   | (with_reducible exact ih0 _ _ _ _)
   | (with_reducible exact tocsinref1_Of.mono _ _ _ _ _)
   | (with_reducible exact LeO.refl _)
   | (with_reducible exact LeO.none _)
   | (with_reducible refine LeO.ite ?_ ?_)
   | (with_reducible refine LeO.bind ?_ (fun _ => ?_))
   | exact ih0 _ _ _ _
   | exact tocsinref1_Of.mono _ _ _ _ _
   | exact LeO.none _
   | refine LeO.ite ?_ ?_
   | refine LeO.bind ?_ (fun _ => ?_)
theorem tocsinref1_All.mono : ∀ a0 a1 k, LeO (tocsinref1_All.f k a0 a1) (tocsinref1_All.f (k + 1) a0 a1) := by
 intro a0 a1 k
 have ih0 := tocsinref1_All.mono_l k
 unfold tocsinref1_All.f
 repeat' first
   | (with_reducible exact ih0 _ _ _ _)
   | (with_reducible exact tocsinref1_Of.mono _ _ _ _ _)
   | (with_reducible exact LeO.refl _)
   | (with_reducible exact LeO.none _)
   | (with_reducible refine LeO.ite ?_ ?_)
   | (with_reducible refine LeO.bind ?_ (fun _ => ?_))
   | exact ih0 _ _ _ _
   | exact tocsinref1_Of.mono _ _ _ _ _
   | exact LeO.none _
   | refine LeO.ite ?_ ?_
   | refine LeO.bind ?_ (fun _ => ?_)
set_option maxHeartbeats 8000000 in
set_option maxRecDepth 100000 in
theorem tocsinref1_All.calls (k : Nat) (A0 : Option Addr) (c0 : Nat) (l0 : List (S66)) (a1 : Int) (r : Int) (w : World) (hr0 : Kd.C k66 w A0 l0.length l0) (hc0 : l0.length ≤ c0) (h : tocsinref1_All.f k l0 a1 = some r) :
  Calls Try.prog 35 #[.slice A0 l0.length c0, .int .i64 a1] w fun e w' => e = .returned (.int .i64 r) ∧ Below w.heap.size w w' := by
 have hu66 := Try.underlying66
 have HR0 := Aside0.mk hr0
 have HC0 := Aside0.mk hc0
 clear hr0 hc0
 have HB := Aside0.mk (Below.refl w.heap.size w)
 have H : (if (l0.length : Int) > 20 then (some 0) else (tocsinref1_All.l0 k l0 a1 0 0)) = some r := h
 clear h
 by_cases c3 : (l0.length : Int) > 20
 ·rw [if_pos c3] at H
  have c3b0 : decide (20 < (l0.length : Int)) = true := decide_eq_true c3
  have c3b1 : decide (20 < l0.length) = true := decide_eq_true (by omega)
  clear c3
  obtain rfl := Option.some.inj H
  go_enter Try.func35, Try.ntmps35
  go_wp2
  go_ret
  exact ⟨by first | rfl | (simp [errW_none, errW_some] <;> rfl) | (simp [*, errW_none, errW_some] <;> rfl), by repeat (first | (with_reducible first | exact HB.out | apply below_alloc | apply pw_below_drewN | apply below_drew1) | exact HB.out)⟩
 ·rw [if_neg c3] at H
  have c3b0 : decide (20 < (l0.length : Int)) = false := decide_eq_false c3
  have c3b1 : decide (20 < l0.length) = false := decide_eq_false (by omega)
  clear c3
  have H' := Aside0.mk H
  clear H
  go_enter Try.func35, Try.ntmps35
  go_wp2
  go_loopg [5, 6] k (fun kq v5 v6 w' => ∃ (x5_1 : Int) (x6_1 : Int), v5 = .int .i64 x5_1 ∧ v6 = .int .i64 x6_1 ∧ Aside0 (tocsinref1_All.l0 kq l0 a1 x5_1 x6_1 = some r) ∧ Aside0 (kq ≤ k) ∧ Aside0 (Below w.heap.size w w'))
  case atStart => exact ⟨(0), (0), (by first | rfl | (simp; done) | (simp [*]; done)), (by first | rfl | (simp; done) | (simp [*]; done)), H', ⟨Nat.le_refl _⟩, ⟨by repeat (first | (with_reducible first | exact HB.out | apply below_alloc | apply pw_below_drewN | apply below_drew1) | exact HB.out)⟩⟩
  case round =>
   clear H'
   try clear p2
   try clear c3
   try clear c3b0
   try clear c3b1
   obtain ⟨x5_1, x6_1, rfl, rfl, HA, HK1, HB⟩ := hrel
   cases gk with
   | zero => exact absurd HA.out (by simp [tocsinref1_All.l0])
   | succ k1 =>
    have H := HA.out
    clear HA
    simp only [tocsinref1_All.l0] at H
    by_cases c4 : x6_1 < (l0.length : Int)
    ·rw [if_pos c4] at H
     have c4b0 : decide (x6_1 < (l0.length : Int)) = true := decide_eq_true c4
     clear c4
     by_cases c5 : 0 ≤ x6_1
     ·rw [if_pos c5] at H
      have c5b0 : decide (0 ≤ x6_1) = true := decide_eq_true c5
      clear c5
      replace H := Option.bind_eq_some_iff.mp H
      obtain ⟨t305, A60, H⟩ := H
      replace H : (tocsinref1_All.l0 k1 l0 a1 (wrap64 (x5_1 + t305)) (wrap64 (x6_1 + 1))) = some r := H
      have A6 := Aside0.mk A60
      clear A60
      have H' := Aside0.mk H
      clear H
      have p304 : 0 ≤ (x6_1 : Int) := of_decide_eq_true (by first | (with_reducible assumption) | assumption)
      have q304 : x6_1 < (l0.length : Int) := of_decide_eq_true (by first | (with_reducible assumption) | assumption)
      obtain ⟨ad304, e304, hx304_0, hx304_1, hx304_2⟩ := at_T66 HR0.out x6_1 p304 q304
      cases e304
      replace hx304_0 := (HB.out.cell (World.block_lt_of_cell? w _ hx304_0)).trans hx304_0
      replace hx304_1 := (HB.out.cell (World.block_lt_of_cell? w _ hx304_1)).trans hx304_1
      replace hx304_2 := (HB.out.cell (World.block_lt_of_cell? w _ hx304_2)).trans hx304_2
      replace p304 := eq_true p304
      replace q304 := eq_true q304
      go_wp2_with (first | ((with_reducible refine gate_callee (f := 42) rfl ?_); refine goesL_ (some 22) rfl rfl Try.func42 (by kernel_rfl) rfl #[.agg #[.int .i64 ((rd_T66 l0 x6_1).f0), .int .i64 ((rd_T66 l0 x6_1).f1), .int .i64 ((rd_T66 l0 x6_1).f2)], .int .i64 a1] rfl (by (try simp only [List.map_toArray, List.map_cons, List.map_nil]); first | done | rfl | (simp only [List.length_drop, List.length_take]; rfl)) ?_; (with_reducible refine (tocsinref1_Of.calls k1 ((rd_T66 l0 x6_1).f0) ((rd_T66 l0 x6_1).f1) ((rd_T66 l0 x6_1).f2) a1 t305 _ A6.out).mono ?_); rintro e w7 ⟨rfl, hb⟩; refine ⟨_, rfl, ?_⟩; have n0_ := Aside0.mk (below_step (by repeat (first | (with_reducible first | exact HB.out | apply below_alloc | apply pw_below_drewN | apply below_drew1) | exact HB.out)) hb); clear HB; have HB := n0_; clear n0_; (try clear hb); (try clear hb2); (try clear hk); (try clear hi)))
      go_roundg k1
      case measure => have := HK1.out; omega
      case rel => exact ⟨(wrap64 (x5_1 + t305)), (wrap64 (x6_1 + 1)), (by first | rfl | (simp; done) | (simp [*]; done)), (by first | rfl | (simp; done) | (simp [*]; done)), H', ⟨by have := HK1.out; omega⟩, ⟨by repeat (first | (with_reducible first | exact HB.out | apply below_alloc | apply pw_below_drewN | apply below_drew1) | exact HB.out)⟩⟩
     ·rw [if_neg c5] at H
      exact absurd H (by simp)
    ·rw [if_neg c4] at H
     have c4b0 : decide (x6_1 < (l0.length : Int)) = false := decide_eq_false c4
     clear c4
     obtain rfl := Option.some.inj H
     go_wp2
     go_ret
     exact ⟨by first | rfl | (simp [errW_none, errW_some] <;> rfl) | (simp [*, errW_none, errW_some] <;> rfl), by repeat (first | (with_reducible first | exact HB.out | apply below_alloc | apply pw_below_drewN | apply below_drew1) | exact HB.out)⟩

/-! ### tocsinref1_Holds: function 24 -/
def tocsinref1_Holds.l0 : Nat → List (S66) → Int → Int → Option (Bool × Int)
 | 0, _, _, _ => none
 | k + 1, x0, x4, x6 => if x6 ≤ x4 then ((tocsinref1_All.f k x0 x6).bind fun t308 => (if t308 > x6 then (some (false, 0)) else (tocsinref1_Holds.l0 k x0 x4 (wrap64 (x6 + 1))))) else (some (true, 0))
def tocsinref1_Holds.f (k : Nat) (l0 : List (S66)) : Option (Bool × Int) := (tocsinref1_Frame.f k l0).bind fun bt306 => (if bt306.2 = 0 then (tocsinref1_Holds.l0 k l0 bt306.1 1) else (some (false, bt306.2)))
theorem tocsinref1_Holds.mono_l : ∀ k, (∀ y0 y1 y2, LeO (tocsinref1_Holds.l0 k y0 y1 y2) (tocsinref1_Holds.l0 (k + 1) y0 y1 y2))
 | 0 => fun _ _ _ r h => by simp [tocsinref1_Holds.l0] at h
 | k + 1 => by
  have ih0 := tocsinref1_Holds.mono_l k
  ·intro y0 y1 y2
   unfold tocsinref1_Holds.l0
   repeat' first
   | (with_reducible exact ih0 _ _ _)
   | (with_reducible exact tocsinref1_All.mono _ _ _)
   | (with_reducible exact tocsinref1_Frame.mono _ _)
   | (with_reducible exact LeO.refl _)
   | (with_reducible exact LeO.none _)
   | (with_reducible refine LeO.ite ?_ ?_)
   | (with_reducible refine LeO.bind ?_ (fun _ => ?_))
   | exact ih0 _ _ _
   | exact tocsinref1_All.mono _ _ _
   | exact tocsinref1_Frame.mono _ _
   | exact LeO.none _
   | refine LeO.ite ?_ ?_
   | refine LeO.bind ?_ (fun _ => ?_)
theorem tocsinref1_Holds.mono : ∀ a0 k, LeO (tocsinref1_Holds.f k a0) (tocsinref1_Holds.f (k + 1) a0) := by
 intro a0 k
 have ih0 := tocsinref1_Holds.mono_l k
 unfold tocsinref1_Holds.f
 repeat' first
   | (with_reducible exact ih0 _ _ _)
   | (with_reducible exact tocsinref1_All.mono _ _ _)
   | (with_reducible exact tocsinref1_Frame.mono _ _)
   | (with_reducible exact LeO.refl _)
   | (with_reducible exact LeO.none _)
   | (with_reducible refine LeO.ite ?_ ?_)
   | (with_reducible refine LeO.bind ?_ (fun _ => ?_))
   | exact ih0 _ _ _
   | exact tocsinref1_All.mono _ _ _
   | exact tocsinref1_Frame.mono _ _
   | exact LeO.none _
   | refine LeO.ite ?_ ?_
   | refine LeO.bind ?_ (fun _ => ?_)
set_option maxHeartbeats 8000000 in
set_option maxRecDepth 100000 in
theorem tocsinref1_Holds.calls (k : Nat) (A0 : Option Addr) (c0 : Nat) (l0 : List (S66)) (r1 : Bool) (r2 : Int) (w : World) (hr0 : Kd.C k66 w A0 l0.length l0) (hc0 : l0.length ≤ c0) (h : tocsinref1_Holds.f k l0 = some (r1, r2)) :
  Calls Try.prog 24 #[.slice A0 l0.length c0] w fun e w' => e = .returned (.tuple #[.bool r1, .int .i64 r2]) ∧ Below w.heap.size w w' := by
 have HR0 := Aside0.mk hr0
 have HC0 := Aside0.mk hc0
 clear hr0 hc0
 have HB := Aside0.mk (Below.refl w.heap.size w)
 have H : ((tocsinref1_Frame.f k l0).bind fun bt306 => (if bt306.2 = 0 then (tocsinref1_Holds.l0 k l0 bt306.1 1) else (some (false, bt306.2)))) = some (r1, r2) := h
 clear h
 replace H := Option.bind_eq_some_iff.mp H
 obtain ⟨⟨t306, t307⟩, A20, H⟩ := H
 replace H : (if t307 = 0 then (tocsinref1_Holds.l0 k l0 t306 1) else (some (false, t307))) = some (r1, r2) := H
 have A2 := Aside0.mk A20
 clear A20
 by_cases c3 : t307 = 0
 ·rw [if_pos c3] at H
  have c3b0 : (t307 == 0) = true := beq_iff_eq.mpr c3
  have c3b1 : (t307 != 0) = false := bne_eq_false_iff_eq.mpr c3
  clear c3
  have H' := Aside0.mk H
  clear H
  go_enter Try.func24, Try.ntmps24
  go_wp2_with (first | ((with_reducible refine gate_callee (f := 34) rfl ?_); refine goesL_ (some 9) rfl rfl Try.func34 (by kernel_rfl) rfl #[.slice A0 l0.length c0] rfl (by (try simp only [List.map_toArray, List.map_cons, List.map_nil]); first | done | rfl | (simp only [List.length_drop, List.length_take]; rfl)) ?_; (with_reducible refine (tocsinref1_Frame.calls k _ _ l0 t306 t307 _ ?side1 ?side2 A2.out).mono ?_); (case side1 => repeat (first | exact HR0.out | (with_reducible refine Kd.C_alloc ?_ _) | (with_reducible refine Kd.C_drewN ?_ _) | (with_reducible refine Kd.C_drew ?_))); (case side2 => exact HC0.out); rintro e w4 ⟨rfl, hb⟩; refine ⟨_, rfl, ?_⟩; have n0_ := Aside0.mk (below_step (by repeat (first | (with_reducible first | exact HB.out | apply below_alloc | apply pw_below_drewN | apply below_drew1) | exact HB.out)) hb); clear HB; have HB := n0_; clear n0_; (try clear hb); (try clear hb2); (try clear hk); (try clear hi)))
  go_loopg [6] k (fun kq v6 w' => ∃ (x6_1 : Int), v6 = .int .i64 x6_1 ∧ Aside0 (tocsinref1_Holds.l0 kq l0 t306 x6_1 = some (r1, r2)) ∧ Aside0 (kq ≤ k) ∧ Aside0 (Below w.heap.size w w'))
  case atStart => exact ⟨(1), (by first | rfl | (simp; done) | (simp [*]; done)), H', ⟨Nat.le_refl _⟩, ⟨by repeat (first | (with_reducible first | exact HB.out | apply below_alloc | apply pw_below_drewN | apply below_drew1) | exact HB.out)⟩⟩
  case round =>
   clear H'
   try clear c2
   try clear p2
   try clear c3
   try clear c3b0
   try clear c3b1
   obtain ⟨x6_1, rfl, HA, HK1, HB⟩ := hrel
   cases gk with
   | zero => exact absurd HA.out (by simp [tocsinref1_Holds.l0])
   | succ k1 =>
    have H := HA.out
    clear HA
    simp only [tocsinref1_Holds.l0] at H
    by_cases c5 : x6_1 ≤ t306
    ·rw [if_pos c5] at H
     have c5b0 : decide (x6_1 ≤ t306) = true := decide_eq_true c5
     clear c5
     replace H := Option.bind_eq_some_iff.mp H
     obtain ⟨t308, A60, H⟩ := H
     replace H : (if t308 > x6_1 then (some (false, 0)) else (tocsinref1_Holds.l0 k1 l0 t306 (wrap64 (x6_1 + 1)))) = some (r1, r2) := H
     have A6 := Aside0.mk A60
     clear A60
     by_cases c7 : t308 > x6_1
     ·rw [if_pos c7] at H
      have c7b0 : decide (x6_1 < t308) = true := decide_eq_true c7
      clear c7
      simp only [Option.some.injEq, Prod.mk.injEq] at H
      obtain ⟨rfl, rfl⟩ := H
      go_wp2_with (first | ((with_reducible refine gate_callee (f := 35) rfl ?_); refine goesL_ (some 22) rfl rfl Try.func35 (by kernel_rfl) rfl #[.slice A0 l0.length c0, .int .i64 x6_1] rfl (by (try simp only [List.map_toArray, List.map_cons, List.map_nil]); first | done | rfl | (simp only [List.length_drop, List.length_take]; rfl)) ?_; (with_reducible refine (tocsinref1_All.calls k1 _ _ l0 x6_1 t308 _ ?side1 ?side2 A6.out).mono ?_); (case side1 => repeat (first | exact (Kd.C_below HR0.out HB.out) | (with_reducible refine Kd.C_alloc ?_ _) | (with_reducible refine Kd.C_drewN ?_ _) | (with_reducible refine Kd.C_drew ?_))); (case side2 => exact HC0.out); rintro e w8 ⟨rfl, hb⟩; refine ⟨_, rfl, ?_⟩; have n0_ := Aside0.mk (below_step (by repeat (first | (with_reducible first | exact HB.out | apply below_alloc | apply pw_below_drewN | apply below_drew1) | exact HB.out)) hb); clear HB; have HB := n0_; clear n0_; (try clear hb); (try clear hb2); (try clear hk); (try clear hi)))
      go_ret2
      exact ⟨by first | rfl | (simp [errW_none, errW_some] <;> rfl) | (simp [*, errW_none, errW_some] <;> rfl), by repeat (first | (with_reducible first | exact HB.out | apply below_alloc | apply pw_below_drewN | apply below_drew1) | exact HB.out)⟩
     ·rw [if_neg c7] at H
      have c7b0 : decide (x6_1 < t308) = false := decide_eq_false c7
      clear c7
      have H' := Aside0.mk H
      clear H
      go_wp2_with (first | ((with_reducible refine gate_callee (f := 35) rfl ?_); refine goesL_ (some 22) rfl rfl Try.func35 (by kernel_rfl) rfl #[.slice A0 l0.length c0, .int .i64 x6_1] rfl (by (try simp only [List.map_toArray, List.map_cons, List.map_nil]); first | done | rfl | (simp only [List.length_drop, List.length_take]; rfl)) ?_; (with_reducible refine (tocsinref1_All.calls k1 _ _ l0 x6_1 t308 _ ?side1 ?side2 A6.out).mono ?_); (case side1 => repeat (first | exact (Kd.C_below HR0.out HB.out) | (with_reducible refine Kd.C_alloc ?_ _) | (with_reducible refine Kd.C_drewN ?_ _) | (with_reducible refine Kd.C_drew ?_))); (case side2 => exact HC0.out); rintro e w9 ⟨rfl, hb⟩; refine ⟨_, rfl, ?_⟩; have n0_ := Aside0.mk (below_step (by repeat (first | (with_reducible first | exact HB.out | apply below_alloc | apply pw_below_drewN | apply below_drew1) | exact HB.out)) hb); clear HB; have HB := n0_; clear n0_; (try clear hb); (try clear hb2); (try clear hk); (try clear hi)))
      go_roundg k1
      case measure => have := HK1.out; omega
      case rel => exact ⟨(wrap64 (x6_1 + 1)), (by first | rfl | (simp; done) | (simp [*]; done)), H', ⟨by have := HK1.out; omega⟩, ⟨by repeat (first | (with_reducible first | exact HB.out | apply below_alloc | apply pw_below_drewN | apply below_drew1) | exact HB.out)⟩⟩
    ·rw [if_neg c5] at H
     have c5b0 : decide (x6_1 ≤ t306) = false := decide_eq_false c5
     clear c5
     simp only [Option.some.injEq, Prod.mk.injEq] at H
     obtain ⟨rfl, rfl⟩ := H
     go_wp2
     go_ret2
     exact ⟨by first | rfl | (simp [errW_none, errW_some] <;> rfl) | (simp [*, errW_none, errW_some] <;> rfl), by repeat (first | (with_reducible first | exact HB.out | apply below_alloc | apply pw_below_drewN | apply below_drew1) | exact HB.out)⟩
 ·rw [if_neg c3] at H
  have c3b0 : (t307 == 0) = false := beq_eq_false_iff_ne.mpr c3
  have c3b1 : (t307 != 0) = true := bne_iff_ne.mpr c3
  simp only [Option.some.injEq, Prod.mk.injEq] at H
  obtain ⟨rfl, rfl⟩ := H
  go_enter Try.func24, Try.ntmps24
  go_wp2_with (first | ((with_reducible refine gate_callee (f := 34) rfl ?_); refine goesL_ (some 9) rfl rfl Try.func34 (by kernel_rfl) rfl #[.slice A0 l0.length c0] rfl (by (try simp only [List.map_toArray, List.map_cons, List.map_nil]); first | done | rfl | (simp only [List.length_drop, List.length_take]; rfl)) ?_; (with_reducible refine (tocsinref1_Frame.calls k _ _ l0 t306 t307 _ ?side1 ?side2 A2.out).mono ?_); (case side1 => repeat (first | exact HR0.out | (with_reducible refine Kd.C_alloc ?_ _) | (with_reducible refine Kd.C_drewN ?_ _) | (with_reducible refine Kd.C_drew ?_))); (case side2 => exact HC0.out); rintro e w10 ⟨rfl, hb⟩; refine ⟨_, rfl, ?_⟩; have n0_ := Aside0.mk (below_step (by repeat (first | (with_reducible first | exact HB.out | apply below_alloc | apply pw_below_drewN | apply below_drew1) | exact HB.out)) hb); clear HB; have HB := n0_; clear n0_; (try clear hb); (try clear hb2); (try clear hk); (try clear hi)))
  go_ret2
  exact ⟨by first | rfl | (simp [errW_none, errW_some] <;> rfl) | (simp [*, errW_none, errW_some] <;> rfl), by repeat (first | (with_reducible first | exact HB.out | apply below_alloc | apply pw_below_drewN | apply below_drew1) | exact HB.out)⟩

/-! ### tocsinref21_pick: function 26 -/
def tocsinref21_pick.l0 : Nat → List (S66) → List (S68) → Bool → Int → Int → Int → Option (Int)
 | 0, _, _, _, _, _, _ => none
 | k + 1, x0, x1, x3, x9, x10, x11 => if x11 < (x0.length : Int) then (if 0 ≤ x11 then (if x11 < (x1.length : Int) then (if (rd_T68 x1 x11).f3 = true then (if (((rd_T68 x1 x11).f4) == x3) = true then (if ((rd_T68 x1 x11).f1) < ((rd_T66 x0 x11).f1) then (if x9 < 0 then (tocsinref21_pick.l0 k x0 x1 x3 x11 (wrap64 ((wrap64 (((rd_T68 x1 x11).f0) + 1)) * ((rd_T66 x0 x11).f0))) (wrap64 (x11 + 1))) else (if (wrap64 ((wrap64 (((rd_T68 x1 x11).f0) + 1)) * ((rd_T66 x0 x11).f0))) < x10 then (tocsinref21_pick.l0 k x0 x1 x3 x11 (wrap64 ((wrap64 (((rd_T68 x1 x11).f0) + 1)) * ((rd_T66 x0 x11).f0))) (wrap64 (x11 + 1))) else (tocsinref21_pick.l0 k x0 x1 x3 x9 x10 (wrap64 (x11 + 1))))) else (tocsinref21_pick.l0 k x0 x1 x3 x9 x10 (wrap64 (x11 + 1)))) else (tocsinref21_pick.l0 k x0 x1 x3 x9 x10 (wrap64 (x11 + 1)))) else (tocsinref21_pick.l0 k x0 x1 x3 x9 x10 (wrap64 (x11 + 1)))) else (none)) else (none)) else (some x9)
def tocsinref21_pick.f (k : Nat) (l0 : List (S66)) (l1 : List (S68)) (a2 : Int) (a3 : Bool) : Option (Int) := tocsinref21_pick.l0 k l0 l1 a3 (-1) 0 0
theorem tocsinref21_pick.mono_l : ∀ k, (∀ y0 y1 y2 y3 y4 y5, LeO (tocsinref21_pick.l0 k y0 y1 y2 y3 y4 y5) (tocsinref21_pick.l0 (k + 1) y0 y1 y2 y3 y4 y5))
 | 0 => fun _ _ _ _ _ _ r h => by simp [tocsinref21_pick.l0] at h
 | k + 1 => by
  have ih0 := tocsinref21_pick.mono_l k
  ·intro y0 y1 y2 y3 y4 y5
   unfold tocsinref21_pick.l0
   repeat' first
   | (with_reducible exact ih0 _ _ _ _ _ _)
   | (with_reducible exact LeO.refl _)
   | (with_reducible exact LeO.none _)
   | (with_reducible refine LeO.ite ?_ ?_)
   | (with_reducible refine LeO.bind ?_ (fun _ => ?_))
   | exact ih0 _ _ _ _ _ _
   | exact LeO.none _
   | refine LeO.ite ?_ ?_
   | refine LeO.bind ?_ (fun _ => ?_)
theorem tocsinref21_pick.mono : ∀ a0 a1 a2 a3 k, LeO (tocsinref21_pick.f k a0 a1 a2 a3) (tocsinref21_pick.f (k + 1) a0 a1 a2 a3) := by
 intro a0 a1 a2 a3 k
 have ih0 := tocsinref21_pick.mono_l k
 unfold tocsinref21_pick.f
 repeat' first
   | (with_reducible exact ih0 _ _ _ _ _ _)
   | (with_reducible exact LeO.refl _)
   | (with_reducible exact LeO.none _)
   | (with_reducible refine LeO.ite ?_ ?_)
   | (with_reducible refine LeO.bind ?_ (fun _ => ?_))
   | exact ih0 _ _ _ _ _ _
   | exact LeO.none _
   | refine LeO.ite ?_ ?_
   | refine LeO.bind ?_ (fun _ => ?_)
set_option maxHeartbeats 8000000 in
set_option maxRecDepth 100000 in
theorem tocsinref21_pick.calls (k : Nat) (A0 : Option Addr) (c0 : Nat) (l0 : List (S66)) (A1 : Option Addr) (c1 : Nat) (l1 : List (S68)) (a2 : Int) (a3 : Bool) (r : Int) (w : World) (hr0 : Kd.C k66 w A0 l0.length l0) (hc0 : l0.length ≤ c0) (hr1 : Kd.C k68 w A1 l1.length l1) (hc1 : l1.length ≤ c1) (h : tocsinref21_pick.f k l0 l1 a2 a3 = some r) :
  Calls Try.prog 26 #[.slice A0 l0.length c0, .slice A1 l1.length c1, .int .i64 a2, .bool a3] w fun e w' => e = .returned (.int .i64 r) ∧ Drawn0 w w' := by
 have HR0 := Aside0.mk hr0
 have HC0 := Aside0.mk hc0
 clear hr0 hc0
 have HR1 := Aside0.mk hr1
 have HC1 := Aside0.mk hc1
 clear hr1 hc1
 have H : (tocsinref21_pick.l0 k l0 l1 a3 (-1) 0 0) = some r := h
 clear h
 have H' := Aside0.mk H
 clear H
 go_enter Try.func26, Try.ntmps26
 go_wp2
 repeat (go_quiet (fail); try go_wp2)
 go_loopg [9, 10, 11] k (fun kq v9 v10 v11 w' => ∃ (x9_1 : Int) (x10_1 : Int) (x11_1 : Int), v9 = .int .i64 x9_1 ∧ v10 = .int .i64 x10_1 ∧ v11 = .int .i64 x11_1 ∧ Aside0 (tocsinref21_pick.l0 kq l0 l1 a3 x9_1 x10_1 x11_1 = some r) ∧ Aside0 (kq ≤ k) ∧ Drawn0 w w')
 case atStart => exact ⟨((-1)), (0), (0), (by first | rfl | (simp; done) | (simp [*]; done)), (by first | rfl | (simp; done) | (simp [*]; done)), (by first | rfl | (simp; done) | (simp [*]; done)), H', ⟨Nat.le_refl _⟩, by repeat (first | exact Drawn0.refl _ | apply Drawn0.step)⟩
 case round =>
  clear H'
  try clear c1
  try clear c2
  try clear p2
  obtain ⟨x9_1, x10_1, x11_1, rfl, rfl, rfl, HA, HK1, ⟨m1, rfl⟩⟩ := hrel
  cases gk with
  | zero => exact absurd HA.out (by simp [tocsinref21_pick.l0])
  | succ k1 =>
   have H := HA.out
   clear HA
   simp only [tocsinref21_pick.l0] at H
   by_cases c5 : x11_1 < (l0.length : Int)
   ·rw [if_pos c5] at H
    have c5b0 : decide (x11_1 < (l0.length : Int)) = true := decide_eq_true c5
    clear c5
    by_cases c6 : 0 ≤ x11_1
    ·rw [if_pos c6] at H
     have c6b0 : decide (0 ≤ x11_1) = true := decide_eq_true c6
     clear c6
     by_cases c7 : x11_1 < (l1.length : Int)
     ·rw [if_pos c7] at H
      have c7b0 : decide (x11_1 < (l1.length : Int)) = true := decide_eq_true c7
      clear c7
      obtain ⟨bq8, hbq8⟩ : ∃ b_ : Bool, b_ = ((rd_T68 l1 x11_1).f3) := ⟨_, rfl⟩
      replace H : (if bq8 = true then (if (((rd_T68 l1 x11_1).f4) == a3) = true then (if ((rd_T68 l1 x11_1).f1) < ((rd_T66 l0 x11_1).f1) then (if x9_1 < 0 then (tocsinref21_pick.l0 k1 l0 l1 a3 x11_1 (wrap64 ((wrap64 (((rd_T68 l1 x11_1).f0) + 1)) * ((rd_T66 l0 x11_1).f0))) (wrap64 (x11_1 + 1))) else (if (wrap64 ((wrap64 (((rd_T68 l1 x11_1).f0) + 1)) * ((rd_T66 l0 x11_1).f0))) < x10_1 then (tocsinref21_pick.l0 k1 l0 l1 a3 x11_1 (wrap64 ((wrap64 (((rd_T68 l1 x11_1).f0) + 1)) * ((rd_T66 l0 x11_1).f0))) (wrap64 (x11_1 + 1))) else (tocsinref21_pick.l0 k1 l0 l1 a3 x9_1 x10_1 (wrap64 (x11_1 + 1))))) else (tocsinref21_pick.l0 k1 l0 l1 a3 x9_1 x10_1 (wrap64 (x11_1 + 1)))) else (tocsinref21_pick.l0 k1 l0 l1 a3 x9_1 x10_1 (wrap64 (x11_1 + 1)))) else (tocsinref21_pick.l0 k1 l0 l1 a3 x9_1 x10_1 (wrap64 (x11_1 + 1)))) = some r := by rw [← hbq8] at H; exact H
      have Nbq8 := Aside0.mk hbq8
      clear hbq8
      by_cases c9 : bq8 = true
      ·subst c9
       have H1 : (if (((rd_T68 l1 x11_1).f4) == a3) = true then (if ((rd_T68 l1 x11_1).f1) < ((rd_T66 l0 x11_1).f1) then (if x9_1 < 0 then (tocsinref21_pick.l0 k1 l0 l1 a3 x11_1 (wrap64 ((wrap64 (((rd_T68 l1 x11_1).f0) + 1)) * ((rd_T66 l0 x11_1).f0))) (wrap64 (x11_1 + 1))) else (if (wrap64 ((wrap64 (((rd_T68 l1 x11_1).f0) + 1)) * ((rd_T66 l0 x11_1).f0))) < x10_1 then (tocsinref21_pick.l0 k1 l0 l1 a3 x11_1 (wrap64 ((wrap64 (((rd_T68 l1 x11_1).f0) + 1)) * ((rd_T66 l0 x11_1).f0))) (wrap64 (x11_1 + 1))) else (tocsinref21_pick.l0 k1 l0 l1 a3 x9_1 x10_1 (wrap64 (x11_1 + 1))))) else (tocsinref21_pick.l0 k1 l0 l1 a3 x9_1 x10_1 (wrap64 (x11_1 + 1)))) else (tocsinref21_pick.l0 k1 l0 l1 a3 x9_1 x10_1 (wrap64 (x11_1 + 1)))) = some r := by rw [if_pos rfl] at H; exact H
       clear H
       have H := H1
       clear H1
       by_cases c10 : (((rd_T68 l1 x11_1).f4) == a3) = true
       ·rw [if_pos c10] at H
        have c10b0 : (((rd_T68 l1 x11_1).f4) == a3) = true := c10
        (try (have c10b1 : decide (((rd_T68 l1 x11_1).f4) = a3) = true := by simpa using c10))
        (try (have c10b2 : (((rd_T68 l1 x11_1).f4) == a3) = true := by simpa using c10))
        clear c10
        by_cases c11 : ((rd_T68 l1 x11_1).f1) < ((rd_T66 l0 x11_1).f1)
        ·rw [if_pos c11] at H
         have c11b0 : decide (((rd_T68 l1 x11_1).f1) < ((rd_T66 l0 x11_1).f1)) = true := decide_eq_true c11
         clear c11
         by_cases c12 : x9_1 < 0
         ·rw [if_pos c12] at H
          have c12b0 : decide (x9_1 < 0) = true := decide_eq_true c12
          clear c12
          have H' := Aside0.mk H
          clear H
          have p309 : 0 ≤ (x11_1 : Int) := of_decide_eq_true (by first | (with_reducible assumption) | assumption)
          have q309 : x11_1 < (l1.length : Int) := of_decide_eq_true (by first | (with_reducible assumption) | assumption)
          obtain ⟨ad309, e309, hx309_0, hx309_1, hx309_2, hx309_3, hx309_4⟩ := at_T68 HR1.out x11_1 p309 q309
          (try rw [← Nbq8.out] at hx309_3)
          (try rw [← Nbq8.out] at hx309_4)
          cases e309
          replace p309 := eq_true p309
          replace q309 := eq_true q309
          have p310 : 0 ≤ (x11_1 : Int) := of_decide_eq_true (by first | (with_reducible assumption) | assumption)
          have q310 : x11_1 < (l0.length : Int) := of_decide_eq_true (by first | (with_reducible assumption) | assumption)
          obtain ⟨ad310, e310, hx310_0, hx310_1, hx310_2⟩ := at_T66 HR0.out x11_1 p310 q310
          cases e310
          replace p310 := eq_true p310
          replace q310 := eq_true q310
          have p311 : 0 ≤ (x11_1 : Int) := of_decide_eq_true (by first | (with_reducible assumption) | assumption)
          have q311 : x11_1 < (l1.length : Int) := of_decide_eq_true (by first | (with_reducible assumption) | assumption)
          obtain ⟨ad311, e311, hx311_0, hx311_1, hx311_2, hx311_3, hx311_4⟩ := at_T68 HR1.out x11_1 p311 q311
          (try rw [← Nbq8.out] at hx311_3)
          (try rw [← Nbq8.out] at hx311_4)
          obtain rfl : ad309 = ad311 := (by injection e311)
          replace p311 := eq_true p311
          replace q311 := eq_true q311
          have p312 : 0 ≤ (x11_1 : Int) := of_decide_eq_true (by first | (with_reducible assumption) | assumption)
          have q312 : x11_1 < (l1.length : Int) := of_decide_eq_true (by first | (with_reducible assumption) | assumption)
          obtain ⟨ad312, e312, hx312_0, hx312_1, hx312_2, hx312_3, hx312_4⟩ := at_T68 HR1.out x11_1 p312 q312
          (try rw [← Nbq8.out] at hx312_3)
          (try rw [← Nbq8.out] at hx312_4)
          obtain rfl : ad309 = ad312 := (by injection e312)
          replace p312 := eq_true p312
          replace q312 := eq_true q312
          have p313 : 0 ≤ (x11_1 : Int) := of_decide_eq_true (by first | (with_reducible assumption) | assumption)
          have q313 : x11_1 < (l1.length : Int) := of_decide_eq_true (by first | (with_reducible assumption) | assumption)
          obtain ⟨ad313, e313, hx313_0, hx313_1, hx313_2, hx313_3, hx313_4⟩ := at_T68 HR1.out x11_1 p313 q313
          (try rw [← Nbq8.out] at hx313_3)
          (try rw [← Nbq8.out] at hx313_4)
          obtain rfl : ad309 = ad313 := (by injection e313)
          replace p313 := eq_true p313
          replace q313 := eq_true q313
          have p314 : 0 ≤ (x11_1 : Int) := of_decide_eq_true (by first | (with_reducible assumption) | assumption)
          have q314 : x11_1 < (l0.length : Int) := of_decide_eq_true (by first | (with_reducible assumption) | assumption)
          obtain ⟨ad314, e314, hx314_0, hx314_1, hx314_2⟩ := at_T66 HR0.out x11_1 p314 q314
          obtain rfl : ad310 = ad314 := (by injection e314)
          replace p314 := eq_true p314
          replace q314 := eq_true q314
          go_wp2
          repeat (go_quiet (fail); try go_wp2)
          go_roundg k1
          case measure => have := HK1.out; omega
          case rel => exact ⟨(x11_1), (wrap64 ((wrap64 (((rd_T68 l1 x11_1).f0) + 1)) * ((rd_T66 l0 x11_1).f0))), (wrap64 (x11_1 + 1)), (by first | rfl | (simp; done) | (simp [*]; done)), (by first | rfl | (simp; done) | (simp [*]; done)), (by first | rfl | (simp; done) | (simp [*]; done)), H', ⟨by have := HK1.out; omega⟩, by repeat (first | exact Drawn0.refl _ | apply Drawn0.step)⟩
         ·rw [if_neg c12] at H
          have c12b0 : decide (x9_1 < 0) = false := decide_eq_false c12
          clear c12
          by_cases c13 : (wrap64 ((wrap64 (((rd_T68 l1 x11_1).f0) + 1)) * ((rd_T66 l0 x11_1).f0))) < x10_1
          ·rw [if_pos c13] at H
           have c13b0 : decide ((wrap64 ((wrap64 (((rd_T68 l1 x11_1).f0) + 1)) * ((rd_T66 l0 x11_1).f0))) < x10_1) = true := decide_eq_true c13
           clear c13
           have H' := Aside0.mk H
           clear H
           have p309 : 0 ≤ (x11_1 : Int) := of_decide_eq_true (by first | (with_reducible assumption) | assumption)
           have q309 : x11_1 < (l1.length : Int) := of_decide_eq_true (by first | (with_reducible assumption) | assumption)
           obtain ⟨ad309, e309, hx309_0, hx309_1, hx309_2, hx309_3, hx309_4⟩ := at_T68 HR1.out x11_1 p309 q309
           (try rw [← Nbq8.out] at hx309_3)
           (try rw [← Nbq8.out] at hx309_4)
           cases e309
           replace p309 := eq_true p309
           replace q309 := eq_true q309
           have p310 : 0 ≤ (x11_1 : Int) := of_decide_eq_true (by first | (with_reducible assumption) | assumption)
           have q310 : x11_1 < (l0.length : Int) := of_decide_eq_true (by first | (with_reducible assumption) | assumption)
           obtain ⟨ad310, e310, hx310_0, hx310_1, hx310_2⟩ := at_T66 HR0.out x11_1 p310 q310
           cases e310
           replace p310 := eq_true p310
           replace q310 := eq_true q310
           have p311 : 0 ≤ (x11_1 : Int) := of_decide_eq_true (by first | (with_reducible assumption) | assumption)
           have q311 : x11_1 < (l1.length : Int) := of_decide_eq_true (by first | (with_reducible assumption) | assumption)
           obtain ⟨ad311, e311, hx311_0, hx311_1, hx311_2, hx311_3, hx311_4⟩ := at_T68 HR1.out x11_1 p311 q311
           (try rw [← Nbq8.out] at hx311_3)
           (try rw [← Nbq8.out] at hx311_4)
           obtain rfl : ad309 = ad311 := (by injection e311)
           replace p311 := eq_true p311
           replace q311 := eq_true q311
           have p312 : 0 ≤ (x11_1 : Int) := of_decide_eq_true (by first | (with_reducible assumption) | assumption)
           have q312 : x11_1 < (l1.length : Int) := of_decide_eq_true (by first | (with_reducible assumption) | assumption)
           obtain ⟨ad312, e312, hx312_0, hx312_1, hx312_2, hx312_3, hx312_4⟩ := at_T68 HR1.out x11_1 p312 q312
           (try rw [← Nbq8.out] at hx312_3)
           (try rw [← Nbq8.out] at hx312_4)
           obtain rfl : ad309 = ad312 := (by injection e312)
           replace p312 := eq_true p312
           replace q312 := eq_true q312
           have p313 : 0 ≤ (x11_1 : Int) := of_decide_eq_true (by first | (with_reducible assumption) | assumption)
           have q313 : x11_1 < (l1.length : Int) := of_decide_eq_true (by first | (with_reducible assumption) | assumption)
           obtain ⟨ad313, e313, hx313_0, hx313_1, hx313_2, hx313_3, hx313_4⟩ := at_T68 HR1.out x11_1 p313 q313
           (try rw [← Nbq8.out] at hx313_3)
           (try rw [← Nbq8.out] at hx313_4)
           obtain rfl : ad309 = ad313 := (by injection e313)
           replace p313 := eq_true p313
           replace q313 := eq_true q313
           have p314 : 0 ≤ (x11_1 : Int) := of_decide_eq_true (by first | (with_reducible assumption) | assumption)
           have q314 : x11_1 < (l0.length : Int) := of_decide_eq_true (by first | (with_reducible assumption) | assumption)
           obtain ⟨ad314, e314, hx314_0, hx314_1, hx314_2⟩ := at_T66 HR0.out x11_1 p314 q314
           obtain rfl : ad310 = ad314 := (by injection e314)
           replace p314 := eq_true p314
           replace q314 := eq_true q314
           go_wp2
           repeat (go_quiet (fail); try go_wp2)
           go_roundg k1
           case measure => have := HK1.out; omega
           case rel => exact ⟨(x11_1), (wrap64 ((wrap64 (((rd_T68 l1 x11_1).f0) + 1)) * ((rd_T66 l0 x11_1).f0))), (wrap64 (x11_1 + 1)), (by first | rfl | (simp; done) | (simp [*]; done)), (by first | rfl | (simp; done) | (simp [*]; done)), (by first | rfl | (simp; done) | (simp [*]; done)), H', ⟨by have := HK1.out; omega⟩, by repeat (first | exact Drawn0.refl _ | apply Drawn0.step)⟩
          ·rw [if_neg c13] at H
           have c13b0 : decide ((wrap64 ((wrap64 (((rd_T68 l1 x11_1).f0) + 1)) * ((rd_T66 l0 x11_1).f0))) < x10_1) = false := decide_eq_false c13
           clear c13
           have H' := Aside0.mk H
           clear H
           have p309 : 0 ≤ (x11_1 : Int) := of_decide_eq_true (by first | (with_reducible assumption) | assumption)
           have q309 : x11_1 < (l1.length : Int) := of_decide_eq_true (by first | (with_reducible assumption) | assumption)
           obtain ⟨ad309, e309, hx309_0, hx309_1, hx309_2, hx309_3, hx309_4⟩ := at_T68 HR1.out x11_1 p309 q309
           (try rw [← Nbq8.out] at hx309_3)
           (try rw [← Nbq8.out] at hx309_4)
           cases e309
           replace p309 := eq_true p309
           replace q309 := eq_true q309
           have p310 : 0 ≤ (x11_1 : Int) := of_decide_eq_true (by first | (with_reducible assumption) | assumption)
           have q310 : x11_1 < (l0.length : Int) := of_decide_eq_true (by first | (with_reducible assumption) | assumption)
           obtain ⟨ad310, e310, hx310_0, hx310_1, hx310_2⟩ := at_T66 HR0.out x11_1 p310 q310
           cases e310
           replace p310 := eq_true p310
           replace q310 := eq_true q310
           have p311 : 0 ≤ (x11_1 : Int) := of_decide_eq_true (by first | (with_reducible assumption) | assumption)
           have q311 : x11_1 < (l1.length : Int) := of_decide_eq_true (by first | (with_reducible assumption) | assumption)
           obtain ⟨ad311, e311, hx311_0, hx311_1, hx311_2, hx311_3, hx311_4⟩ := at_T68 HR1.out x11_1 p311 q311
           (try rw [← Nbq8.out] at hx311_3)
           (try rw [← Nbq8.out] at hx311_4)
           obtain rfl : ad309 = ad311 := (by injection e311)
           replace p311 := eq_true p311
           replace q311 := eq_true q311
           have p312 : 0 ≤ (x11_1 : Int) := of_decide_eq_true (by first | (with_reducible assumption) | assumption)
           have q312 : x11_1 < (l1.length : Int) := of_decide_eq_true (by first | (with_reducible assumption) | assumption)
           obtain ⟨ad312, e312, hx312_0, hx312_1, hx312_2, hx312_3, hx312_4⟩ := at_T68 HR1.out x11_1 p312 q312
           (try rw [← Nbq8.out] at hx312_3)
           (try rw [← Nbq8.out] at hx312_4)
           obtain rfl : ad309 = ad312 := (by injection e312)
           replace p312 := eq_true p312
           replace q312 := eq_true q312
           have p313 : 0 ≤ (x11_1 : Int) := of_decide_eq_true (by first | (with_reducible assumption) | assumption)
           have q313 : x11_1 < (l1.length : Int) := of_decide_eq_true (by first | (with_reducible assumption) | assumption)
           obtain ⟨ad313, e313, hx313_0, hx313_1, hx313_2, hx313_3, hx313_4⟩ := at_T68 HR1.out x11_1 p313 q313
           (try rw [← Nbq8.out] at hx313_3)
           (try rw [← Nbq8.out] at hx313_4)
           obtain rfl : ad309 = ad313 := (by injection e313)
           replace p313 := eq_true p313
           replace q313 := eq_true q313
           have p314 : 0 ≤ (x11_1 : Int) := of_decide_eq_true (by first | (with_reducible assumption) | assumption)
           have q314 : x11_1 < (l0.length : Int) := of_decide_eq_true (by first | (with_reducible assumption) | assumption)
           obtain ⟨ad314, e314, hx314_0, hx314_1, hx314_2⟩ := at_T66 HR0.out x11_1 p314 q314
           obtain rfl : ad310 = ad314 := (by injection e314)
           replace p314 := eq_true p314
           replace q314 := eq_true q314
           go_wp2
           repeat (go_quiet (fail); try go_wp2)
           go_roundg k1
           case measure => have := HK1.out; omega
           case rel => exact ⟨(x9_1), (x10_1), (wrap64 (x11_1 + 1)), (by first | rfl | (simp; done) | (simp [*]; done)), (by first | rfl | (simp; done) | (simp [*]; done)), (by first | rfl | (simp; done) | (simp [*]; done)), H', ⟨by have := HK1.out; omega⟩, by repeat (first | exact Drawn0.refl _ | apply Drawn0.step)⟩
        ·rw [if_neg c11] at H
         have c11b0 : decide (((rd_T68 l1 x11_1).f1) < ((rd_T66 l0 x11_1).f1)) = false := decide_eq_false c11
         clear c11
         have H' := Aside0.mk H
         clear H
         have p309 : 0 ≤ (x11_1 : Int) := of_decide_eq_true (by first | (with_reducible assumption) | assumption)
         have q309 : x11_1 < (l1.length : Int) := of_decide_eq_true (by first | (with_reducible assumption) | assumption)
         obtain ⟨ad309, e309, hx309_0, hx309_1, hx309_2, hx309_3, hx309_4⟩ := at_T68 HR1.out x11_1 p309 q309
         (try rw [← Nbq8.out] at hx309_3)
         (try rw [← Nbq8.out] at hx309_4)
         cases e309
         replace p309 := eq_true p309
         replace q309 := eq_true q309
         have p310 : 0 ≤ (x11_1 : Int) := of_decide_eq_true (by first | (with_reducible assumption) | assumption)
         have q310 : x11_1 < (l0.length : Int) := of_decide_eq_true (by first | (with_reducible assumption) | assumption)
         obtain ⟨ad310, e310, hx310_0, hx310_1, hx310_2⟩ := at_T66 HR0.out x11_1 p310 q310
         cases e310
         replace p310 := eq_true p310
         replace q310 := eq_true q310
         have p311 : 0 ≤ (x11_1 : Int) := of_decide_eq_true (by first | (with_reducible assumption) | assumption)
         have q311 : x11_1 < (l1.length : Int) := of_decide_eq_true (by first | (with_reducible assumption) | assumption)
         obtain ⟨ad311, e311, hx311_0, hx311_1, hx311_2, hx311_3, hx311_4⟩ := at_T68 HR1.out x11_1 p311 q311
         (try rw [← Nbq8.out] at hx311_3)
         (try rw [← Nbq8.out] at hx311_4)
         obtain rfl : ad309 = ad311 := (by injection e311)
         replace p311 := eq_true p311
         replace q311 := eq_true q311
         have p312 : 0 ≤ (x11_1 : Int) := of_decide_eq_true (by first | (with_reducible assumption) | assumption)
         have q312 : x11_1 < (l1.length : Int) := of_decide_eq_true (by first | (with_reducible assumption) | assumption)
         obtain ⟨ad312, e312, hx312_0, hx312_1, hx312_2, hx312_3, hx312_4⟩ := at_T68 HR1.out x11_1 p312 q312
         (try rw [← Nbq8.out] at hx312_3)
         (try rw [← Nbq8.out] at hx312_4)
         obtain rfl : ad309 = ad312 := (by injection e312)
         replace p312 := eq_true p312
         replace q312 := eq_true q312
         have p313 : 0 ≤ (x11_1 : Int) := of_decide_eq_true (by first | (with_reducible assumption) | assumption)
         have q313 : x11_1 < (l1.length : Int) := of_decide_eq_true (by first | (with_reducible assumption) | assumption)
         obtain ⟨ad313, e313, hx313_0, hx313_1, hx313_2, hx313_3, hx313_4⟩ := at_T68 HR1.out x11_1 p313 q313
         (try rw [← Nbq8.out] at hx313_3)
         (try rw [← Nbq8.out] at hx313_4)
         obtain rfl : ad309 = ad313 := (by injection e313)
         replace p313 := eq_true p313
         replace q313 := eq_true q313
         have p314 : 0 ≤ (x11_1 : Int) := of_decide_eq_true (by first | (with_reducible assumption) | assumption)
         have q314 : x11_1 < (l0.length : Int) := of_decide_eq_true (by first | (with_reducible assumption) | assumption)
         obtain ⟨ad314, e314, hx314_0, hx314_1, hx314_2⟩ := at_T66 HR0.out x11_1 p314 q314
         obtain rfl : ad310 = ad314 := (by injection e314)
         replace p314 := eq_true p314
         replace q314 := eq_true q314
         go_wp2
         repeat (go_quiet (fail); try go_wp2)
         go_roundg k1
         case measure => have := HK1.out; omega
         case rel => exact ⟨(x9_1), (x10_1), (wrap64 (x11_1 + 1)), (by first | rfl | (simp; done) | (simp [*]; done)), (by first | rfl | (simp; done) | (simp [*]; done)), (by first | rfl | (simp; done) | (simp [*]; done)), H', ⟨by have := HK1.out; omega⟩, by repeat (first | exact Drawn0.refl _ | apply Drawn0.step)⟩
       ·rw [if_neg c10] at H
        have c10b0 : (((rd_T68 l1 x11_1).f4) == a3) = false := by simpa using c10
        (try (have c10b1 : decide (((rd_T68 l1 x11_1).f4) = a3) = false := by simpa using c10))
        (try (have c10b2 : (((rd_T68 l1 x11_1).f4) == a3) = false := by simpa using c10))
        (try (have c10b3 : ¬ (((rd_T68 l1 x11_1).f4) = a3) := by simpa using c10))
        clear c10
        have H' := Aside0.mk H
        clear H
        have p309 : 0 ≤ (x11_1 : Int) := of_decide_eq_true (by first | (with_reducible assumption) | assumption)
        have q309 : x11_1 < (l1.length : Int) := of_decide_eq_true (by first | (with_reducible assumption) | assumption)
        obtain ⟨ad309, e309, hx309_0, hx309_1, hx309_2, hx309_3, hx309_4⟩ := at_T68 HR1.out x11_1 p309 q309
        (try rw [← Nbq8.out] at hx309_3)
        (try rw [← Nbq8.out] at hx309_4)
        cases e309
        replace p309 := eq_true p309
        replace q309 := eq_true q309
        have p310 : 0 ≤ (x11_1 : Int) := of_decide_eq_true (by first | (with_reducible assumption) | assumption)
        have q310 : x11_1 < (l0.length : Int) := of_decide_eq_true (by first | (with_reducible assumption) | assumption)
        obtain ⟨ad310, e310, hx310_0, hx310_1, hx310_2⟩ := at_T66 HR0.out x11_1 p310 q310
        cases e310
        replace p310 := eq_true p310
        replace q310 := eq_true q310
        have p311 : 0 ≤ (x11_1 : Int) := of_decide_eq_true (by first | (with_reducible assumption) | assumption)
        have q311 : x11_1 < (l1.length : Int) := of_decide_eq_true (by first | (with_reducible assumption) | assumption)
        obtain ⟨ad311, e311, hx311_0, hx311_1, hx311_2, hx311_3, hx311_4⟩ := at_T68 HR1.out x11_1 p311 q311
        (try rw [← Nbq8.out] at hx311_3)
        (try rw [← Nbq8.out] at hx311_4)
        obtain rfl : ad309 = ad311 := (by injection e311)
        replace p311 := eq_true p311
        replace q311 := eq_true q311
        have p312 : 0 ≤ (x11_1 : Int) := of_decide_eq_true (by first | (with_reducible assumption) | assumption)
        have q312 : x11_1 < (l1.length : Int) := of_decide_eq_true (by first | (with_reducible assumption) | assumption)
        obtain ⟨ad312, e312, hx312_0, hx312_1, hx312_2, hx312_3, hx312_4⟩ := at_T68 HR1.out x11_1 p312 q312
        (try rw [← Nbq8.out] at hx312_3)
        (try rw [← Nbq8.out] at hx312_4)
        obtain rfl : ad309 = ad312 := (by injection e312)
        replace p312 := eq_true p312
        replace q312 := eq_true q312
        go_wp2
        repeat (go_quiet (fail); try go_wp2)
        go_roundg k1
        case measure => have := HK1.out; omega
        case rel => exact ⟨(x9_1), (x10_1), (wrap64 (x11_1 + 1)), (by first | rfl | (simp; done) | (simp [*]; done)), (by first | rfl | (simp; done) | (simp [*]; done)), (by first | rfl | (simp; done) | (simp [*]; done)), H', ⟨by have := HK1.out; omega⟩, by repeat (first | exact Drawn0.refl _ | apply Drawn0.step)⟩
      ·replace c9 := Bool.eq_false_iff.mpr c9
       subst c9
       have H1 : (tocsinref21_pick.l0 k1 l0 l1 a3 x9_1 x10_1 (wrap64 (x11_1 + 1))) = some r := by rw [if_neg (show ¬ (false = true) by decide)] at H; exact H
       clear H
       have H := H1
       clear H1
       have H' := Aside0.mk H
       clear H
       have p309 : 0 ≤ (x11_1 : Int) := of_decide_eq_true (by first | (with_reducible assumption) | assumption)
       have q309 : x11_1 < (l1.length : Int) := of_decide_eq_true (by first | (with_reducible assumption) | assumption)
       obtain ⟨ad309, e309, hx309_0, hx309_1, hx309_2, hx309_3, hx309_4⟩ := at_T68 HR1.out x11_1 p309 q309
       (try rw [← Nbq8.out] at hx309_3)
       (try rw [← Nbq8.out] at hx309_4)
       cases e309
       replace p309 := eq_true p309
       replace q309 := eq_true q309
       have p310 : 0 ≤ (x11_1 : Int) := of_decide_eq_true (by first | (with_reducible assumption) | assumption)
       have q310 : x11_1 < (l0.length : Int) := of_decide_eq_true (by first | (with_reducible assumption) | assumption)
       obtain ⟨ad310, e310, hx310_0, hx310_1, hx310_2⟩ := at_T66 HR0.out x11_1 p310 q310
       cases e310
       replace p310 := eq_true p310
       replace q310 := eq_true q310
       have p311 : 0 ≤ (x11_1 : Int) := of_decide_eq_true (by first | (with_reducible assumption) | assumption)
       have q311 : x11_1 < (l1.length : Int) := of_decide_eq_true (by first | (with_reducible assumption) | assumption)
       obtain ⟨ad311, e311, hx311_0, hx311_1, hx311_2, hx311_3, hx311_4⟩ := at_T68 HR1.out x11_1 p311 q311
       (try rw [← Nbq8.out] at hx311_3)
       (try rw [← Nbq8.out] at hx311_4)
       obtain rfl : ad309 = ad311 := (by injection e311)
       replace p311 := eq_true p311
       replace q311 := eq_true q311
       go_wp2
       repeat (go_quiet (fail); try go_wp2)
       go_roundg k1
       case measure => have := HK1.out; omega
       case rel => exact ⟨(x9_1), (x10_1), (wrap64 (x11_1 + 1)), (by first | rfl | (simp; done) | (simp [*]; done)), (by first | rfl | (simp; done) | (simp [*]; done)), (by first | rfl | (simp; done) | (simp [*]; done)), H', ⟨by have := HK1.out; omega⟩, by repeat (first | exact Drawn0.refl _ | apply Drawn0.step)⟩
     ·rw [if_neg c7] at H
      exact absurd H (by simp)
    ·rw [if_neg c6] at H
     exact absurd H (by simp)
   ·rw [if_neg c5] at H
    have c5b0 : decide (x11_1 < (l0.length : Int)) = false := decide_eq_false c5
    clear c5
    obtain rfl := Option.some.inj H
    go_wp2
    repeat (go_quiet (fail); try go_wp2)
    go_ret
    exact ⟨by first | rfl | (simp; done) | (simp [*]; done), by repeat (first | exact Drawn0.refl _ | apply Drawn0.step)⟩

end Go.Proofs.Ytkjboaepeecinaa.PSk
