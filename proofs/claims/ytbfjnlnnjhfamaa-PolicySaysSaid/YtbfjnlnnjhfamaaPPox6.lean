-- functions and contracts as the kit's print.py writes them, the roots chosen in this session (wip/proots.sh)
import Derived.Test.YtbfjnlnnjhfamaaPPox0
import Derived.Test.YtbfjnlnnjhfamaaStPo
import Derived.Test.YtbfjnlnnjhfamaaPPox4
import Derived.Test.YtbfjnlnnjhfamaaPPox5
import Derived.Test.YtbfjnlnnjhfamaaPolKit
import Derived.Test.YtbfjnlnnjhfamaaStAw
import Derived.Deep.RegionHeld3
namespace Go.Proofs.Ytbfjnlnnjhfamaa.PPo
open Go.RowKit Go.Proofs.YtbfjnlnnjhfamaaW.PrintWords Go.Proofs.YtbfjnlnnjhfamaaW.PrintLast Go.Proofs.YtbfjnlnnjhfamaaW.PrintMore
open Go.Proofs.Ytbfjnlnnjhfamaa.Pure
attribute [local go_sem] max2_int min2_int max_two min_two max_three min_three max_four min_four   -- for this text's walks alone
set_option linter.unusedVariables false
set_option linter.unusedSimpArgs false

/-! ### tocsinlaw23_PolicySays: function 3 -/
def tocsinlaw23_PolicySays.l0 : Nat → List (S28) → Bool → List (S29) → Int → Option (Bool)
  | 0, _, _, _, _ => none
  | k + 1, x1, x2, x7, x8 => if x8 < (x1.length : Int) then (if 0 ≤ x8 then (if x7.length < 5864062014805 then (tocsinlaw23_PolicySays.l0 k x1 x2 (x7 ++ [(⟨(rd_T28 x1 x8).f0, (rd_T28 x1 x8).f1, (rd_T28 x1 x8).f2⟩ : S29)]) (wrap64 (x8 + 1))) else (none)) else (none)) else ((tocsinref1_Frame.f k x7).bind fun bt191 => (if bt191.2 = 0 then (if bt191.1 > 3000 then (some true) else ((tocsinref1_Holds.f k x7).bind fun bt193 => (if bt193.1 = true then (some ((bt193.2 == 0) == x2)) else (some (false == x2))))) else ((tocsinref1_Holds.f k x7).bind fun bt195 => (if bt195.1 = true then (some ((bt195.2 == 0) == x2)) else (some (false == x2))))))
def tocsinlaw23_PolicySays.f (k : Nat) (a0_0 : Int) (a0_1 : Int) (l1 : List (S28)) (a2 : Bool) : Option (Bool) := (tocsinlaw23_awake.f).bind fun t184 => (if t184 = true then (if (l1.length : Int) > 6 then (some true) else (tocsinlaw23_PolicySays.l0 k l1 a2 ([] : List (S29)) 0)) else (some false))
theorem tocsinlaw23_PolicySays.mono_l : ∀ k, (∀ y0 y1 y2 y3, LeO (tocsinlaw23_PolicySays.l0 k y0 y1 y2 y3) (tocsinlaw23_PolicySays.l0 (k + 1) y0 y1 y2 y3))
  | 0 => fun _ _ _ _ r h => by simp [tocsinlaw23_PolicySays.l0] at h
  | k + 1 => by
    have ih0 := tocsinlaw23_PolicySays.mono_l k
    · intro y0 y1 y2 y3
      unfold tocsinlaw23_PolicySays.l0
      repeat' first
      | (with_reducible exact ih0 _ _ _ _)
      | (with_reducible exact tocsinref1_Frame.mono _ _)
      | (with_reducible exact tocsinref1_Holds.mono _ _)
      | (with_reducible exact LeO.refl _)
      | (with_reducible exact LeO.none _)
      | (with_reducible refine LeO.ite ?_ ?_)
      | (with_reducible refine LeO.bind ?_ (fun _ => ?_))
      | exact ih0 _ _ _ _
      | exact tocsinref1_Frame.mono _ _
      | exact tocsinref1_Holds.mono _ _
      | exact LeO.none _
      | refine LeO.ite ?_ ?_
      | refine LeO.bind ?_ (fun _ => ?_)
theorem tocsinlaw23_PolicySays.mono : ∀ a0 a1 a2 a3 k, LeO (tocsinlaw23_PolicySays.f k a0 a1 a2 a3) (tocsinlaw23_PolicySays.f (k + 1) a0 a1 a2 a3) := by
  intro a0 a1 a2 a3 k
  have ih0 := tocsinlaw23_PolicySays.mono_l k
  unfold tocsinlaw23_PolicySays.f
  repeat' first
      | (with_reducible exact ih0 _ _ _ _)
      | (with_reducible exact tocsinref1_Frame.mono _ _)
      | (with_reducible exact tocsinref1_Holds.mono _ _)
      | (with_reducible exact LeO.refl _)
      | (with_reducible exact LeO.none _)
      | (with_reducible refine LeO.ite ?_ ?_)
      | (with_reducible refine LeO.bind ?_ (fun _ => ?_))
      | exact ih0 _ _ _ _
      | exact tocsinref1_Frame.mono _ _
      | exact tocsinref1_Holds.mono _ _
      | exact LeO.none _
      | refine LeO.ite ?_ ?_
      | refine LeO.bind ?_ (fun _ => ?_)
def tocsinlaw23_PolicySays.T9 : Bool × List (List Nat × List Nat) := (true, [([], []), ([], []), ([], []), ([1, 2], [1, 2]), ([3], [3]), ([4], [4]), ([], []), ([], []), ([6, 7], [6, 7]), ([8], [8]), ([9], [9]), ([], []), ([], []), ([11, 12], [11, 12]), ([13], [13]), ([14], [14]), ([5, 10, 15], [5, 10, 15]), ([16], [16]), ([0, 17], [0, 17]), ([18, 18, 0, 1, 2, 3, 4, 5, 6, 7, 8, 9, 10, 11, 12, 13, 14, 15, 16, 17, 18], [0, 18])])
def tocsinlaw23_PolicySays.B9 : List Nat := [0, 0, 0, 6, 14, 30, 0, 0, 192, 448, 960, 0, 0, 6144, 14336, 30720, 65534, 131070, 262143, 524287]
theorem tocsinlaw23_PolicySays.tab9 : rtab .any (opsOf Try.f3 9) = tocsinlaw23_PolicySays.T9 := by kernel_rfl
theorem tocsinlaw23_PolicySays.bits9 : waitsOk tocsinlaw23_PolicySays.T9.2 tocsinlaw23_PolicySays.B9 = true := by kernel_rfl
set_option maxHeartbeats 8000000 in
set_option maxRecDepth 100000 in
theorem tocsinlaw23_PolicySays.calls (k : Nat) (a0_0 : Int) (a0_1 : Int) (A1 : Option Addr) (c1 : Nat) (l1 : List (S28)) (a2 : Bool) (bl dg : Bool) (r : Bool) (w : World) (hr1 : Kd.C k28 w A1 l1.length l1) (hc1 : l1.length ≤ c1) (h : tocsinlaw23_PolicySays.f k a0_0 a0_1 l1 a2 = some r) (hr_ : r = true) (hD : ∀ W, Calls Try.prog 11 #[.iface 36 (.agg #[.int .i64 a0_0, .int .i64 a0_1])] W fun e w' => e = .returned (.bool dg) ∧ Below W.heap.size W w') (hGR : ∀ W, Calls Try.prog 12 #[.int .i64 a0_0, .int .i64 a0_1] W fun e w' => e = .returned (.bool dg) ∧ Below W.heap.size W w') (hS : ∀ W, Kd.C k28 W A1 l1.length l1 → Calls Try.prog 11 #[.iface 38 (.agg #[.slice A1 l1.length c1, .bool bl])] W fun e w' => e = .returned (.bool a2) ∧ Below W.heap.size W w') :
    Calls Try.prog 3 #[.agg #[.int .i64 a0_0, .int .i64 a0_1], .slice A1 l1.length c1, .bool bl] w fun e w' => e = .returned (.bool r) ∧ Below w.heap.size w w' := by
  have HR_ := Aside0.mk hr_
  have HD := Aside0.mk hD
  have HG := Aside0.mk hGR
  have HS := Aside0.mk hS
  clear hr_ hD hGR hS
  have hu23 := Try.underlying23
  have hu29 := Try.underlying29
  have HR1 := Aside0.mk hr1
  have HC1 := Aside0.mk hc1
  clear hr1 hc1
  have HB := Aside0.mk (Below.refl w.heap.size w)
  have H : ((tocsinlaw23_awake.f).bind fun t184 => (if t184 = true then (if (l1.length : Int) > 6 then (some true) else (tocsinlaw23_PolicySays.l0 k l1 a2 ([] : List (S29)) 0)) else (some false))) = some r := h
  clear h
  replace H := Option.bind_eq_some_iff.mp H
  obtain ⟨t184, A40, H⟩ := H
  replace H : (if t184 = true then (if (l1.length : Int) > 6 then (some true) else (tocsinlaw23_PolicySays.l0 k l1 a2 ([] : List (S29)) 0)) else (some false)) = some r := H
  have A4 := Aside0.mk A40
  clear A40
  by_cases c5 : t184 = true
  · subst c5
    have H1 : (if (l1.length : Int) > 6 then (some true) else (tocsinlaw23_PolicySays.l0 k l1 a2 ([] : List (S29)) 0)) = some r := by rw [if_pos rfl] at H; exact H
    clear H
    have H := H1
    clear H1
    by_cases c6 : (l1.length : Int) > 6
    · rw [if_pos c6] at H
      have c6b0 : decide (6 < (l1.length : Int)) = true := decide_eq_true c6
      have c6b1 : decide (6 < l1.length) = true := decide_eq_true (by omega)
      clear c6
      obtain rfl := Option.some.inj H
      go_enter Try.func3, Try.ntmps3
      go_wp2_with (first | ((with_reducible refine gate_dst (N := 3) rfl ?_); refine box_event ?hg (N := 3) ?hd (cs := #[.int .i64 a0_0, .int .i64 a0_1]) (t := 23) ?hr ?_; (case hd => rfl); (case hg => rfl); (case hr => first | (go_simp; done) | (go_simp; rfl)); intro gb183 hg w7 hbox hb; have n0_ := Aside0.mk (below_step (by repeat (first | (with_reducible first | exact HB.out | apply below_alloc | apply pw_below_drewN | apply below_drew1) | exact HB.out)) hb); have n1_ := Aside0.mk (hbox); have n2_ := Aside0.mk ((by rw [hg]; exact (below_size (by repeat (first | (with_reducible first | exact HB.out | apply below_alloc | apply pw_below_drewN | apply below_drew1) | exact HB.out))) : w.heap.size ≤ gb183)); have n3_ := Aside0.mk ((by rw [hg]; exact (below_size (by repeat (first | (with_reducible first | exact HB.out | apply below_alloc | apply pw_below_drewN | apply below_drew1) | exact HB.out))) : w.heap.size ≤ gb183)); clear HB; have HB := n0_; have BK183 := n1_; have GW183 := n2_; have GE183 := n3_; clear n0_ n1_ n2_ n3_; clear hb hbox hg) | ((with_reducible refine gate_callee (f := 6) rfl ?_); refine goesL_ (some 26) rfl rfl Try.func6 (by kernel_rfl) rfl #[] rfl (by (try simp only [List.map_toArray, List.map_cons, List.map_nil]); first | done | rfl | (simp only [List.length_drop, List.length_take]; rfl)) ?_; (with_reducible refine (tocsinlaw23_awake.calls  true _ A4.out).mono ?_); rintro e w8 ⟨rfl, hb⟩; refine ⟨_, rfl, ?_⟩; have n0_ := Aside0.mk (blk_below (g := gb183) (o := .cells #[.int .i64 a0_0, .int .i64 a0_1] 23 (0, 0)) (by (with_reducible repeat (first | refine blk_drewN ?_ _ | refine blk_drew ?_ | refine blk_alloc ?_ _)); exact BK183.out) hb); have n1_ := Aside0.mk (below_step (by repeat (first | (with_reducible first | exact HB.out | apply below_alloc | apply pw_below_drewN | apply below_drew1 | refine below_set ?_ GE183.out) | exact HB.out)) hb); clear BK183; clear HB; have BK183 := n0_; have HB := n1_; clear n0_ n1_; (try clear hb); (try clear hb2); (try clear hk); (try clear hi)))
      go_ret
      exact ⟨by first | rfl | (simp [errW_none, errW_some] <;> rfl) | (simp [*, errW_none, errW_some] <;> rfl), by repeat (first | (with_reducible first | exact HB.out | apply below_alloc | apply pw_below_drewN | apply below_drew1 | refine below_set ?_ GE183.out) | exact HB.out)⟩
    · rw [if_neg c6] at H
      have c6b0 : decide (6 < (l1.length : Int)) = false := decide_eq_false c6
      have c6b1 : decide (6 < l1.length) = false := decide_eq_false (by omega)
      clear c6
      have H' := Aside0.mk H
      clear H
      go_enter Try.func3, Try.ntmps3
      go_wp2_with (first | ((with_reducible refine gate_dst (N := 3) rfl ?_); refine box_event ?hg (N := 3) ?hd (cs := #[.int .i64 a0_0, .int .i64 a0_1]) (t := 23) ?hr ?_; (case hd => rfl); (case hg => rfl); (case hr => first | (go_simp; done) | (go_simp; rfl)); intro gb183 hg w9 hbox hb; have n0_ := Aside0.mk (below_step (by repeat (first | (with_reducible first | exact HB.out | apply below_alloc | apply pw_below_drewN | apply below_drew1) | exact HB.out)) hb); have n1_ := Aside0.mk (hbox); have n2_ := Aside0.mk ((by rw [hg]; exact (below_size (by repeat (first | (with_reducible first | exact HB.out | apply below_alloc | apply pw_below_drewN | apply below_drew1) | exact HB.out))) : w.heap.size ≤ gb183)); have n3_ := Aside0.mk ((by rw [hg]; exact (below_size (by repeat (first | (with_reducible first | exact HB.out | apply below_alloc | apply pw_below_drewN | apply below_drew1) | exact HB.out))) : w.heap.size ≤ gb183)); clear HB; have HB := n0_; have BK183 := n1_; have GW183 := n2_; have GE183 := n3_; clear n0_ n1_ n2_ n3_; clear hb hbox hg) | ((with_reducible refine gate_callee (f := 6) rfl ?_); refine goesL_ (some 26) rfl rfl Try.func6 (by kernel_rfl) rfl #[] rfl (by (try simp only [List.map_toArray, List.map_cons, List.map_nil]); first | done | rfl | (simp only [List.length_drop, List.length_take]; rfl)) ?_; (with_reducible refine (tocsinlaw23_awake.calls  true _ A4.out).mono ?_); rintro e w10 ⟨rfl, hb⟩; refine ⟨_, rfl, ?_⟩; have n0_ := Aside0.mk (blk_below (g := gb183) (o := .cells #[.int .i64 a0_0, .int .i64 a0_1] 23 (0, 0)) (by (with_reducible repeat (first | refine blk_drewN ?_ _ | refine blk_drew ?_ | refine blk_alloc ?_ _)); exact BK183.out) hb); have n1_ := Aside0.mk (below_step (by repeat (first | (with_reducible first | exact HB.out | apply below_alloc | apply pw_below_drewN | apply below_drew1 | refine below_set ?_ GE183.out) | exact HB.out)) hb); clear BK183; clear HB; have BK183 := n0_; have HB := n1_; clear n0_ n1_; (try clear hb); (try clear hb2); (try clear hk); (try clear hi)))
      go_loopg [7, 8] k (fun kq v7 v8 w' => ∃ (x7_1 : List (S29)) (x8_1 : Int), v8 = .int .i64 x8_1 ∧ Aside0 (tocsinlaw23_PolicySays.l0 kq l1 a2 x7_1 x8_1 = some r) ∧ Aside0 (kq ≤ k) ∧ Aside0 (Kd.R k29 29 w' w.heap.size (fun _ => True) v7 x7_1) ∧ Aside0 (w'.heap[gb183]? = some (.cells #[.int .i64 a0_0, .int .i64 a0_1] 23 (0, 0))) ∧ Aside0 (Below w.heap.size w w'))
      case atStart => exact ⟨(([] : List (S29))), (0), (by first | rfl | (simp; done) | (simp [*]; done)), H', ⟨Nat.le_refl _⟩, ⟨by first | exact Kd.R_nil _ _ _ _ _ | exact Kd.N_nil _ _ _ _ _ | exact Kd.V_nil _ _ _ _ _ | exact Kd.Q_nil _ _ _ _ _ | exact Kd.S_nil _ _ _ _ _⟩, ⟨by (with_reducible repeat (first | refine blk_drewN ?_ _ | refine blk_drew ?_ | refine blk_alloc ?_ _)); exact BK183.out⟩, ⟨by repeat (first | (with_reducible first | exact HB.out | apply below_alloc | apply pw_below_drewN | apply below_drew1 | refine below_set ?_ GE183.out) | exact HB.out)⟩⟩
      case round =>
        clear H'
        try clear c1
        try clear p2
        try clear c3
        try clear c5
        try clear c6
        try clear c6b0
        try clear c6b1
        obtain ⟨x7_1, x8_1, rfl, HA, HK1, HO_7, BK183, HB⟩ := hrel
        cases gk with
        | zero => exact absurd HA.out (by simp [tocsinlaw23_PolicySays.l0])
        | succ k1 =>
          have H := HA.out
          clear HA
          simp only [tocsinlaw23_PolicySays.l0] at H
          by_cases c11 : x8_1 < (l1.length : Int)
          · rw [if_pos c11] at H
            have c11b0 : decide (x8_1 < (l1.length : Int)) = true := decide_eq_true c11
            clear c11
            by_cases c12 : 0 ≤ x8_1
            · rw [if_pos c12] at H
              have c12b0 : decide (0 ≤ x8_1) = true := decide_eq_true c12
              clear c12
              by_cases c13 : x7_1.length < 5864062014805
              · rw [if_pos c13] at H
                have LMc13 := Aside0.mk c13
                clear c13
                obtain ⟨y188, hy188⟩ : ∃ y_ : List (S29), y_ = (x7_1 ++ [(⟨(rd_T28 l1 x8_1).f0, (rd_T28 l1 x8_1).f1, (rd_T28 l1 x8_1).f2⟩ : S29)]) := ⟨_, rfl⟩
                replace H : (tocsinlaw23_PolicySays.l0 k1 l1 a2 y188 (wrap64 (x8_1 + 1))) = some r := by first | (rw [hy188]; with_reducible exact H) | (have H2_ := (Option.bind_some _ _).symm.trans H; rw [hy188]; with_reducible exact H2_) | (have H2_ := (Option.bind_some _ _).symm.trans H; with_reducible exact H2_) | with_reducible exact H | (rw [hy188]; exact H) | exact H
                have Ny188 := Aside0.mk hy188
                clear hy188
                have H' := Aside0.mk H
                clear H
                try go_wp2
                have n0_ := Aside0.mk (Kd.R_drew HO_7.out)
                have n1_ := Aside0.mk (blk_drew BK183.out)
                have n2_ := Aside0.mk (below_drew1 HB.out)
                clear HO_7
                clear BK183
                clear HB
                have HO_7 := n0_
                have BK183 := n1_
                have HB := n2_
                clear n0_ n1_ n2_
                have p185 : 0 ≤ (x8_1 : Int) := of_decide_eq_true (by first | (with_reducible assumption) | assumption)
                have q185 : x8_1 < (l1.length : Int) := of_decide_eq_true (by first | (with_reducible assumption) | assumption)
                obtain ⟨ad185, e185, hx185_0, hx185_1, hx185_2⟩ := at_T28 HR1.out x8_1 p185 q185
                have hw185_2 := hx185_2
                have hw185_1 := hx185_1
                have hw185_0 := hx185_0
                cases e185
                replace hx185_0 := (HB.out.cell (World.block_lt_of_cell? w _ hx185_0)).trans hx185_0
                replace hx185_1 := (HB.out.cell (World.block_lt_of_cell? w _ hx185_1)).trans hx185_1
                replace hx185_2 := (HB.out.cell (World.block_lt_of_cell? w _ hx185_2)).trans hx185_2
                replace p185 := eq_true p185
                replace q185 := eq_true q185
                have p186 : 0 ≤ (x8_1 : Int) := of_decide_eq_true (by first | (with_reducible assumption) | assumption)
                have q186 : x8_1 < (l1.length : Int) := of_decide_eq_true (by first | (with_reducible assumption) | assumption)
                obtain ⟨ad186, e186, hx186_0, hx186_1, hx186_2⟩ := at_T28 HR1.out x8_1 p186 q186
                have hw186_2 := hx186_2
                have hw186_1 := hx186_1
                have hw186_0 := hx186_0
                obtain rfl : ad185 = ad186 := (by injection e186)
                replace hx186_0 := (HB.out.cell (World.block_lt_of_cell? w _ hx186_0)).trans hx186_0
                replace hx186_1 := (HB.out.cell (World.block_lt_of_cell? w _ hx186_1)).trans hx186_1
                replace hx186_2 := (HB.out.cell (World.block_lt_of_cell? w _ hx186_2)).trans hx186_2
                replace p186 := eq_true p186
                replace q186 := eq_true q186
                have p187 : 0 ≤ (x8_1 : Int) := of_decide_eq_true (by first | (with_reducible assumption) | assumption)
                have q187 : x8_1 < (l1.length : Int) := of_decide_eq_true (by first | (with_reducible assumption) | assumption)
                obtain ⟨ad187, e187, hx187_0, hx187_1, hx187_2⟩ := at_T28 HR1.out x8_1 p187 q187
                have hw187_2 := hx187_2
                have hw187_1 := hx187_1
                have hw187_0 := hx187_0
                obtain rfl : ad185 = ad187 := (by injection e187)
                replace hx187_0 := (HB.out.cell (World.block_lt_of_cell? w _ hx187_0)).trans hx187_0
                replace hx187_1 := (HB.out.cell (World.block_lt_of_cell? w _ hx187_1)).trans hx187_1
                replace hx187_2 := (HB.out.cell (World.block_lt_of_cell? w _ hx187_2)).trans hx187_2
                replace p187 := eq_true p187
                replace q187 := eq_true q187
                refine start_ (n := 20) (S := fun w' => w'.cell? (ad185.add ((x8_1).toNat * 3)) = some (.int .i64 ((rd_T28 l1 x8_1).f0)) ∧ w'.cell? ⟨(ad185.add ((x8_1).toNat * 3)).block, (ad185.add ((x8_1).toNat * 3)).off + 1, none⟩ = some (.int .i64 ((rd_T28 l1 x8_1).f1)) ∧ w'.cell? ⟨(ad185.add ((x8_1).toNat * 3)).block, (ad185.add ((x8_1).toNat * 3)).off + 2, none⟩ = some (.int .i64 ((rd_T28 l1 x8_1).f2)) ∧ w'.cell? (ad185.add ((x8_1).toNat * 3)) = some (.int .i64 ((rd_T28 l1 x8_1).f0)) ∧ w'.cell? ⟨(ad185.add ((x8_1).toNat * 3)).block, (ad185.add ((x8_1).toNat * 3)).off + 1, none⟩ = some (.int .i64 ((rd_T28 l1 x8_1).f1)) ∧ w'.cell? ⟨(ad185.add ((x8_1).toNat * 3)).block, (ad185.add ((x8_1).toNat * 3)).off + 2, none⟩ = some (.int .i64 ((rd_T28 l1 x8_1).f2)) ∧ w'.cell? (ad185.add ((x8_1).toNat * 3)) = some (.int .i64 ((rd_T28 l1 x8_1).f0)) ∧ w'.cell? ⟨(ad185.add ((x8_1).toNat * 3)).block, (ad185.add ((x8_1).toNat * 3)).off + 1, none⟩ = some (.int .i64 ((rd_T28 l1 x8_1).f1)) ∧ w'.cell? ⟨(ad185.add ((x8_1).toNat * 3)).block, (ad185.add ((x8_1).toNat * 3)).off + 2, none⟩ = some (.int .i64 ((rd_T28 l1 x8_1).f2))) (ds := []) #[false, false, false, false, false, false, false, false, false, false, false, false, false, false, false, false, false, false, false, false] (by kernel_rfl) rfl rfl ⟨((HB.out.cell (World.block_lt_of_cell? w _ hw185_0)).trans hw185_0), ((HB.out.cell (World.block_lt_of_cell? w _ hw185_1)).trans hw185_1), ((HB.out.cell (World.block_lt_of_cell? w _ hw185_2)).trans hw185_2), ((HB.out.cell (World.block_lt_of_cell? w _ hw186_0)).trans hw186_0), ((HB.out.cell (World.block_lt_of_cell? w _ hw186_1)).trans hw186_1), ((HB.out.cell (World.block_lt_of_cell? w _ hw186_2)).trans hw186_2), ((HB.out.cell (World.block_lt_of_cell? w _ hw187_0)).trans hw187_0), ((HB.out.cell (World.block_lt_of_cell? w _ hw187_1)).trans hw187_1), ((HB.out.cell (World.block_lt_of_cell? w _ hw187_2)).trans hw187_2)⟩ (fun hHeld => ?_); refine with_tabW tocsinlaw23_PolicySays.tab9 tocsinlaw23_PolicySays.bits9 (fun HT_ HW_ => ?_)
                generalize wr.drew = w14 at HO_7 BK183 HB hx185_0 hx185_1 hx185_2 hx186_0 hx186_1 hx186_2 hx187_0 hx187_1 hx187_2 hHeld ⊢
                refine pure_ (i := 0) (N := some 37) (v := ?_) (a' := ?_) #[true, false, false, false, false, false, false, false, false, false, false, false, false, false, false, false, false, false, false, false] rfl rfl (any_of HT_.out (by kernel_rfl)) (fun _ _ _ h => h) (Or.inl ⟨by rfl, ?_⟩) ?_ ?_
                rotate_left
                · intro w'
                  go_simp
                  with_reducible rfl
                rotate_left
                · simp only [Act.put, List.setIfInBounds_toArray, List.set_cons_zero, List.set_cons_succ, i64_w, i32_w]
                  rfl
                refine pure_ (i := 1) (N := some 38) (v := ?_) (a' := ?_) #[true, true, false, false, false, false, false, false, false, false, false, false, false, false, false, false, false, false, false, false] rfl rfl (any_of HT_.out (by kernel_rfl)) (fun _ _ _ h => h) (Or.inl ⟨by rfl, ?_⟩) ?_ ?_
                rotate_left
                · intro w'
                  go_simp
                  with_reducible rfl
                rotate_left
                · simp only [Act.put, List.setIfInBounds_toArray, List.set_cons_zero, List.set_cons_succ, i64_w, i32_w]
                  rfl
                refine pure_ (i := 2) (N := some 39) (v := ?_) (a' := ?_) #[true, true, true, false, false, false, false, false, false, false, false, false, false, false, false, false, false, false, false, false] rfl rfl (any_of HT_.out (by kernel_rfl)) (fun _ _ _ h => h) (Or.inl ⟨by rfl, ?_⟩) ?_ ?_
                rotate_left
                · intro w'
                  go_simp
                  with_reducible rfl
                rotate_left
                · simp only [Act.put, List.setIfInBounds_toArray, List.set_cons_zero, List.set_cons_succ, i64_w, i32_w]
                  rfl
                refine pure_ (i := 3) (N := some 40) (v := ?_) (a' := ?_) #[true, true, true, true, false, false, false, false, false, false, false, false, false, false, false, false, false, false, false, false] rfl rfl (any_of HT_.out (by kernel_rfl)) (fun _ _ _ h => h) (Or.inl ⟨by rfl, ?_⟩) ?_ ?_
                rotate_left
                · intro w'
                  go_simp
                  with_reducible rfl
                rotate_left
                · simp only [Act.put, List.setIfInBounds_toArray, List.set_cons_zero, List.set_cons_succ, i64_w, i32_w]
                  rfl
                refine pure_ (i := 4) (N := some 41) (v := ?_) (a' := ?_) #[true, true, true, true, true, false, false, false, false, false, false, false, false, false, false, false, false, false, false, false] rfl rfl (any_of HT_.out (by kernel_rfl)) (fun _ _ _ h => h) (Or.inl ⟨by rfl, ?_⟩) ?_ ?_
                rotate_left
                · intro w'
                  go_simp
                  with_reducible rfl
                rotate_left
                · simp only [Act.put, List.setIfInBounds_toArray, List.set_cons_zero, List.set_cons_succ, i64_w, i32_w]
                  rfl
                refine pure_ (i := 6) (N := some 43) (v := ?_) (a' := ?_) #[true, true, true, true, true, false, true, false, false, false, false, false, false, false, false, false, false, false, false, false] rfl rfl (any_of HT_.out (by kernel_rfl)) (fun _ _ _ h => h) (Or.inl ⟨by rfl, ?_⟩) ?_ ?_
                rotate_left
                · intro w'
                  go_simp
                  with_reducible rfl
                rotate_left
                · simp only [Act.put, List.setIfInBounds_toArray, List.set_cons_zero, List.set_cons_succ, i64_w, i32_w]
                  rfl
                refine pure_ (i := 7) (N := some 44) (v := ?_) (a' := ?_) #[true, true, true, true, true, false, true, true, false, false, false, false, false, false, false, false, false, false, false, false] rfl rfl (any_of HT_.out (by kernel_rfl)) (fun _ _ _ h => h) (Or.inl ⟨by rfl, ?_⟩) ?_ ?_
                rotate_left
                · intro w'
                  go_simp
                  with_reducible rfl
                rotate_left
                · simp only [Act.put, List.setIfInBounds_toArray, List.set_cons_zero, List.set_cons_succ, i64_w, i32_w]
                  rfl
                refine pure_ (i := 8) (N := some 45) (v := ?_) (a' := ?_) #[true, true, true, true, true, false, true, true, true, false, false, false, false, false, false, false, false, false, false, false] rfl rfl (any_of HT_.out (by kernel_rfl)) (fun _ _ _ h => h) (Or.inl ⟨by rfl, ?_⟩) ?_ ?_
                rotate_left
                · intro w'
                  go_simp
                  with_reducible rfl
                rotate_left
                · simp only [Act.put, List.setIfInBounds_toArray, List.set_cons_zero, List.set_cons_succ, i64_w, i32_w]
                  rfl
                refine pure_ (i := 9) (N := some 46) (v := ?_) (a' := ?_) #[true, true, true, true, true, false, true, true, true, true, false, false, false, false, false, false, false, false, false, false] rfl rfl (any_of HT_.out (by kernel_rfl)) (fun _ _ _ h => h) (Or.inl ⟨by rfl, ?_⟩) ?_ ?_
                rotate_left
                · intro w'
                  go_simp
                  with_reducible rfl
                rotate_left
                · simp only [Act.put, List.setIfInBounds_toArray, List.set_cons_zero, List.set_cons_succ, i64_w, i32_w]
                  rfl
                refine pure_ (i := 11) (N := some 48) (v := ?_) (a' := ?_) #[true, true, true, true, true, false, true, true, true, true, false, true, false, false, false, false, false, false, false, false] rfl rfl (any_of HT_.out (by kernel_rfl)) (fun _ _ _ h => h) (Or.inl ⟨by rfl, ?_⟩) ?_ ?_
                rotate_left
                · intro w'
                  go_simp
                  with_reducible rfl
                rotate_left
                · simp only [Act.put, List.setIfInBounds_toArray, List.set_cons_zero, List.set_cons_succ, i64_w, i32_w]
                  rfl
                refine pure_ (i := 12) (N := some 49) (v := ?_) (a' := ?_) #[true, true, true, true, true, false, true, true, true, true, false, true, true, false, false, false, false, false, false, false] rfl rfl (any_of HT_.out (by kernel_rfl)) (fun _ _ _ h => h) (Or.inl ⟨by rfl, ?_⟩) ?_ ?_
                rotate_left
                · intro w'
                  go_simp
                  with_reducible rfl
                rotate_left
                · simp only [Act.put, List.setIfInBounds_toArray, List.set_cons_zero, List.set_cons_succ, i64_w, i32_w]
                  rfl
                refine pure_ (i := 13) (N := some 50) (v := ?_) (a' := ?_) #[true, true, true, true, true, false, true, true, true, true, false, true, true, true, false, false, false, false, false, false] rfl rfl (any_of HT_.out (by kernel_rfl)) (fun _ _ _ h => h) (Or.inl ⟨by rfl, ?_⟩) ?_ ?_
                rotate_left
                · intro w'
                  go_simp
                  with_reducible rfl
                rotate_left
                · simp only [Act.put, List.setIfInBounds_toArray, List.set_cons_zero, List.set_cons_succ, i64_w, i32_w]
                  rfl
                refine pure_ (i := 14) (N := some 51) (v := ?_) (a' := ?_) #[true, true, true, true, true, false, true, true, true, true, false, true, true, true, true, false, false, false, false, false] rfl rfl (any_of HT_.out (by kernel_rfl)) (fun _ _ _ h => h) (Or.inl ⟨by rfl, ?_⟩) ?_ ?_
                rotate_left
                · intro w'
                  go_simp
                  with_reducible rfl
                rotate_left
                · simp only [Act.put, List.setIfInBounds_toArray, List.set_cons_zero, List.set_cons_succ, i64_w, i32_w]
                  rfl
                refine take_ (i := 5) (N := some 42) (v := ?_) (a' := ?_) #[true, true, true, true, true, true, true, true, true, true, false, true, true, true, true, false, false, false, false, false] rfl rfl (take_ofW HT_.out HW_.out (by kernel_rfl)) (fun _ _ _ h => h) (Or.inl ⟨by rfl, ?_⟩) hHeld ?_ ?_
                rotate_left
                · rintro w' ⟨s0, s1, s2, s3, s4, s5, s6, s7, s8⟩
                  go_simp
                  with_reducible rfl
                rotate_left
                · simp only [Act.put, List.setIfInBounds_toArray, List.set_cons_zero, List.set_cons_succ, i64_w, i32_w]
                  rfl
                refine take_ (i := 10) (N := some 47) (v := ?_) (a' := ?_) #[true, true, true, true, true, true, true, true, true, true, true, true, true, true, true, false, false, false, false, false] rfl rfl (take_ofW HT_.out HW_.out (by kernel_rfl)) (fun _ _ _ h => h) (Or.inl ⟨by rfl, ?_⟩) hHeld ?_ ?_
                rotate_left
                · rintro w' ⟨s0, s1, s2, s3, s4, s5, s6, s7, s8⟩
                  go_simp
                  with_reducible rfl
                rotate_left
                · simp only [Act.put, List.setIfInBounds_toArray, List.set_cons_zero, List.set_cons_succ, i64_w, i32_w]
                  rfl
                refine take_ (i := 15) (N := some 52) (v := ?_) (a' := ?_) #[true, true, true, true, true, true, true, true, true, true, true, true, true, true, true, true, false, false, false, false] rfl rfl (take_ofW HT_.out HW_.out (by kernel_rfl)) (fun _ _ _ h => h) (Or.inl ⟨by rfl, ?_⟩) hHeld ?_ ?_
                rotate_left
                · rintro w' ⟨s0, s1, s2, s3, s4, s5, s6, s7, s8⟩
                  go_simp
                  with_reducible rfl
                rotate_left
                · simp only [Act.put, List.setIfInBounds_toArray, List.set_cons_zero, List.set_cons_succ, i64_w, i32_w]
                  rfl
                refine pure_ (i := 16) (N := some 53) (v := ?_) (a' := ?_) #[true, true, true, true, true, true, true, true, true, true, true, true, true, true, true, true, true, false, false, false] rfl rfl (any_of HT_.out (by kernel_rfl)) (fun _ _ _ h => h) (Or.inl ⟨by rfl, ?_⟩) ?_ ?_
                rotate_left
                · intro w'
                  go_simp
                  with_reducible rfl
                rotate_left
                · simp only [Act.put, List.setIfInBounds_toArray, List.set_cons_zero, List.set_cons_succ, i64_w, i32_w]
                  rfl
                refine one_ (i := 17) (N := some 54) #[true, true, true, true, true, true, true, true, true, true, true, true, true, true, true, true, true, true, false, false] rfl rfl (one_of HT_.out (by kernel_rfl)) (by decide) (fun K hK => ?_)
                refine value_ (w1 := ?_) (v := ?_) (by rfl) rfl ?_ ?_
                rotate_left 2
                · go_simp
                  constructor
                  · rfl
                  · rfl
                refine hK.out _ _ ⟨(World.cell?_alloc_lt _ _ _ (World.block_lt_of_cell? _ _ (((HB.out.cell (World.block_lt_of_cell? w _ hw185_0)).trans hw185_0)))).trans (((HB.out.cell (World.block_lt_of_cell? w _ hw185_0)).trans hw185_0)), (World.cell?_alloc_lt _ _ _ (World.block_lt_of_cell? _ _ (((HB.out.cell (World.block_lt_of_cell? w _ hw185_1)).trans hw185_1)))).trans (((HB.out.cell (World.block_lt_of_cell? w _ hw185_1)).trans hw185_1)), (World.cell?_alloc_lt _ _ _ (World.block_lt_of_cell? _ _ (((HB.out.cell (World.block_lt_of_cell? w _ hw185_2)).trans hw185_2)))).trans (((HB.out.cell (World.block_lt_of_cell? w _ hw185_2)).trans hw185_2)), (World.cell?_alloc_lt _ _ _ (World.block_lt_of_cell? _ _ (((HB.out.cell (World.block_lt_of_cell? w _ hw186_0)).trans hw186_0)))).trans (((HB.out.cell (World.block_lt_of_cell? w _ hw186_0)).trans hw186_0)), (World.cell?_alloc_lt _ _ _ (World.block_lt_of_cell? _ _ (((HB.out.cell (World.block_lt_of_cell? w _ hw186_1)).trans hw186_1)))).trans (((HB.out.cell (World.block_lt_of_cell? w _ hw186_1)).trans hw186_1)), (World.cell?_alloc_lt _ _ _ (World.block_lt_of_cell? _ _ (((HB.out.cell (World.block_lt_of_cell? w _ hw186_2)).trans hw186_2)))).trans (((HB.out.cell (World.block_lt_of_cell? w _ hw186_2)).trans hw186_2)), (World.cell?_alloc_lt _ _ _ (World.block_lt_of_cell? _ _ (((HB.out.cell (World.block_lt_of_cell? w _ hw187_0)).trans hw187_0)))).trans (((HB.out.cell (World.block_lt_of_cell? w _ hw187_0)).trans hw187_0)), (World.cell?_alloc_lt _ _ _ (World.block_lt_of_cell? _ _ (((HB.out.cell (World.block_lt_of_cell? w _ hw187_1)).trans hw187_1)))).trans (((HB.out.cell (World.block_lt_of_cell? w _ hw187_1)).trans hw187_1)), (World.cell?_alloc_lt _ _ _ (World.block_lt_of_cell? _ _ (((HB.out.cell (World.block_lt_of_cell? w _ hw187_2)).trans hw187_2)))).trans (((HB.out.cell (World.block_lt_of_cell? w _ hw187_2)).trans hw187_2))⟩ (fun hHeld => ?_)
                clear hK K
                refine norm_ (a' := ?_) ?_ ?_
                rotate_left
                · show Act.put _ (some 54) _ = _
                  simp only [Act.put, List.setIfInBounds_toArray, List.set_cons_zero, List.set_cons_succ, i64_w, i32_w]
                  rfl
                refine one_ (i := 18) (N := some 55) #[true, true, true, true, true, true, true, true, true, true, true, true, true, true, true, true, true, true, true, false] rfl rfl (one_of HT_.out (by kernel_rfl)) (by decide) (fun K hK => ?_)
                refine Kd.R_append_step k29 (w0 := w) w.heap.size (by rfl) (.tmp 37) (.tmp 54) 26 29 (.agg #[(.int .i64 0), (.int .i64 0), (.int .i64 0)]) 24 rfl Try.underlying26 info29 rfl (by decide) (by omega) u7 x7_1 (⟨(rd_T28 l1 x8_1).f0, (rd_T28 l1 x8_1).f1, (rd_T28 l1 x8_1).f2⟩ : S29) [.int .i64 ((rd_T28 l1 x8_1).f0), .int .i64 ((rd_T28 l1 x8_1).f1), .int .i64 ((rd_T28 l1 x8_1).f2)] (fun _ => True) (fun _ => False) rfl rfl ?aP (fun _ hk => hk.elim) ?aF ?aO ?aB ?aS ?aL ?_
                (case aP => exact k29_mkM _ _ _ (⟨(rd_T28 l1 x8_1).f0, (rd_T28 l1 x8_1).f1, (rd_T28 l1 x8_1).f2⟩ : S29))
                (case aB => exact (by repeat (first | (with_reducible first | exact HB.out | apply below_alloc | apply pw_below_drewN | apply below_drew1 | refine below_set ?_ GE183.out) | exact HB.out)))
                (case aF => exact (fun _ _ => trivial))
                (case aO => exact (by (with_reducible repeat (first | apply Kd.R_alloc | apply Kd.R_drewN | apply Kd.R_drew)); exact HO_7.out))
                (case aS => exact (below_size (by repeat (first | (with_reducible first | exact HB.out | apply below_alloc | apply pw_below_drewN | apply below_drew1 | refine below_set ?_ GE183.out) | exact HB.out))))
                (case aL => have := LMc13.out; omega)
                intro v189 w15 ho hb hg hat
                rw [← Ny188.out] at ho
                have n0_ := Aside0.mk (blk_grown (g := gb183) (o := .cells #[.int .i64 a0_0, .int .i64 a0_1] 23 (0, 0)) (by (with_reducible repeat (first | refine blk_drewN ?_ _ | refine blk_drew ?_ | refine blk_alloc ?_ _)); exact BK183.out) hg (Kd.R_ne HO_7.out BK183.out (by decide)))
                have n1_ := Aside0.mk (hb)
                have n2_ := Aside0.mk (ho)
                clear BK183
                clear HB
                clear HO_7
                have BK183 := n0_
                have HB := n1_
                have HO190 := n2_
                clear n0_ n1_ n2_
                clear ho hb hg hat
                refine hK.out _ _ ⟨((HB.out.cell (World.block_lt_of_cell? w _ hw185_0)).trans hw185_0), ((HB.out.cell (World.block_lt_of_cell? w _ hw185_1)).trans hw185_1), ((HB.out.cell (World.block_lt_of_cell? w _ hw185_2)).trans hw185_2), ((HB.out.cell (World.block_lt_of_cell? w _ hw186_0)).trans hw186_0), ((HB.out.cell (World.block_lt_of_cell? w _ hw186_1)).trans hw186_1), ((HB.out.cell (World.block_lt_of_cell? w _ hw186_2)).trans hw186_2), ((HB.out.cell (World.block_lt_of_cell? w _ hw187_0)).trans hw187_0), ((HB.out.cell (World.block_lt_of_cell? w _ hw187_1)).trans hw187_1), ((HB.out.cell (World.block_lt_of_cell? w _ hw187_2)).trans hw187_2)⟩ (fun hHeld => ?_)
                clear hK K
                refine norm_ (a' := ?_) ?_ ?_
                rotate_left
                · show Act.put _ (some 55) _ = _
                  simp only [Act.put, List.setIfInBounds_toArray, List.set_cons_zero, List.set_cons_succ, i64_w, i32_w]
                  rfl
                refine pure_ (i := 19) (N := some 7) (v := ?_) (a' := ?_) #[true, true, true, true, true, true, true, true, true, true, true, true, true, true, true, true, true, true, true, true] rfl rfl (any_of HT_.out (by kernel_rfl)) (fun _ _ _ h => h) (Or.inl ⟨by rfl, ?_⟩) ?_ ?_
                rotate_left
                · intro w'
                  go_simp
                  with_reducible rfl
                rotate_left
                · simp only [Act.put, List.setIfInBounds_toArray, List.set_cons_zero, List.set_cons_succ, i64_w, i32_w]
                  rfl
                refine done_ (done_of HT_.out (by kernel_rfl)) ?_
                try go_wp2
                go_roundg k1
                case measure => have := HK1.out; omega
                case rel => exact ⟨(y188), (wrap64 (x8_1 + 1)), (by first | rfl | (simp; done) | (simp [*]; done)), H', ⟨by have := HK1.out; omega⟩, ⟨by (with_reducible repeat (first | apply Kd.R_alloc | apply Kd.R_drewN | apply Kd.R_drew)); exact HO190.out⟩, ⟨by (with_reducible repeat (first | refine blk_drewN ?_ _ | refine blk_drew ?_ | refine blk_alloc ?_ _)); exact BK183.out⟩, ⟨by repeat (first | (with_reducible first | exact HB.out | apply below_alloc | apply pw_below_drewN | apply below_drew1 | refine below_set ?_ GE183.out) | exact HB.out)⟩⟩
              · rw [if_neg c13] at H
                exact absurd H (by simp)
            · rw [if_neg c12] at H
              exact absurd H (by simp)
          · rw [if_neg c11] at H
            have c11b0 : decide (x8_1 < (l1.length : Int)) = false := decide_eq_false c11
            clear c11
            replace H := Option.bind_eq_some_iff.mp H
            obtain ⟨⟨t191, t192⟩, A160, H⟩ := H
            replace H : (if t192 = 0 then (if t191 > 3000 then (some true) else ((tocsinref1_Holds.f k1 x7_1).bind fun bt193 => (if bt193.1 = true then (some ((bt193.2 == 0) == a2)) else (some (false == a2))))) else ((tocsinref1_Holds.f k1 x7_1).bind fun bt195 => (if bt195.1 = true then (some ((bt195.2 == 0) == a2)) else (some (false == a2))))) = some r := H
            have A16 := Aside0.mk A160
            clear A160
            by_cases c17 : t192 = 0
            · rw [if_pos c17] at H
              have c17b0 : (t192 == 0) = true := beq_iff_eq.mpr c17
              have c17b1 : (t192 != 0) = false := bne_eq_false_iff_eq.mpr c17
              clear c17
              by_cases c18 : t191 > 3000
              · rw [if_pos c18] at H
                have c18b0 : decide (3000 < t191) = true := decide_eq_true c18
                clear c18
                obtain rfl := Option.some.inj H
                obtain ⟨Ao19, co19, eo19⟩ := Kd.R_slice HO_7.out
                subst eo19
                go_wp2_with (first | ((with_reducible refine gate_callee (f := 7) rfl ?_); refine goesL_ (some 58) rfl rfl Try.func7 (by kernel_rfl) rfl #[.slice Ao19 x7_1.length co19] rfl (by (try simp only [List.map_toArray, List.map_cons, List.map_nil]); first | done | rfl | (simp only [List.length_drop, List.length_take]; rfl)) ?_; (with_reducible refine (tocsinref1_Frame.calls k1 _ _ x7_1 t191 t192 _ ?side1 ?side2 A16.out).mono ?_); (case side1 => repeat (first | exact (Kd.R_reads' HO_7.out).2.2 | (with_reducible refine Kd.C_alloc ?_ _) | (with_reducible refine Kd.C_drewN ?_ _) | (with_reducible refine Kd.C_drew ?_))); (case side2 => exact (Kd.R_reads' HO_7.out).2.1); rintro e w20 ⟨rfl, hb⟩; refine ⟨_, rfl, ?_⟩; have n0_ := Aside0.mk (Kd.R_below (by (with_reducible repeat (first | apply Kd.R_alloc | apply Kd.R_drewN | apply Kd.R_drew)); exact HO_7.out) hb); have n1_ := Aside0.mk (blk_below (g := gb183) (o := .cells #[.int .i64 a0_0, .int .i64 a0_1] 23 (0, 0)) (by (with_reducible repeat (first | refine blk_drewN ?_ _ | refine blk_drew ?_ | refine blk_alloc ?_ _)); exact BK183.out) hb); have n2_ := Aside0.mk (below_step (by repeat (first | (with_reducible first | exact HB.out | apply below_alloc | apply pw_below_drewN | apply below_drew1 | refine below_set ?_ GE183.out) | exact HB.out)) hb); clear HO_7; clear BK183; clear HB; have HO_7 := n0_; have BK183 := n1_; have HB := n2_; clear n0_ n1_ n2_; (try clear hb); (try clear hb2); (try clear hk); (try clear hi)))
                go_ret
                exact ⟨by first | rfl | (simp [errW_none, errW_some] <;> rfl) | (simp [*, errW_none, errW_some] <;> rfl), by repeat (first | (with_reducible first | exact HB.out | apply below_alloc | apply pw_below_drewN | apply below_drew1 | refine below_set ?_ GE183.out) | exact HB.out)⟩
              · rw [if_neg c18] at H
                have c18b0 : decide (3000 < t191) = false := decide_eq_false c18
                clear c18
                replace H := Option.bind_eq_some_iff.mp H
                obtain ⟨⟨t193, t194⟩, A210, H⟩ := H
                replace H : (if t193 = true then (some ((t194 == 0) == a2)) else (some (false == a2))) = some r := H
                have A21 := Aside0.mk A210
                clear A210
                by_cases c22 : t193 = true
                · subst c22
                  have H1 : (some ((t194 == 0) == a2)) = some r := by rw [if_pos rfl] at H; exact H
                  clear H
                  have H := H1
                  clear H1
                  obtain rfl := Option.some.inj H
                  obtain ⟨Ao23, co23, eo23⟩ := Kd.R_slice HO_7.out
                  subst eo23
                  go_wp2_with (first | ((with_reducible refine gate_callee (f := 7) rfl ?_); refine goesL_ (some 58) rfl rfl Try.func7 (by kernel_rfl) rfl #[.slice Ao23 x7_1.length co23] rfl (by (try simp only [List.map_toArray, List.map_cons, List.map_nil]); first | done | rfl | (simp only [List.length_drop, List.length_take]; rfl)) ?_; (with_reducible refine (tocsinref1_Frame.calls k1 _ _ x7_1 t191 t192 _ ?side1 ?side2 A16.out).mono ?_); (case side1 => repeat (first | exact (Kd.R_reads' HO_7.out).2.2 | (with_reducible refine Kd.C_alloc ?_ _) | (with_reducible refine Kd.C_drewN ?_ _) | (with_reducible refine Kd.C_drew ?_))); (case side2 => exact (Kd.R_reads' HO_7.out).2.1); rintro e w24 ⟨rfl, hb⟩; refine ⟨_, rfl, ?_⟩; have n0_ := Aside0.mk (Kd.R_below (by (with_reducible repeat (first | apply Kd.R_alloc | apply Kd.R_drewN | apply Kd.R_drew)); exact HO_7.out) hb); have n1_ := Aside0.mk (blk_below (g := gb183) (o := .cells #[.int .i64 a0_0, .int .i64 a0_1] 23 (0, 0)) (by (with_reducible repeat (first | refine blk_drewN ?_ _ | refine blk_drew ?_ | refine blk_alloc ?_ _)); exact BK183.out) hb); have n2_ := Aside0.mk (below_step (by repeat (first | (with_reducible first | exact HB.out | apply below_alloc | apply pw_below_drewN | apply below_drew1 | refine below_set ?_ GE183.out) | exact HB.out)) hb); clear HO_7; clear BK183; clear HB; have HO_7 := n0_; have BK183 := n1_; have HB := n2_; clear n0_ n1_ n2_; (try clear hb); (try clear hb2); (try clear hk); (try clear hi)) | ((with_reducible refine gate_callee (f := 8) rfl ?_); refine goesL_ (some 69) rfl rfl Try.func8 (by kernel_rfl) rfl #[.slice Ao23 x7_1.length co23] rfl (by (try simp only [List.map_toArray, List.map_cons, List.map_nil]); first | done | rfl | (simp only [List.length_drop, List.length_take]; rfl)) ?_; (with_reducible refine (tocsinref1_Holds.calls k1 _ _ x7_1 true t194 _ ?side1 ?side2 A21.out).mono ?_); (case side1 => repeat (first | exact (Kd.R_reads' HO_7.out).2.2 | (with_reducible refine Kd.C_alloc ?_ _) | (with_reducible refine Kd.C_drewN ?_ _) | (with_reducible refine Kd.C_drew ?_))); (case side2 => exact (Kd.R_reads' HO_7.out).2.1); rintro e w25 ⟨rfl, hb⟩; refine ⟨_, rfl, ?_⟩; have n0_ := Aside0.mk (Kd.R_below (by (with_reducible repeat (first | apply Kd.R_alloc | apply Kd.R_drewN | apply Kd.R_drew)); exact HO_7.out) hb); have n1_ := Aside0.mk (blk_below (g := gb183) (o := .cells #[.int .i64 a0_0, .int .i64 a0_1] 23 (0, 0)) (by (with_reducible repeat (first | refine blk_drewN ?_ _ | refine blk_drew ?_ | refine blk_alloc ?_ _)); exact BK183.out) hb); have n2_ := Aside0.mk (below_step (by repeat (first | (with_reducible first | exact HB.out | apply below_alloc | apply pw_below_drewN | apply below_drew1 | refine below_set ?_ GE183.out) | exact HB.out)) hb); clear HO_7; clear BK183; clear HB; have HO_7 := n0_; have BK183 := n1_; have HB := n2_; clear n0_ n1_ n2_; (try clear hb); (try clear hb2); (try clear hk); (try clear hi); have hcP := (blk_cell BK183.out 0).trans rfl; have hcQ := (blk_cell BK183.out 1).trans rfl; have hzg : gb183 < w25.heap.size := World.block_lt_of_cell? w25 _ hcP) | (go_at_call 9; (with_reducible refine (asDover_Dover _ _ _).mono ?_); rintro e wa ⟨rfl, hb⟩; have kP_wa := keep_cell hb (a := ⟨gb183, 0, none⟩) (v := .int .i64 a0_0) (by (repeat (first | assumption | exact cell_new _ _ _ _ _ _ (by first | rfl | (simp; done)) rfl | refine cell_old _ _ ?_)); done); have kQ_wa := keep_cell hb (a := ⟨gb183, 1, none⟩) (v := .int .i64 a0_1) (by (repeat (first | assumption | exact cell_new _ _ _ _ _ _ (by first | rfl | (simp; done)) rfl | refine cell_old _ _ ?_)); done); have kd0_wa := keep_cell hb (a := ⟨w25.heap.size, 0, none⟩) (v := .int .i64 a0_0) (by (repeat (first | assumption | exact cell_new _ _ _ _ _ _ (by first | rfl | (simp; done)) rfl | refine cell_old _ _ ?_)); done); have kd1_wa := keep_cell hb (a := ⟨w25.heap.size, 1, none⟩) (v := .int .i64 a0_1) (by (repeat (first | assumption | exact cell_new _ _ _ _ _ _ (by first | rfl | (simp; done)) rfl | refine cell_old _ _ ?_)); done); have ks0_wa := keep_cell hb (a := ⟨w25.heap.size + 1, 0, none⟩) (v := .slice A1 l1.length c1) (by (repeat (first | assumption | exact cell_new _ _ _ _ _ _ (by first | rfl | (simp; done)) rfl | refine cell_old _ _ ?_)); done); have ks1_wa := keep_cell hb (a := ⟨w25.heap.size + 1, 1, none⟩) (v := .bool bl) (by (repeat (first | assumption | exact cell_new _ _ _ _ _ _ (by first | rfl | (simp; done)) rfl | refine cell_old _ _ ?_)); done); have hz_ := hb.size; (try simp only [alloc_size_] at hz_); have hz0_wa : gb183 < wa.heap.size := (by omega); have hz1_wa : w25.heap.size < wa.heap.size := (by omega); have hz2_wa : w25.heap.size + 1 < wa.heap.size := (by omega); clear hz_; have n0_ := Aside0.mk (below_step (by repeat (first | (with_reducible first | exact HB.out | apply below_alloc | apply pw_below_drewN | apply below_drew1 | refine below_set ?_ GE183.out) | exact HB.out)) hb); clear HB; have HB := n0_; clear n0_ hb) | (go_at_call 9; (with_reducible refine (asDover_Skip _ _ _ _ _).mono ?_); rintro e wb ⟨rfl, hb⟩; have kP_wb := keep_cell hb (a := ⟨gb183, 0, none⟩) (v := .int .i64 a0_0) (by (repeat (first | assumption | exact cell_new _ _ _ _ _ _ (by first | rfl | (simp; done)) rfl | refine cell_old _ _ ?_)); done); have kQ_wb := keep_cell hb (a := ⟨gb183, 1, none⟩) (v := .int .i64 a0_1) (by (repeat (first | assumption | exact cell_new _ _ _ _ _ _ (by first | rfl | (simp; done)) rfl | refine cell_old _ _ ?_)); done); have kd0_wb := keep_cell hb (a := ⟨w25.heap.size, 0, none⟩) (v := .int .i64 a0_0) (by (repeat (first | assumption | exact cell_new _ _ _ _ _ _ (by first | rfl | (simp; done)) rfl | refine cell_old _ _ ?_)); done); have kd1_wb := keep_cell hb (a := ⟨w25.heap.size, 1, none⟩) (v := .int .i64 a0_1) (by (repeat (first | assumption | exact cell_new _ _ _ _ _ _ (by first | rfl | (simp; done)) rfl | refine cell_old _ _ ?_)); done); have ks0_wb := keep_cell hb (a := ⟨w25.heap.size + 1, 0, none⟩) (v := .slice A1 l1.length c1) (by (repeat (first | assumption | exact cell_new _ _ _ _ _ _ (by first | rfl | (simp; done)) rfl | refine cell_old _ _ ?_)); done); have ks1_wb := keep_cell hb (a := ⟨w25.heap.size + 1, 1, none⟩) (v := .bool bl) (by (repeat (first | assumption | exact cell_new _ _ _ _ _ _ (by first | rfl | (simp; done)) rfl | refine cell_old _ _ ?_)); done); have kt0_wb := keep_cell hb (a := ⟨wa.heap.size, 0, none⟩) (v := .int .i64 a0_0) (by (repeat (first | assumption | exact cell_new _ _ _ _ _ _ (by first | rfl | (simp; done)) rfl | refine cell_old _ _ ?_)); done); have kt1_wb := keep_cell hb (a := ⟨wa.heap.size, 1, none⟩) (v := .int .i64 a0_1) (by (repeat (first | assumption | exact cell_new _ _ _ _ _ _ (by first | rfl | (simp; done)) rfl | refine cell_old _ _ ?_)); done); have hz_ := hb.size; (try simp only [alloc_size_] at hz_); have hz0_wb : gb183 < wb.heap.size := (by omega); have hz1_wb : w25.heap.size < wb.heap.size := (by omega); have hz2_wb : w25.heap.size + 1 < wb.heap.size := (by omega); have hz3_wb : wa.heap.size < wb.heap.size := (by omega); clear hz_; have n0_ := Aside0.mk (below_step (by repeat (first | (with_reducible first | exact HB.out | apply below_alloc | apply pw_below_drewN | apply below_drew1 | refine below_set ?_ GE183.out) | exact HB.out)) hb); clear HB; have HB := n0_; clear n0_ hb) | (go_at_call 10; (with_reducible refine (asSkip_Skip _ _ _ _ _).mono ?_); rintro e wc ⟨rfl, hb⟩; have kP_wc := keep_cell hb (a := ⟨gb183, 0, none⟩) (v := .int .i64 a0_0) (by (repeat (first | assumption | exact cell_new _ _ _ _ _ _ (by first | rfl | (simp; done)) rfl | refine cell_old _ _ ?_)); done); have kQ_wc := keep_cell hb (a := ⟨gb183, 1, none⟩) (v := .int .i64 a0_1) (by (repeat (first | assumption | exact cell_new _ _ _ _ _ _ (by first | rfl | (simp; done)) rfl | refine cell_old _ _ ?_)); done); have kd0_wc := keep_cell hb (a := ⟨w25.heap.size, 0, none⟩) (v := .int .i64 a0_0) (by (repeat (first | assumption | exact cell_new _ _ _ _ _ _ (by first | rfl | (simp; done)) rfl | refine cell_old _ _ ?_)); done); have kd1_wc := keep_cell hb (a := ⟨w25.heap.size, 1, none⟩) (v := .int .i64 a0_1) (by (repeat (first | assumption | exact cell_new _ _ _ _ _ _ (by first | rfl | (simp; done)) rfl | refine cell_old _ _ ?_)); done); have ks0_wc := keep_cell hb (a := ⟨w25.heap.size + 1, 0, none⟩) (v := .slice A1 l1.length c1) (by (repeat (first | assumption | exact cell_new _ _ _ _ _ _ (by first | rfl | (simp; done)) rfl | refine cell_old _ _ ?_)); done); have ks1_wc := keep_cell hb (a := ⟨w25.heap.size + 1, 1, none⟩) (v := .bool bl) (by (repeat (first | assumption | exact cell_new _ _ _ _ _ _ (by first | rfl | (simp; done)) rfl | refine cell_old _ _ ?_)); done); have kt0_wc := keep_cell hb (a := ⟨wa.heap.size, 0, none⟩) (v := .int .i64 a0_0) (by (repeat (first | assumption | exact cell_new _ _ _ _ _ _ (by first | rfl | (simp; done)) rfl | refine cell_old _ _ ?_)); done); have kt1_wc := keep_cell hb (a := ⟨wa.heap.size, 1, none⟩) (v := .int .i64 a0_1) (by (repeat (first | assumption | exact cell_new _ _ _ _ _ _ (by first | rfl | (simp; done)) rfl | refine cell_old _ _ ?_)); done); have hz_ := hb.size; (try simp only [alloc_size_] at hz_); have hz0_wc : gb183 < wc.heap.size := (by omega); have hz1_wc : w25.heap.size < wc.heap.size := (by omega); have hz2_wc : w25.heap.size + 1 < wc.heap.size := (by omega); have hz3_wc : wa.heap.size < wc.heap.size := (by omega); have hz4_wc : wb.heap.size < wc.heap.size := (by omega); clear hz_; have n0_ := Aside0.mk (below_step (by repeat (first | (with_reducible first | exact HB.out | apply below_alloc | apply pw_below_drewN | apply below_drew1 | refine below_set ?_ GE183.out) | exact HB.out)) hb); clear HB; have HB := n0_; clear n0_ hb) | (go_at_call 10; (with_reducible refine (asSkip_Dover _ _ _).mono ?_); rintro e wd ⟨rfl, hb⟩; have kP_wd := keep_cell hb (a := ⟨gb183, 0, none⟩) (v := .int .i64 a0_0) (by (repeat (first | assumption | exact cell_new _ _ _ _ _ _ (by first | rfl | (simp; done)) rfl | refine cell_old _ _ ?_)); done); have kQ_wd := keep_cell hb (a := ⟨gb183, 1, none⟩) (v := .int .i64 a0_1) (by (repeat (first | assumption | exact cell_new _ _ _ _ _ _ (by first | rfl | (simp; done)) rfl | refine cell_old _ _ ?_)); done); have kd0_wd := keep_cell hb (a := ⟨w25.heap.size, 0, none⟩) (v := .int .i64 a0_0) (by (repeat (first | assumption | exact cell_new _ _ _ _ _ _ (by first | rfl | (simp; done)) rfl | refine cell_old _ _ ?_)); done); have kd1_wd := keep_cell hb (a := ⟨w25.heap.size, 1, none⟩) (v := .int .i64 a0_1) (by (repeat (first | assumption | exact cell_new _ _ _ _ _ _ (by first | rfl | (simp; done)) rfl | refine cell_old _ _ ?_)); done); have ks0_wd := keep_cell hb (a := ⟨w25.heap.size + 1, 0, none⟩) (v := .slice A1 l1.length c1) (by (repeat (first | assumption | exact cell_new _ _ _ _ _ _ (by first | rfl | (simp; done)) rfl | refine cell_old _ _ ?_)); done); have ks1_wd := keep_cell hb (a := ⟨w25.heap.size + 1, 1, none⟩) (v := .bool bl) (by (repeat (first | assumption | exact cell_new _ _ _ _ _ _ (by first | rfl | (simp; done)) rfl | refine cell_old _ _ ?_)); done); have kt0_wd := keep_cell hb (a := ⟨wa.heap.size, 0, none⟩) (v := .int .i64 a0_0) (by (repeat (first | assumption | exact cell_new _ _ _ _ _ _ (by first | rfl | (simp; done)) rfl | refine cell_old _ _ ?_)); done); have kt1_wd := keep_cell hb (a := ⟨wa.heap.size, 1, none⟩) (v := .int .i64 a0_1) (by (repeat (first | assumption | exact cell_new _ _ _ _ _ _ (by first | rfl | (simp; done)) rfl | refine cell_old _ _ ?_)); done); have hz_ := hb.size; (try simp only [alloc_size_] at hz_); have hz0_wd : gb183 < wd.heap.size := (by omega); have hz1_wd : w25.heap.size < wd.heap.size := (by omega); have hz2_wd : w25.heap.size + 1 < wd.heap.size := (by omega); have hz3_wd : wa.heap.size < wd.heap.size := (by omega); have hz4_wd : wb.heap.size < wd.heap.size := (by omega); clear hz_; have n0_ := Aside0.mk (below_step (by repeat (first | (with_reducible first | exact HB.out | apply below_alloc | apply pw_below_drewN | apply below_drew1 | refine below_set ?_ GE183.out) | exact HB.out)) hb); clear HB; have HB := n0_; clear n0_ hb))
                  have HRd := Aside0.mk (Kd.C_below HR1.out HB.out)
                  have HN := hr_len HR1.out
                  clear kP_wa kQ_wa kd0_wa kd1_wa ks0_wa ks1_wa hz0_wa hz1_wa hz2_wa kP_wb kQ_wb kd0_wb kd1_wb ks0_wb ks1_wb kt0_wb kt1_wb kP_wc kQ_wc kd0_wc kd1_wc ks0_wc ks1_wc kt0_wc kt1_wc hcP hcQ
                  go_loopw [25] (fun i wr => ∃ (q : Int) (n : Nat), 0 ≤ q ∧ q ≤ l1.length ∧ i = .int .i64 q ∧ wr = wd.drewN n) (fun i _ => l1.length - (intOf i).toNat)
                  case atStart => exact ⟨0, 0, by omega, by omega, rfl, rfl⟩
                  case round =>
                    obtain ⟨q, n, hq0, hq, rfl, rfl⟩ := hrel
                    by_cases hlt : q < l1.length
                    · obtain ⟨ad, rfl, hx0, hx1, hx2⟩ := at_T28 HRd.out q hq0 hlt
                      have hu28 := Try.underlying28
                      go_wp2
                      go_quiet (fail)
                      go_wp2
                      exact ⟨⟨q + 1, _, by omega, by omega, rfl, rfl⟩, by simp [intOf]; omega⟩
                    · go_wp2
                      have hcB := pw_below_drewN HB.out n
                      have hcB1 : Below w.heap.size w (wd.drewN n).drew := below_drew hcB
                      have hcB2 := pw_below_drewN HB.out (n + 1)
                      go_region_held3 (fun w' => Below w.heap.size w w' ∧ w'.cell? ⟨gb183, 0, none⟩ = some (.int .i64 a0_0) ∧ w'.cell? ⟨gb183, 1, none⟩ = some (.int .i64 a0_1) ∧ w'.cell? ⟨w25.heap.size, 0, none⟩ = some (.int .i64 a0_0) ∧ w'.cell? ⟨w25.heap.size, 1, none⟩ = some (.int .i64 a0_1) ∧ w'.cell? ⟨w25.heap.size + 1, 0, none⟩ = some (.slice A1 l1.length c1) ∧ w'.cell? ⟨w25.heap.size + 1, 1, none⟩ = some (.bool bl)) (((try go_split_ands); refine ⟨?_, ?_, ?_, ?_, ?_, ?_, ?_⟩ <;> (first | (go_keep; done) | exact keep_cell hb (by assumption) | (repeat (first | assumption | exact below_step (by assumption) hb | apply below_drew1 | apply below_alloc))))) (first | (go_at_call 12; (with_reducible refine (HG.out _).mono ?_); rintro e w7 ⟨rfl, hb⟩) | (go_at_call 11; (with_reducible refine (HD.out _).mono ?_); rintro e w7 ⟨rfl, hb⟩) | (go_at_call 11; (with_reducible refine (HS.out _ (Kd.C_below HR1.out (by (try go_split_ands); assumption))).mono ?_); rintro e w7 ⟨rfl, hb⟩))
                      go_wp2
                      go_ret
                      go_split_ands
                      refine ⟨?_, by assumption⟩
                      show Ending.returned (Value.bool _) = _
                      refine congrArg (fun b => Ending.returned (Value.bool b)) ?_
                      first | rfl | exact BEq.comm | (cases a2 <;> simp; done)
                · replace c22 := Bool.eq_false_iff.mpr c22
                  subst c22
                  have H1 : (some (false == a2)) = some r := by rw [if_neg (show ¬ (false = true) by decide)] at H; exact H
                  clear H
                  have H := H1
                  clear H1
                  obtain rfl := Option.some.inj H
                  obtain ⟨Ao26, co26, eo26⟩ := Kd.R_slice HO_7.out
                  subst eo26
                  go_wp2_with (first | ((with_reducible refine gate_callee (f := 7) rfl ?_); refine goesL_ (some 58) rfl rfl Try.func7 (by kernel_rfl) rfl #[.slice Ao26 x7_1.length co26] rfl (by (try simp only [List.map_toArray, List.map_cons, List.map_nil]); first | done | rfl | (simp only [List.length_drop, List.length_take]; rfl)) ?_; (with_reducible refine (tocsinref1_Frame.calls k1 _ _ x7_1 t191 t192 _ ?side1 ?side2 A16.out).mono ?_); (case side1 => repeat (first | exact (Kd.R_reads' HO_7.out).2.2 | (with_reducible refine Kd.C_alloc ?_ _) | (with_reducible refine Kd.C_drewN ?_ _) | (with_reducible refine Kd.C_drew ?_))); (case side2 => exact (Kd.R_reads' HO_7.out).2.1); rintro e w27 ⟨rfl, hb⟩; refine ⟨_, rfl, ?_⟩; have n0_ := Aside0.mk (Kd.R_below (by (with_reducible repeat (first | apply Kd.R_alloc | apply Kd.R_drewN | apply Kd.R_drew)); exact HO_7.out) hb); have n1_ := Aside0.mk (blk_below (g := gb183) (o := .cells #[.int .i64 a0_0, .int .i64 a0_1] 23 (0, 0)) (by (with_reducible repeat (first | refine blk_drewN ?_ _ | refine blk_drew ?_ | refine blk_alloc ?_ _)); exact BK183.out) hb); have n2_ := Aside0.mk (below_step (by repeat (first | (with_reducible first | exact HB.out | apply below_alloc | apply pw_below_drewN | apply below_drew1 | refine below_set ?_ GE183.out) | exact HB.out)) hb); clear HO_7; clear BK183; clear HB; have HO_7 := n0_; have BK183 := n1_; have HB := n2_; clear n0_ n1_ n2_; (try clear hb); (try clear hb2); (try clear hk); (try clear hi)) | ((with_reducible refine gate_callee (f := 8) rfl ?_); refine goesL_ (some 69) rfl rfl Try.func8 (by kernel_rfl) rfl #[.slice Ao26 x7_1.length co26] rfl (by (try simp only [List.map_toArray, List.map_cons, List.map_nil]); first | done | rfl | (simp only [List.length_drop, List.length_take]; rfl)) ?_; (with_reducible refine (tocsinref1_Holds.calls k1 _ _ x7_1 false t194 _ ?side1 ?side2 A21.out).mono ?_); (case side1 => repeat (first | exact (Kd.R_reads' HO_7.out).2.2 | (with_reducible refine Kd.C_alloc ?_ _) | (with_reducible refine Kd.C_drewN ?_ _) | (with_reducible refine Kd.C_drew ?_))); (case side2 => exact (Kd.R_reads' HO_7.out).2.1); rintro e w28 ⟨rfl, hb⟩; refine ⟨_, rfl, ?_⟩; have n0_ := Aside0.mk (Kd.R_below (by (with_reducible repeat (first | apply Kd.R_alloc | apply Kd.R_drewN | apply Kd.R_drew)); exact HO_7.out) hb); have n1_ := Aside0.mk (blk_below (g := gb183) (o := .cells #[.int .i64 a0_0, .int .i64 a0_1] 23 (0, 0)) (by (with_reducible repeat (first | refine blk_drewN ?_ _ | refine blk_drew ?_ | refine blk_alloc ?_ _)); exact BK183.out) hb); have n2_ := Aside0.mk (below_step (by repeat (first | (with_reducible first | exact HB.out | apply below_alloc | apply pw_below_drewN | apply below_drew1 | refine below_set ?_ GE183.out) | exact HB.out)) hb); clear HO_7; clear BK183; clear HB; have HO_7 := n0_; have BK183 := n1_; have HB := n2_; clear n0_ n1_ n2_; (try clear hb); (try clear hb2); (try clear hk); (try clear hi); have hcP := (blk_cell BK183.out 0).trans rfl; have hcQ := (blk_cell BK183.out 1).trans rfl; have hzg : gb183 < w28.heap.size := World.block_lt_of_cell? w28 _ hcP) | (go_at_call 9; (with_reducible refine (asDover_Dover _ _ _).mono ?_); rintro e wa ⟨rfl, hb⟩; have kP_wa := keep_cell hb (a := ⟨gb183, 0, none⟩) (v := .int .i64 a0_0) (by (repeat (first | assumption | exact cell_new _ _ _ _ _ _ (by first | rfl | (simp; done)) rfl | refine cell_old _ _ ?_)); done); have kQ_wa := keep_cell hb (a := ⟨gb183, 1, none⟩) (v := .int .i64 a0_1) (by (repeat (first | assumption | exact cell_new _ _ _ _ _ _ (by first | rfl | (simp; done)) rfl | refine cell_old _ _ ?_)); done); have kd0_wa := keep_cell hb (a := ⟨w28.heap.size, 0, none⟩) (v := .int .i64 a0_0) (by (repeat (first | assumption | exact cell_new _ _ _ _ _ _ (by first | rfl | (simp; done)) rfl | refine cell_old _ _ ?_)); done); have kd1_wa := keep_cell hb (a := ⟨w28.heap.size, 1, none⟩) (v := .int .i64 a0_1) (by (repeat (first | assumption | exact cell_new _ _ _ _ _ _ (by first | rfl | (simp; done)) rfl | refine cell_old _ _ ?_)); done); have ks0_wa := keep_cell hb (a := ⟨w28.heap.size + 1, 0, none⟩) (v := .slice A1 l1.length c1) (by (repeat (first | assumption | exact cell_new _ _ _ _ _ _ (by first | rfl | (simp; done)) rfl | refine cell_old _ _ ?_)); done); have ks1_wa := keep_cell hb (a := ⟨w28.heap.size + 1, 1, none⟩) (v := .bool bl) (by (repeat (first | assumption | exact cell_new _ _ _ _ _ _ (by first | rfl | (simp; done)) rfl | refine cell_old _ _ ?_)); done); have hz_ := hb.size; (try simp only [alloc_size_] at hz_); have hz0_wa : gb183 < wa.heap.size := (by omega); have hz1_wa : w28.heap.size < wa.heap.size := (by omega); have hz2_wa : w28.heap.size + 1 < wa.heap.size := (by omega); clear hz_; have n0_ := Aside0.mk (below_step (by repeat (first | (with_reducible first | exact HB.out | apply below_alloc | apply pw_below_drewN | apply below_drew1 | refine below_set ?_ GE183.out) | exact HB.out)) hb); clear HB; have HB := n0_; clear n0_ hb) | (go_at_call 9; (with_reducible refine (asDover_Skip _ _ _ _ _).mono ?_); rintro e wb ⟨rfl, hb⟩; have kP_wb := keep_cell hb (a := ⟨gb183, 0, none⟩) (v := .int .i64 a0_0) (by (repeat (first | assumption | exact cell_new _ _ _ _ _ _ (by first | rfl | (simp; done)) rfl | refine cell_old _ _ ?_)); done); have kQ_wb := keep_cell hb (a := ⟨gb183, 1, none⟩) (v := .int .i64 a0_1) (by (repeat (first | assumption | exact cell_new _ _ _ _ _ _ (by first | rfl | (simp; done)) rfl | refine cell_old _ _ ?_)); done); have kd0_wb := keep_cell hb (a := ⟨w28.heap.size, 0, none⟩) (v := .int .i64 a0_0) (by (repeat (first | assumption | exact cell_new _ _ _ _ _ _ (by first | rfl | (simp; done)) rfl | refine cell_old _ _ ?_)); done); have kd1_wb := keep_cell hb (a := ⟨w28.heap.size, 1, none⟩) (v := .int .i64 a0_1) (by (repeat (first | assumption | exact cell_new _ _ _ _ _ _ (by first | rfl | (simp; done)) rfl | refine cell_old _ _ ?_)); done); have ks0_wb := keep_cell hb (a := ⟨w28.heap.size + 1, 0, none⟩) (v := .slice A1 l1.length c1) (by (repeat (first | assumption | exact cell_new _ _ _ _ _ _ (by first | rfl | (simp; done)) rfl | refine cell_old _ _ ?_)); done); have ks1_wb := keep_cell hb (a := ⟨w28.heap.size + 1, 1, none⟩) (v := .bool bl) (by (repeat (first | assumption | exact cell_new _ _ _ _ _ _ (by first | rfl | (simp; done)) rfl | refine cell_old _ _ ?_)); done); have kt0_wb := keep_cell hb (a := ⟨wa.heap.size, 0, none⟩) (v := .int .i64 a0_0) (by (repeat (first | assumption | exact cell_new _ _ _ _ _ _ (by first | rfl | (simp; done)) rfl | refine cell_old _ _ ?_)); done); have kt1_wb := keep_cell hb (a := ⟨wa.heap.size, 1, none⟩) (v := .int .i64 a0_1) (by (repeat (first | assumption | exact cell_new _ _ _ _ _ _ (by first | rfl | (simp; done)) rfl | refine cell_old _ _ ?_)); done); have hz_ := hb.size; (try simp only [alloc_size_] at hz_); have hz0_wb : gb183 < wb.heap.size := (by omega); have hz1_wb : w28.heap.size < wb.heap.size := (by omega); have hz2_wb : w28.heap.size + 1 < wb.heap.size := (by omega); have hz3_wb : wa.heap.size < wb.heap.size := (by omega); clear hz_; have n0_ := Aside0.mk (below_step (by repeat (first | (with_reducible first | exact HB.out | apply below_alloc | apply pw_below_drewN | apply below_drew1 | refine below_set ?_ GE183.out) | exact HB.out)) hb); clear HB; have HB := n0_; clear n0_ hb) | (go_at_call 10; (with_reducible refine (asSkip_Skip _ _ _ _ _).mono ?_); rintro e wc ⟨rfl, hb⟩; have kP_wc := keep_cell hb (a := ⟨gb183, 0, none⟩) (v := .int .i64 a0_0) (by (repeat (first | assumption | exact cell_new _ _ _ _ _ _ (by first | rfl | (simp; done)) rfl | refine cell_old _ _ ?_)); done); have kQ_wc := keep_cell hb (a := ⟨gb183, 1, none⟩) (v := .int .i64 a0_1) (by (repeat (first | assumption | exact cell_new _ _ _ _ _ _ (by first | rfl | (simp; done)) rfl | refine cell_old _ _ ?_)); done); have kd0_wc := keep_cell hb (a := ⟨w28.heap.size, 0, none⟩) (v := .int .i64 a0_0) (by (repeat (first | assumption | exact cell_new _ _ _ _ _ _ (by first | rfl | (simp; done)) rfl | refine cell_old _ _ ?_)); done); have kd1_wc := keep_cell hb (a := ⟨w28.heap.size, 1, none⟩) (v := .int .i64 a0_1) (by (repeat (first | assumption | exact cell_new _ _ _ _ _ _ (by first | rfl | (simp; done)) rfl | refine cell_old _ _ ?_)); done); have ks0_wc := keep_cell hb (a := ⟨w28.heap.size + 1, 0, none⟩) (v := .slice A1 l1.length c1) (by (repeat (first | assumption | exact cell_new _ _ _ _ _ _ (by first | rfl | (simp; done)) rfl | refine cell_old _ _ ?_)); done); have ks1_wc := keep_cell hb (a := ⟨w28.heap.size + 1, 1, none⟩) (v := .bool bl) (by (repeat (first | assumption | exact cell_new _ _ _ _ _ _ (by first | rfl | (simp; done)) rfl | refine cell_old _ _ ?_)); done); have kt0_wc := keep_cell hb (a := ⟨wa.heap.size, 0, none⟩) (v := .int .i64 a0_0) (by (repeat (first | assumption | exact cell_new _ _ _ _ _ _ (by first | rfl | (simp; done)) rfl | refine cell_old _ _ ?_)); done); have kt1_wc := keep_cell hb (a := ⟨wa.heap.size, 1, none⟩) (v := .int .i64 a0_1) (by (repeat (first | assumption | exact cell_new _ _ _ _ _ _ (by first | rfl | (simp; done)) rfl | refine cell_old _ _ ?_)); done); have hz_ := hb.size; (try simp only [alloc_size_] at hz_); have hz0_wc : gb183 < wc.heap.size := (by omega); have hz1_wc : w28.heap.size < wc.heap.size := (by omega); have hz2_wc : w28.heap.size + 1 < wc.heap.size := (by omega); have hz3_wc : wa.heap.size < wc.heap.size := (by omega); have hz4_wc : wb.heap.size < wc.heap.size := (by omega); clear hz_; have n0_ := Aside0.mk (below_step (by repeat (first | (with_reducible first | exact HB.out | apply below_alloc | apply pw_below_drewN | apply below_drew1 | refine below_set ?_ GE183.out) | exact HB.out)) hb); clear HB; have HB := n0_; clear n0_ hb) | (go_at_call 10; (with_reducible refine (asSkip_Dover _ _ _).mono ?_); rintro e wd ⟨rfl, hb⟩; have kP_wd := keep_cell hb (a := ⟨gb183, 0, none⟩) (v := .int .i64 a0_0) (by (repeat (first | assumption | exact cell_new _ _ _ _ _ _ (by first | rfl | (simp; done)) rfl | refine cell_old _ _ ?_)); done); have kQ_wd := keep_cell hb (a := ⟨gb183, 1, none⟩) (v := .int .i64 a0_1) (by (repeat (first | assumption | exact cell_new _ _ _ _ _ _ (by first | rfl | (simp; done)) rfl | refine cell_old _ _ ?_)); done); have kd0_wd := keep_cell hb (a := ⟨w28.heap.size, 0, none⟩) (v := .int .i64 a0_0) (by (repeat (first | assumption | exact cell_new _ _ _ _ _ _ (by first | rfl | (simp; done)) rfl | refine cell_old _ _ ?_)); done); have kd1_wd := keep_cell hb (a := ⟨w28.heap.size, 1, none⟩) (v := .int .i64 a0_1) (by (repeat (first | assumption | exact cell_new _ _ _ _ _ _ (by first | rfl | (simp; done)) rfl | refine cell_old _ _ ?_)); done); have ks0_wd := keep_cell hb (a := ⟨w28.heap.size + 1, 0, none⟩) (v := .slice A1 l1.length c1) (by (repeat (first | assumption | exact cell_new _ _ _ _ _ _ (by first | rfl | (simp; done)) rfl | refine cell_old _ _ ?_)); done); have ks1_wd := keep_cell hb (a := ⟨w28.heap.size + 1, 1, none⟩) (v := .bool bl) (by (repeat (first | assumption | exact cell_new _ _ _ _ _ _ (by first | rfl | (simp; done)) rfl | refine cell_old _ _ ?_)); done); have kt0_wd := keep_cell hb (a := ⟨wa.heap.size, 0, none⟩) (v := .int .i64 a0_0) (by (repeat (first | assumption | exact cell_new _ _ _ _ _ _ (by first | rfl | (simp; done)) rfl | refine cell_old _ _ ?_)); done); have kt1_wd := keep_cell hb (a := ⟨wa.heap.size, 1, none⟩) (v := .int .i64 a0_1) (by (repeat (first | assumption | exact cell_new _ _ _ _ _ _ (by first | rfl | (simp; done)) rfl | refine cell_old _ _ ?_)); done); have hz_ := hb.size; (try simp only [alloc_size_] at hz_); have hz0_wd : gb183 < wd.heap.size := (by omega); have hz1_wd : w28.heap.size < wd.heap.size := (by omega); have hz2_wd : w28.heap.size + 1 < wd.heap.size := (by omega); have hz3_wd : wa.heap.size < wd.heap.size := (by omega); have hz4_wd : wb.heap.size < wd.heap.size := (by omega); clear hz_; have n0_ := Aside0.mk (below_step (by repeat (first | (with_reducible first | exact HB.out | apply below_alloc | apply pw_below_drewN | apply below_drew1 | refine below_set ?_ GE183.out) | exact HB.out)) hb); clear HB; have HB := n0_; clear n0_ hb))
                  have HRd := Aside0.mk (Kd.C_below HR1.out HB.out)
                  have HN := hr_len HR1.out
                  clear kP_wa kQ_wa kd0_wa kd1_wa ks0_wa ks1_wa hz0_wa hz1_wa hz2_wa kP_wb kQ_wb kd0_wb kd1_wb ks0_wb ks1_wb kt0_wb kt1_wb kP_wc kQ_wc kd0_wc kd1_wc ks0_wc ks1_wc kt0_wc kt1_wc hcP hcQ
                  go_loopw [25] (fun i wr => ∃ (q : Int) (n : Nat), 0 ≤ q ∧ q ≤ l1.length ∧ i = .int .i64 q ∧ wr = wd.drewN n) (fun i _ => l1.length - (intOf i).toNat)
                  case atStart => exact ⟨0, 0, by omega, by omega, rfl, rfl⟩
                  case round =>
                    obtain ⟨q, n, hq0, hq, rfl, rfl⟩ := hrel
                    by_cases hlt : q < l1.length
                    · obtain ⟨ad, rfl, hx0, hx1, hx2⟩ := at_T28 HRd.out q hq0 hlt
                      have hu28 := Try.underlying28
                      go_wp2
                      go_quiet (fail)
                      go_wp2
                      exact ⟨⟨q + 1, _, by omega, by omega, rfl, rfl⟩, by simp [intOf]; omega⟩
                    · go_wp2
                      have hcB := pw_below_drewN HB.out n
                      have hcB1 : Below w.heap.size w (wd.drewN n).drew := below_drew hcB
                      have hcB2 := pw_below_drewN HB.out (n + 1)
                      refine start_ (n := 21) (S := fun w' => Below w.heap.size w w' ∧ w'.cell? ⟨gb183, 0, none⟩ = some (.int .i64 a0_0) ∧ w'.cell? ⟨gb183, 1, none⟩ = some (.int .i64 a0_1) ∧ w'.cell? ⟨w28.heap.size, 0, none⟩ = some (.int .i64 a0_0) ∧ w'.cell? ⟨w28.heap.size, 1, none⟩ = some (.int .i64 a0_1) ∧ w'.cell? ⟨w28.heap.size + 1, 0, none⟩ = some (.slice A1 l1.length c1) ∧ w'.cell? ⟨w28.heap.size + 1, 1, none⟩ = some (.bool bl)) (ds := []) #[false, false, false, false, false, false, false, false, false, false, false, false, false, false, false, false, false, false, false, false, false] (by kernel_rfl) rfl rfl ⟨hcB1, kP_wd, kQ_wd, kd0_wd, kd1_wd, ks0_wd, ks1_wd⟩ (fun hHeld => ?_)
                      refine pure_ (i := 3) (N := some 150) (v := ?_) (a' := ?_) #[false, false, false, true, false, false, false, false, false, false, false, false, false, false, false, false, false, false, false, false, false] rfl rfl (by kernel_rfl) (fun _ _ _ h => h) (Or.inl ⟨by rfl, ?_⟩) ?_ ?_
                      rotate_left
                      · intro w'
                        go_simp
                        with_reducible rfl
                      rotate_left
                      · simp only [Act.put, List.setIfInBounds_toArray, List.set_cons_zero, List.set_cons_succ, i64_w, i32_w]
                        rfl
                      refine pure_ (i := 5) (N := some 152) (v := ?_) (a' := ?_) #[false, false, false, true, false, true, false, false, false, false, false, false, false, false, false, false, false, false, false, false, false] rfl rfl (by kernel_rfl) (fun _ _ _ h => h) (Or.inl ⟨by rfl, ?_⟩) ?_ ?_
                      rotate_left
                      · intro w'
                        go_simp
                        with_reducible rfl
                      rotate_left
                      · simp only [Act.put, List.setIfInBounds_toArray, List.set_cons_zero, List.set_cons_succ, i64_w, i32_w]
                        rfl
                      refine take_ (i := 0) (N := some 147) (v := ?_) (a' := ?_) #[true, false, false, true, false, true, false, false, false, false, false, false, false, false, false, false, false, false, false, false, false] rfl rfl (by kernel_rfl) (fun _ _ _ h => h) (Or.inl ⟨by rfl, ?_⟩) hHeld ?_ ?_
                      rotate_left
                      · rintro w' ⟨s0, s1, s2, s3, s4, s5, s6⟩
                        go_simp
                        with_reducible rfl
                      rotate_left
                      · simp only [Act.put, List.setIfInBounds_toArray, List.set_cons_zero, List.set_cons_succ, i64_w, i32_w]
                        rfl
                      refine pure_ (i := 1) (N := some 148) (v := ?_) (a' := ?_) #[true, true, false, true, false, true, false, false, false, false, false, false, false, false, false, false, false, false, false, false, false] rfl rfl (by kernel_rfl) (fun _ _ _ h => h) (Or.inl ⟨by rfl, ?_⟩) ?_ ?_
                      rotate_left
                      · intro w'
                        go_simp
                        with_reducible rfl
                      rotate_left
                      · simp only [Act.put, List.setIfInBounds_toArray, List.set_cons_zero, List.set_cons_succ, i64_w, i32_w]
                        rfl
                      refine take_ (i := 4) (N := some 151) (v := ?_) (a' := ?_) #[true, true, false, true, true, true, false, false, false, false, false, false, false, false, false, false, false, false, false, false, false] rfl rfl (by kernel_rfl) (fun _ _ _ h => h) (Or.inl ⟨by rfl, ?_⟩) hHeld ?_ ?_
                      rotate_left
                      · rintro w' ⟨s0, s1, s2, s3, s4, s5, s6⟩
                        go_simp
                        with_reducible rfl
                      rotate_left
                      · simp only [Act.put, List.setIfInBounds_toArray, List.set_cons_zero, List.set_cons_succ, i64_w, i32_w]
                        rfl
                      refine take_ (i := 6) (N := some 153) (v := ?_) (a' := ?_) #[true, true, false, true, true, true, true, false, false, false, false, false, false, false, false, false, false, false, false, false, false] rfl rfl (by kernel_rfl) (fun _ _ _ h => h) (Or.inl ⟨by rfl, ?_⟩) hHeld ?_ ?_
                      rotate_left
                      · rintro w' ⟨s0, s1, s2, s3, s4, s5, s6⟩
                        go_simp
                        with_reducible rfl
                      rotate_left
                      · simp only [Act.put, List.setIfInBounds_toArray, List.set_cons_zero, List.set_cons_succ, i64_w, i32_w]
                        rfl
                      refine one_ (i := 2) (N := some 149) #[true, true, true, true, true, true, true, false, false, false, false, false, false, false, false, false, false, false, false, false, false] rfl rfl (by kernel_rfl) (by decide) (fun K hK => ?_)
                      refine goes_ Try.func11 (by kernel_rfl) rfl #[.iface 36 (.agg #[.int .i64 a0_0, .int .i64 a0_1])] (by rfl) rfl rfl (by simp only [List.map_toArray, List.map_cons, List.map_nil]; rfl) ?_
                      with_reducible refine (HD.out _).mono ?_
                      rintro e wx ⟨rfl, hb⟩
                      refine ⟨_, rfl, ?_⟩
                      refine hK.out _ _ ⟨(below_step hHeld.1 hb), (keep_cell hb hHeld.2.1), (keep_cell hb hHeld.2.2.1), (keep_cell hb hHeld.2.2.2.1), (keep_cell hb hHeld.2.2.2.2.1), (keep_cell hb hHeld.2.2.2.2.2.1), (keep_cell hb hHeld.2.2.2.2.2.2)⟩ (fun hHeld => ?_)
                      clear hK K
                      refine norm_ (a' := ?_) ?_ ?_
                      rotate_left
                      · show Act.put _ (some 149) _ = _
                        simp only [Act.put, List.setIfInBounds_toArray, List.set_cons_zero, List.set_cons_succ, i64_w, i32_w]
                        rfl
                      refine one_ (i := 7) (N := some 154) #[true, true, true, true, true, true, true, true, false, false, false, false, false, false, false, false, false, false, false, false, false] rfl rfl (by kernel_rfl) (by decide) (fun K hK => ?_)
                      refine goes_ Try.func12 (by kernel_rfl) rfl #[.int .i64 a0_0, .int .i64 a0_1] (by rfl) rfl rfl (by simp only [List.map_toArray, List.map_cons, List.map_nil]; rfl) ?_
                      with_reducible refine (HG.out _).mono ?_
                      rintro e wy ⟨rfl, hb⟩
                      refine ⟨_, rfl, ?_⟩
                      refine hK.out _ _ ⟨(below_step hHeld.1 hb), (keep_cell hb hHeld.2.1), (keep_cell hb hHeld.2.2.1), (keep_cell hb hHeld.2.2.2.1), (keep_cell hb hHeld.2.2.2.2.1), (keep_cell hb hHeld.2.2.2.2.2.1), (keep_cell hb hHeld.2.2.2.2.2.2)⟩ (fun hHeld => ?_)
                      clear hK K
                      refine norm_ (a' := ?_) ?_ ?_
                      rotate_left
                      · show Act.put _ (some 154) _ = _
                        simp only [Act.put, List.setIfInBounds_toArray, List.set_cons_zero, List.set_cons_succ, i64_w, i32_w]
                        rfl
                      refine pure_ (i := 8) (N := some 155) (v := ?_) (a' := ?_) #[true, true, true, true, true, true, true, true, true, false, false, false, false, false, false, false, false, false, false, false, false] rfl rfl (by kernel_rfl) (fun _ _ _ h => h) (Or.inl ⟨by rfl, ?_⟩) ?_ ?_
                      rotate_left
                      · intro w'
                        go_simp
                        with_reducible rfl
                      rotate_left
                      · simp only [Act.put, List.setIfInBounds_toArray, List.set_cons_zero, List.set_cons_succ, i64_w, i32_w]
                        rfl
                      refine pure_ (i := 9) (N := some 156) (v := ?_) (a' := ?_) #[true, true, true, true, true, true, true, true, true, true, false, false, false, false, false, false, false, false, false, false, false] rfl rfl (by kernel_rfl) (fun _ _ _ h => h) (Or.inl ⟨by rfl, ?_⟩) ?_ ?_
                      rotate_left
                      · intro w'
                        go_simp
                        with_reducible rfl
                      rotate_left
                      · simp only [Act.put, List.setIfInBounds_toArray, List.set_cons_zero, List.set_cons_succ, i64_w, i32_w]
                        rfl
                      refine pure_ (i := 13) (N := some 160) (v := ?_) (a' := ?_) #[true, true, true, true, true, true, true, true, true, true, false, false, false, true, false, false, false, false, false, false, false] rfl rfl (by kernel_rfl) (fun _ _ _ h => h) (Or.inl ⟨by rfl, ?_⟩) ?_ ?_
                      rotate_left
                      · intro w'
                        go_simp
                        with_reducible rfl
                      rotate_left
                      · simp only [Act.put, List.setIfInBounds_toArray, List.set_cons_zero, List.set_cons_succ, i64_w, i32_w]
                        rfl
                      refine take_ (i := 10) (N := some 157) (v := ?_) (a' := ?_) #[true, true, true, true, true, true, true, true, true, true, true, false, false, true, false, false, false, false, false, false, false] rfl rfl (by kernel_rfl) (fun _ _ _ h => h) (Or.inl ⟨by rfl, ?_⟩) hHeld ?_ ?_
                      rotate_left
                      · rintro w' ⟨s0, s1, s2, s3, s4, s5, s6⟩
                        go_simp
                        with_reducible rfl
                      rotate_left
                      · simp only [Act.put, List.setIfInBounds_toArray, List.set_cons_zero, List.set_cons_succ, i64_w, i32_w]
                        rfl
                      refine pure_ (i := 11) (N := some 158) (v := ?_) (a' := ?_) #[true, true, true, true, true, true, true, true, true, true, true, true, false, true, false, false, false, false, false, false, false] rfl rfl (by kernel_rfl) (fun _ _ _ h => h) (Or.inl ⟨by rfl, ?_⟩) ?_ ?_
                      rotate_left
                      · intro w'
                        go_simp
                        with_reducible rfl
                      rotate_left
                      · simp only [Act.put, List.setIfInBounds_toArray, List.set_cons_zero, List.set_cons_succ, i64_w, i32_w]
                        rfl
                      refine one_ (i := 12) (N := some 159) #[true, true, true, true, true, true, true, true, true, true, true, true, true, true, false, false, false, false, false, false, false] rfl rfl (by kernel_rfl) (by decide) (fun K hK => ?_)
                      refine goes_ Try.func11 (by kernel_rfl) rfl #[.iface 38 (.agg #[.slice A1 l1.length c1, .bool bl])] (by rfl) rfl rfl (by simp only [List.map_toArray, List.map_cons, List.map_nil]; rfl) ?_
                      with_reducible refine (HS.out _ (Kd.C_below HR1.out hHeld.1)).mono ?_
                      rintro e wz ⟨rfl, hb⟩
                      refine ⟨_, rfl, ?_⟩
                      refine hK.out _ _ ⟨(below_step hHeld.1 hb), (keep_cell hb hHeld.2.1), (keep_cell hb hHeld.2.2.1), (keep_cell hb hHeld.2.2.2.1), (keep_cell hb hHeld.2.2.2.2.1), (keep_cell hb hHeld.2.2.2.2.2.1), (keep_cell hb hHeld.2.2.2.2.2.2)⟩ (fun hHeld => ?_)
                      clear hK K
                      refine norm_ (a' := ?_) ?_ ?_
                      rotate_left
                      · show Act.put _ (some 159) _ = _
                        simp only [Act.put, List.setIfInBounds_toArray, List.set_cons_zero, List.set_cons_succ, i64_w, i32_w]
                        rfl
                      refine pure_ (i := 14) (N := some 161) (v := ?_) (a' := ?_) #[true, true, true, true, true, true, true, true, true, true, true, true, true, true, true, false, false, false, false, false, false] rfl rfl (by kernel_rfl) (fun _ _ _ h => h) (Or.inl ⟨by rfl, ?_⟩) ?_ ?_
                      rotate_left
                      · intro w'
                        go_simp
                        with_reducible rfl
                      rotate_left
                      · simp only [Act.put, List.setIfInBounds_toArray, List.set_cons_zero, List.set_cons_succ, i64_w, i32_w]
                        rfl
                      refine pure_ (i := 15) (N := some 162) (v := undef) (a' := ?_) #[true, true, true, true, true, true, true, true, true, true, true, true, true, true, true, true, false, false, false, false, false] rfl rfl (by kernel_rfl) (fun _ _ _ h => h) (Or.inr ⟨by rfl, rfl⟩) ?_ ?_
                      rotate_left
                      · simp only [Act.put, List.setIfInBounds_toArray, List.set_cons_zero, List.set_cons_succ, i64_w, i32_w]
                        rfl
                      refine pure_ (i := 16) (N := some 163) (v := undef) (a' := ?_) #[true, true, true, true, true, true, true, true, true, true, true, true, true, true, true, true, true, false, false, false, false] rfl rfl (by kernel_rfl) (fun _ _ _ h => h) (Or.inr ⟨by rfl, rfl⟩) ?_ ?_
                      rotate_left
                      · simp only [Act.put, List.setIfInBounds_toArray, List.set_cons_zero, List.set_cons_succ, i64_w, i32_w]
                        rfl
                      refine pure_ (i := 17) (N := some 164) (v := ?_) (a' := ?_) #[true, true, true, true, true, true, true, true, true, true, true, true, true, true, true, true, true, true, false, false, false] rfl rfl (by kernel_rfl) (fun _ _ _ h => h) (Or.inl ⟨by rfl, ?_⟩) ?_ ?_
                      rotate_left
                      · intro w'
                        go_simp
                        with_reducible rfl
                      rotate_left
                      · simp only [Act.put, List.setIfInBounds_toArray, List.set_cons_zero, List.set_cons_succ, i64_w, i32_w]
                        rfl
                      refine pure_ (i := 18) (N := some 165) (v := ?_) (a' := ?_) #[true, true, true, true, true, true, true, true, true, true, true, true, true, true, true, true, true, true, true, false, false] rfl rfl (by kernel_rfl) (fun _ _ _ h => h) (Or.inl ⟨by rfl, ?_⟩) ?_ ?_
                      rotate_left
                      · intro w'
                        go_simp
                        with_reducible rfl
                      rotate_left
                      · simp only [Act.put, List.setIfInBounds_toArray, List.set_cons_zero, List.set_cons_succ, i64_w, i32_w]
                        rfl
                      refine pure_ (i := 19) (N := some 166) (v := ?_) (a' := ?_) #[true, true, true, true, true, true, true, true, true, true, true, true, true, true, true, true, true, true, true, true, false] rfl rfl (by kernel_rfl) (fun _ _ _ h => h) (Or.inl ⟨by rfl, ?_⟩) ?_ ?_
                      rotate_left
                      · intro w'
                        go_simp
                        with_reducible rfl
                      rotate_left
                      · simp only [Act.put, List.setIfInBounds_toArray, List.set_cons_zero, List.set_cons_succ, i64_w, i32_w]
                        rfl
                      refine pure_ (i := 20) (N := some 6) (v := ?_) (a' := ?_) #[true, true, true, true, true, true, true, true, true, true, true, true, true, true, true, true, true, true, true, true, true] rfl rfl (by kernel_rfl) (fun _ _ _ h => h) (Or.inl ⟨by rfl, ?_⟩) ?_ ?_
                      rotate_left
                      · intro w'
                        go_simp
                        with_reducible rfl
                      rotate_left
                      · simp only [Act.put, List.setIfInBounds_toArray, List.set_cons_zero, List.set_cons_succ, i64_w, i32_w]
                        rfl
                      refine done_ (by kernel_rfl) ?_
                      go_wp2
                      go_ret
                      refine ⟨?_, hHeld.1⟩
                      show Ending.returned (Value.bool _) = _
                      refine congrArg (fun b => Ending.returned (Value.bool b)) ?_
                      first | rfl | exact BEq.comm | (cases a2 <;> simp; done)
            · rw [if_neg c17] at H
              have c17b0 : (t192 == 0) = false := beq_eq_false_iff_ne.mpr c17
              have c17b1 : (t192 != 0) = true := bne_iff_ne.mpr c17
              replace H := Option.bind_eq_some_iff.mp H
              obtain ⟨⟨t195, t196⟩, A290, H⟩ := H
              replace H : (if t195 = true then (some ((t196 == 0) == a2)) else (some (false == a2))) = some r := H
              have A29 := Aside0.mk A290
              clear A290
              by_cases c30 : t195 = true
              · subst c30
                have H1 : (some ((t196 == 0) == a2)) = some r := by rw [if_pos rfl] at H; exact H
                clear H
                have H := H1
                clear H1
                obtain rfl := Option.some.inj H
                obtain ⟨Ao31, co31, eo31⟩ := Kd.R_slice HO_7.out
                subst eo31
                go_wp2_with (first | ((with_reducible refine gate_callee (f := 7) rfl ?_); refine goesL_ (some 58) rfl rfl Try.func7 (by kernel_rfl) rfl #[.slice Ao31 x7_1.length co31] rfl (by (try simp only [List.map_toArray, List.map_cons, List.map_nil]); first | done | rfl | (simp only [List.length_drop, List.length_take]; rfl)) ?_; (with_reducible refine (tocsinref1_Frame.calls k1 _ _ x7_1 t191 t192 _ ?side1 ?side2 A16.out).mono ?_); (case side1 => repeat (first | exact (Kd.R_reads' HO_7.out).2.2 | (with_reducible refine Kd.C_alloc ?_ _) | (with_reducible refine Kd.C_drewN ?_ _) | (with_reducible refine Kd.C_drew ?_))); (case side2 => exact (Kd.R_reads' HO_7.out).2.1); rintro e w32 ⟨rfl, hb⟩; refine ⟨_, rfl, ?_⟩; have n0_ := Aside0.mk (Kd.R_below (by (with_reducible repeat (first | apply Kd.R_alloc | apply Kd.R_drewN | apply Kd.R_drew)); exact HO_7.out) hb); have n1_ := Aside0.mk (blk_below (g := gb183) (o := .cells #[.int .i64 a0_0, .int .i64 a0_1] 23 (0, 0)) (by (with_reducible repeat (first | refine blk_drewN ?_ _ | refine blk_drew ?_ | refine blk_alloc ?_ _)); exact BK183.out) hb); have n2_ := Aside0.mk (below_step (by repeat (first | (with_reducible first | exact HB.out | apply below_alloc | apply pw_below_drewN | apply below_drew1 | refine below_set ?_ GE183.out) | exact HB.out)) hb); clear HO_7; clear BK183; clear HB; have HO_7 := n0_; have BK183 := n1_; have HB := n2_; clear n0_ n1_ n2_; (try clear hb); (try clear hb2); (try clear hk); (try clear hi)) | ((with_reducible refine gate_callee (f := 8) rfl ?_); refine goesL_ (some 69) rfl rfl Try.func8 (by kernel_rfl) rfl #[.slice Ao31 x7_1.length co31] rfl (by (try simp only [List.map_toArray, List.map_cons, List.map_nil]); first | done | rfl | (simp only [List.length_drop, List.length_take]; rfl)) ?_; (with_reducible refine (tocsinref1_Holds.calls k1 _ _ x7_1 true t196 _ ?side1 ?side2 A29.out).mono ?_); (case side1 => repeat (first | exact (Kd.R_reads' HO_7.out).2.2 | (with_reducible refine Kd.C_alloc ?_ _) | (with_reducible refine Kd.C_drewN ?_ _) | (with_reducible refine Kd.C_drew ?_))); (case side2 => exact (Kd.R_reads' HO_7.out).2.1); rintro e w33 ⟨rfl, hb⟩; refine ⟨_, rfl, ?_⟩; have n0_ := Aside0.mk (Kd.R_below (by (with_reducible repeat (first | apply Kd.R_alloc | apply Kd.R_drewN | apply Kd.R_drew)); exact HO_7.out) hb); have n1_ := Aside0.mk (blk_below (g := gb183) (o := .cells #[.int .i64 a0_0, .int .i64 a0_1] 23 (0, 0)) (by (with_reducible repeat (first | refine blk_drewN ?_ _ | refine blk_drew ?_ | refine blk_alloc ?_ _)); exact BK183.out) hb); have n2_ := Aside0.mk (below_step (by repeat (first | (with_reducible first | exact HB.out | apply below_alloc | apply pw_below_drewN | apply below_drew1 | refine below_set ?_ GE183.out) | exact HB.out)) hb); clear HO_7; clear BK183; clear HB; have HO_7 := n0_; have BK183 := n1_; have HB := n2_; clear n0_ n1_ n2_; (try clear hb); (try clear hb2); (try clear hk); (try clear hi); have hcP := (blk_cell BK183.out 0).trans rfl; have hcQ := (blk_cell BK183.out 1).trans rfl; have hzg : gb183 < w33.heap.size := World.block_lt_of_cell? w33 _ hcP) | (go_at_call 9; (with_reducible refine (asDover_Dover _ _ _).mono ?_); rintro e wa ⟨rfl, hb⟩; have kP_wa := keep_cell hb (a := ⟨gb183, 0, none⟩) (v := .int .i64 a0_0) (by (repeat (first | assumption | exact cell_new _ _ _ _ _ _ (by first | rfl | (simp; done)) rfl | refine cell_old _ _ ?_)); done); have kQ_wa := keep_cell hb (a := ⟨gb183, 1, none⟩) (v := .int .i64 a0_1) (by (repeat (first | assumption | exact cell_new _ _ _ _ _ _ (by first | rfl | (simp; done)) rfl | refine cell_old _ _ ?_)); done); have kd0_wa := keep_cell hb (a := ⟨w33.heap.size, 0, none⟩) (v := .int .i64 a0_0) (by (repeat (first | assumption | exact cell_new _ _ _ _ _ _ (by first | rfl | (simp; done)) rfl | refine cell_old _ _ ?_)); done); have kd1_wa := keep_cell hb (a := ⟨w33.heap.size, 1, none⟩) (v := .int .i64 a0_1) (by (repeat (first | assumption | exact cell_new _ _ _ _ _ _ (by first | rfl | (simp; done)) rfl | refine cell_old _ _ ?_)); done); have ks0_wa := keep_cell hb (a := ⟨w33.heap.size + 1, 0, none⟩) (v := .slice A1 l1.length c1) (by (repeat (first | assumption | exact cell_new _ _ _ _ _ _ (by first | rfl | (simp; done)) rfl | refine cell_old _ _ ?_)); done); have ks1_wa := keep_cell hb (a := ⟨w33.heap.size + 1, 1, none⟩) (v := .bool bl) (by (repeat (first | assumption | exact cell_new _ _ _ _ _ _ (by first | rfl | (simp; done)) rfl | refine cell_old _ _ ?_)); done); have hz_ := hb.size; (try simp only [alloc_size_] at hz_); have hz0_wa : gb183 < wa.heap.size := (by omega); have hz1_wa : w33.heap.size < wa.heap.size := (by omega); have hz2_wa : w33.heap.size + 1 < wa.heap.size := (by omega); clear hz_; have n0_ := Aside0.mk (below_step (by repeat (first | (with_reducible first | exact HB.out | apply below_alloc | apply pw_below_drewN | apply below_drew1 | refine below_set ?_ GE183.out) | exact HB.out)) hb); clear HB; have HB := n0_; clear n0_ hb) | (go_at_call 9; (with_reducible refine (asDover_Skip _ _ _ _ _).mono ?_); rintro e wb ⟨rfl, hb⟩; have kP_wb := keep_cell hb (a := ⟨gb183, 0, none⟩) (v := .int .i64 a0_0) (by (repeat (first | assumption | exact cell_new _ _ _ _ _ _ (by first | rfl | (simp; done)) rfl | refine cell_old _ _ ?_)); done); have kQ_wb := keep_cell hb (a := ⟨gb183, 1, none⟩) (v := .int .i64 a0_1) (by (repeat (first | assumption | exact cell_new _ _ _ _ _ _ (by first | rfl | (simp; done)) rfl | refine cell_old _ _ ?_)); done); have kd0_wb := keep_cell hb (a := ⟨w33.heap.size, 0, none⟩) (v := .int .i64 a0_0) (by (repeat (first | assumption | exact cell_new _ _ _ _ _ _ (by first | rfl | (simp; done)) rfl | refine cell_old _ _ ?_)); done); have kd1_wb := keep_cell hb (a := ⟨w33.heap.size, 1, none⟩) (v := .int .i64 a0_1) (by (repeat (first | assumption | exact cell_new _ _ _ _ _ _ (by first | rfl | (simp; done)) rfl | refine cell_old _ _ ?_)); done); have ks0_wb := keep_cell hb (a := ⟨w33.heap.size + 1, 0, none⟩) (v := .slice A1 l1.length c1) (by (repeat (first | assumption | exact cell_new _ _ _ _ _ _ (by first | rfl | (simp; done)) rfl | refine cell_old _ _ ?_)); done); have ks1_wb := keep_cell hb (a := ⟨w33.heap.size + 1, 1, none⟩) (v := .bool bl) (by (repeat (first | assumption | exact cell_new _ _ _ _ _ _ (by first | rfl | (simp; done)) rfl | refine cell_old _ _ ?_)); done); have kt0_wb := keep_cell hb (a := ⟨wa.heap.size, 0, none⟩) (v := .int .i64 a0_0) (by (repeat (first | assumption | exact cell_new _ _ _ _ _ _ (by first | rfl | (simp; done)) rfl | refine cell_old _ _ ?_)); done); have kt1_wb := keep_cell hb (a := ⟨wa.heap.size, 1, none⟩) (v := .int .i64 a0_1) (by (repeat (first | assumption | exact cell_new _ _ _ _ _ _ (by first | rfl | (simp; done)) rfl | refine cell_old _ _ ?_)); done); have hz_ := hb.size; (try simp only [alloc_size_] at hz_); have hz0_wb : gb183 < wb.heap.size := (by omega); have hz1_wb : w33.heap.size < wb.heap.size := (by omega); have hz2_wb : w33.heap.size + 1 < wb.heap.size := (by omega); have hz3_wb : wa.heap.size < wb.heap.size := (by omega); clear hz_; have n0_ := Aside0.mk (below_step (by repeat (first | (with_reducible first | exact HB.out | apply below_alloc | apply pw_below_drewN | apply below_drew1 | refine below_set ?_ GE183.out) | exact HB.out)) hb); clear HB; have HB := n0_; clear n0_ hb) | (go_at_call 10; (with_reducible refine (asSkip_Skip _ _ _ _ _).mono ?_); rintro e wc ⟨rfl, hb⟩; have kP_wc := keep_cell hb (a := ⟨gb183, 0, none⟩) (v := .int .i64 a0_0) (by (repeat (first | assumption | exact cell_new _ _ _ _ _ _ (by first | rfl | (simp; done)) rfl | refine cell_old _ _ ?_)); done); have kQ_wc := keep_cell hb (a := ⟨gb183, 1, none⟩) (v := .int .i64 a0_1) (by (repeat (first | assumption | exact cell_new _ _ _ _ _ _ (by first | rfl | (simp; done)) rfl | refine cell_old _ _ ?_)); done); have kd0_wc := keep_cell hb (a := ⟨w33.heap.size, 0, none⟩) (v := .int .i64 a0_0) (by (repeat (first | assumption | exact cell_new _ _ _ _ _ _ (by first | rfl | (simp; done)) rfl | refine cell_old _ _ ?_)); done); have kd1_wc := keep_cell hb (a := ⟨w33.heap.size, 1, none⟩) (v := .int .i64 a0_1) (by (repeat (first | assumption | exact cell_new _ _ _ _ _ _ (by first | rfl | (simp; done)) rfl | refine cell_old _ _ ?_)); done); have ks0_wc := keep_cell hb (a := ⟨w33.heap.size + 1, 0, none⟩) (v := .slice A1 l1.length c1) (by (repeat (first | assumption | exact cell_new _ _ _ _ _ _ (by first | rfl | (simp; done)) rfl | refine cell_old _ _ ?_)); done); have ks1_wc := keep_cell hb (a := ⟨w33.heap.size + 1, 1, none⟩) (v := .bool bl) (by (repeat (first | assumption | exact cell_new _ _ _ _ _ _ (by first | rfl | (simp; done)) rfl | refine cell_old _ _ ?_)); done); have kt0_wc := keep_cell hb (a := ⟨wa.heap.size, 0, none⟩) (v := .int .i64 a0_0) (by (repeat (first | assumption | exact cell_new _ _ _ _ _ _ (by first | rfl | (simp; done)) rfl | refine cell_old _ _ ?_)); done); have kt1_wc := keep_cell hb (a := ⟨wa.heap.size, 1, none⟩) (v := .int .i64 a0_1) (by (repeat (first | assumption | exact cell_new _ _ _ _ _ _ (by first | rfl | (simp; done)) rfl | refine cell_old _ _ ?_)); done); have hz_ := hb.size; (try simp only [alloc_size_] at hz_); have hz0_wc : gb183 < wc.heap.size := (by omega); have hz1_wc : w33.heap.size < wc.heap.size := (by omega); have hz2_wc : w33.heap.size + 1 < wc.heap.size := (by omega); have hz3_wc : wa.heap.size < wc.heap.size := (by omega); have hz4_wc : wb.heap.size < wc.heap.size := (by omega); clear hz_; have n0_ := Aside0.mk (below_step (by repeat (first | (with_reducible first | exact HB.out | apply below_alloc | apply pw_below_drewN | apply below_drew1 | refine below_set ?_ GE183.out) | exact HB.out)) hb); clear HB; have HB := n0_; clear n0_ hb) | (go_at_call 10; (with_reducible refine (asSkip_Dover _ _ _).mono ?_); rintro e wd ⟨rfl, hb⟩; have kP_wd := keep_cell hb (a := ⟨gb183, 0, none⟩) (v := .int .i64 a0_0) (by (repeat (first | assumption | exact cell_new _ _ _ _ _ _ (by first | rfl | (simp; done)) rfl | refine cell_old _ _ ?_)); done); have kQ_wd := keep_cell hb (a := ⟨gb183, 1, none⟩) (v := .int .i64 a0_1) (by (repeat (first | assumption | exact cell_new _ _ _ _ _ _ (by first | rfl | (simp; done)) rfl | refine cell_old _ _ ?_)); done); have kd0_wd := keep_cell hb (a := ⟨w33.heap.size, 0, none⟩) (v := .int .i64 a0_0) (by (repeat (first | assumption | exact cell_new _ _ _ _ _ _ (by first | rfl | (simp; done)) rfl | refine cell_old _ _ ?_)); done); have kd1_wd := keep_cell hb (a := ⟨w33.heap.size, 1, none⟩) (v := .int .i64 a0_1) (by (repeat (first | assumption | exact cell_new _ _ _ _ _ _ (by first | rfl | (simp; done)) rfl | refine cell_old _ _ ?_)); done); have ks0_wd := keep_cell hb (a := ⟨w33.heap.size + 1, 0, none⟩) (v := .slice A1 l1.length c1) (by (repeat (first | assumption | exact cell_new _ _ _ _ _ _ (by first | rfl | (simp; done)) rfl | refine cell_old _ _ ?_)); done); have ks1_wd := keep_cell hb (a := ⟨w33.heap.size + 1, 1, none⟩) (v := .bool bl) (by (repeat (first | assumption | exact cell_new _ _ _ _ _ _ (by first | rfl | (simp; done)) rfl | refine cell_old _ _ ?_)); done); have kt0_wd := keep_cell hb (a := ⟨wa.heap.size, 0, none⟩) (v := .int .i64 a0_0) (by (repeat (first | assumption | exact cell_new _ _ _ _ _ _ (by first | rfl | (simp; done)) rfl | refine cell_old _ _ ?_)); done); have kt1_wd := keep_cell hb (a := ⟨wa.heap.size, 1, none⟩) (v := .int .i64 a0_1) (by (repeat (first | assumption | exact cell_new _ _ _ _ _ _ (by first | rfl | (simp; done)) rfl | refine cell_old _ _ ?_)); done); have hz_ := hb.size; (try simp only [alloc_size_] at hz_); have hz0_wd : gb183 < wd.heap.size := (by omega); have hz1_wd : w33.heap.size < wd.heap.size := (by omega); have hz2_wd : w33.heap.size + 1 < wd.heap.size := (by omega); have hz3_wd : wa.heap.size < wd.heap.size := (by omega); have hz4_wd : wb.heap.size < wd.heap.size := (by omega); clear hz_; have n0_ := Aside0.mk (below_step (by repeat (first | (with_reducible first | exact HB.out | apply below_alloc | apply pw_below_drewN | apply below_drew1 | refine below_set ?_ GE183.out) | exact HB.out)) hb); clear HB; have HB := n0_; clear n0_ hb))
                have HRd := Aside0.mk (Kd.C_below HR1.out HB.out)
                have HN := hr_len HR1.out
                clear kP_wa kQ_wa kd0_wa kd1_wa ks0_wa ks1_wa hz0_wa hz1_wa hz2_wa kP_wb kQ_wb kd0_wb kd1_wb ks0_wb ks1_wb kt0_wb kt1_wb kP_wc kQ_wc kd0_wc kd1_wc ks0_wc ks1_wc kt0_wc kt1_wc hcP hcQ
                go_loopw [25] (fun i wr => ∃ (q : Int) (n : Nat), 0 ≤ q ∧ q ≤ l1.length ∧ i = .int .i64 q ∧ wr = wd.drewN n) (fun i _ => l1.length - (intOf i).toNat)
                case atStart => exact ⟨0, 0, by omega, by omega, rfl, rfl⟩
                case round =>
                  obtain ⟨q, n, hq0, hq, rfl, rfl⟩ := hrel
                  by_cases hlt : q < l1.length
                  · obtain ⟨ad, rfl, hx0, hx1, hx2⟩ := at_T28 HRd.out q hq0 hlt
                    have hu28 := Try.underlying28
                    go_wp2
                    go_quiet (fail)
                    go_wp2
                    exact ⟨⟨q + 1, _, by omega, by omega, rfl, rfl⟩, by simp [intOf]; omega⟩
                  · go_wp2
                    have hcB := pw_below_drewN HB.out n
                    have hcB1 : Below w.heap.size w (wd.drewN n).drew := below_drew hcB
                    have hcB2 := pw_below_drewN HB.out (n + 1)
                    go_region_held3 (fun w' => Below w.heap.size w w' ∧ w'.cell? ⟨gb183, 0, none⟩ = some (.int .i64 a0_0) ∧ w'.cell? ⟨gb183, 1, none⟩ = some (.int .i64 a0_1) ∧ w'.cell? ⟨w33.heap.size, 0, none⟩ = some (.int .i64 a0_0) ∧ w'.cell? ⟨w33.heap.size, 1, none⟩ = some (.int .i64 a0_1) ∧ w'.cell? ⟨w33.heap.size + 1, 0, none⟩ = some (.slice A1 l1.length c1) ∧ w'.cell? ⟨w33.heap.size + 1, 1, none⟩ = some (.bool bl)) (((try go_split_ands); refine ⟨?_, ?_, ?_, ?_, ?_, ?_, ?_⟩ <;> (first | (go_keep; done) | exact keep_cell hb (by assumption) | (repeat (first | assumption | exact below_step (by assumption) hb | apply below_drew1 | apply below_alloc))))) (first | (go_at_call 12; (with_reducible refine (HG.out _).mono ?_); rintro e w7 ⟨rfl, hb⟩) | (go_at_call 11; (with_reducible refine (HD.out _).mono ?_); rintro e w7 ⟨rfl, hb⟩) | (go_at_call 11; (with_reducible refine (HS.out _ (Kd.C_below HR1.out (by (try go_split_ands); assumption))).mono ?_); rintro e w7 ⟨rfl, hb⟩))
                    go_wp2
                    go_ret
                    go_split_ands
                    refine ⟨?_, by assumption⟩
                    show Ending.returned (Value.bool _) = _
                    refine congrArg (fun b => Ending.returned (Value.bool b)) ?_
                    first | rfl | exact BEq.comm | (cases a2 <;> simp; done)
              · replace c30 := Bool.eq_false_iff.mpr c30
                subst c30
                have H1 : (some (false == a2)) = some r := by rw [if_neg (show ¬ (false = true) by decide)] at H; exact H
                clear H
                have H := H1
                clear H1
                obtain rfl := Option.some.inj H
                obtain ⟨Ao34, co34, eo34⟩ := Kd.R_slice HO_7.out
                subst eo34
                go_wp2_with (first | ((with_reducible refine gate_callee (f := 7) rfl ?_); refine goesL_ (some 58) rfl rfl Try.func7 (by kernel_rfl) rfl #[.slice Ao34 x7_1.length co34] rfl (by (try simp only [List.map_toArray, List.map_cons, List.map_nil]); first | done | rfl | (simp only [List.length_drop, List.length_take]; rfl)) ?_; (with_reducible refine (tocsinref1_Frame.calls k1 _ _ x7_1 t191 t192 _ ?side1 ?side2 A16.out).mono ?_); (case side1 => repeat (first | exact (Kd.R_reads' HO_7.out).2.2 | (with_reducible refine Kd.C_alloc ?_ _) | (with_reducible refine Kd.C_drewN ?_ _) | (with_reducible refine Kd.C_drew ?_))); (case side2 => exact (Kd.R_reads' HO_7.out).2.1); rintro e w35 ⟨rfl, hb⟩; refine ⟨_, rfl, ?_⟩; have n0_ := Aside0.mk (Kd.R_below (by (with_reducible repeat (first | apply Kd.R_alloc | apply Kd.R_drewN | apply Kd.R_drew)); exact HO_7.out) hb); have n1_ := Aside0.mk (blk_below (g := gb183) (o := .cells #[.int .i64 a0_0, .int .i64 a0_1] 23 (0, 0)) (by (with_reducible repeat (first | refine blk_drewN ?_ _ | refine blk_drew ?_ | refine blk_alloc ?_ _)); exact BK183.out) hb); have n2_ := Aside0.mk (below_step (by repeat (first | (with_reducible first | exact HB.out | apply below_alloc | apply pw_below_drewN | apply below_drew1 | refine below_set ?_ GE183.out) | exact HB.out)) hb); clear HO_7; clear BK183; clear HB; have HO_7 := n0_; have BK183 := n1_; have HB := n2_; clear n0_ n1_ n2_; (try clear hb); (try clear hb2); (try clear hk); (try clear hi)) | ((with_reducible refine gate_callee (f := 8) rfl ?_); refine goesL_ (some 69) rfl rfl Try.func8 (by kernel_rfl) rfl #[.slice Ao34 x7_1.length co34] rfl (by (try simp only [List.map_toArray, List.map_cons, List.map_nil]); first | done | rfl | (simp only [List.length_drop, List.length_take]; rfl)) ?_; (with_reducible refine (tocsinref1_Holds.calls k1 _ _ x7_1 false t196 _ ?side1 ?side2 A29.out).mono ?_); (case side1 => repeat (first | exact (Kd.R_reads' HO_7.out).2.2 | (with_reducible refine Kd.C_alloc ?_ _) | (with_reducible refine Kd.C_drewN ?_ _) | (with_reducible refine Kd.C_drew ?_))); (case side2 => exact (Kd.R_reads' HO_7.out).2.1); rintro e w36 ⟨rfl, hb⟩; refine ⟨_, rfl, ?_⟩; have n0_ := Aside0.mk (Kd.R_below (by (with_reducible repeat (first | apply Kd.R_alloc | apply Kd.R_drewN | apply Kd.R_drew)); exact HO_7.out) hb); have n1_ := Aside0.mk (blk_below (g := gb183) (o := .cells #[.int .i64 a0_0, .int .i64 a0_1] 23 (0, 0)) (by (with_reducible repeat (first | refine blk_drewN ?_ _ | refine blk_drew ?_ | refine blk_alloc ?_ _)); exact BK183.out) hb); have n2_ := Aside0.mk (below_step (by repeat (first | (with_reducible first | exact HB.out | apply below_alloc | apply pw_below_drewN | apply below_drew1 | refine below_set ?_ GE183.out) | exact HB.out)) hb); clear HO_7; clear BK183; clear HB; have HO_7 := n0_; have BK183 := n1_; have HB := n2_; clear n0_ n1_ n2_; (try clear hb); (try clear hb2); (try clear hk); (try clear hi); have hcP := (blk_cell BK183.out 0).trans rfl; have hcQ := (blk_cell BK183.out 1).trans rfl; have hzg : gb183 < w36.heap.size := World.block_lt_of_cell? w36 _ hcP) | (go_at_call 9; (with_reducible refine (asDover_Dover _ _ _).mono ?_); rintro e wa ⟨rfl, hb⟩; have kP_wa := keep_cell hb (a := ⟨gb183, 0, none⟩) (v := .int .i64 a0_0) (by (repeat (first | assumption | exact cell_new _ _ _ _ _ _ (by first | rfl | (simp; done)) rfl | refine cell_old _ _ ?_)); done); have kQ_wa := keep_cell hb (a := ⟨gb183, 1, none⟩) (v := .int .i64 a0_1) (by (repeat (first | assumption | exact cell_new _ _ _ _ _ _ (by first | rfl | (simp; done)) rfl | refine cell_old _ _ ?_)); done); have kd0_wa := keep_cell hb (a := ⟨w36.heap.size, 0, none⟩) (v := .int .i64 a0_0) (by (repeat (first | assumption | exact cell_new _ _ _ _ _ _ (by first | rfl | (simp; done)) rfl | refine cell_old _ _ ?_)); done); have kd1_wa := keep_cell hb (a := ⟨w36.heap.size, 1, none⟩) (v := .int .i64 a0_1) (by (repeat (first | assumption | exact cell_new _ _ _ _ _ _ (by first | rfl | (simp; done)) rfl | refine cell_old _ _ ?_)); done); have ks0_wa := keep_cell hb (a := ⟨w36.heap.size + 1, 0, none⟩) (v := .slice A1 l1.length c1) (by (repeat (first | assumption | exact cell_new _ _ _ _ _ _ (by first | rfl | (simp; done)) rfl | refine cell_old _ _ ?_)); done); have ks1_wa := keep_cell hb (a := ⟨w36.heap.size + 1, 1, none⟩) (v := .bool bl) (by (repeat (first | assumption | exact cell_new _ _ _ _ _ _ (by first | rfl | (simp; done)) rfl | refine cell_old _ _ ?_)); done); have hz_ := hb.size; (try simp only [alloc_size_] at hz_); have hz0_wa : gb183 < wa.heap.size := (by omega); have hz1_wa : w36.heap.size < wa.heap.size := (by omega); have hz2_wa : w36.heap.size + 1 < wa.heap.size := (by omega); clear hz_; have n0_ := Aside0.mk (below_step (by repeat (first | (with_reducible first | exact HB.out | apply below_alloc | apply pw_below_drewN | apply below_drew1 | refine below_set ?_ GE183.out) | exact HB.out)) hb); clear HB; have HB := n0_; clear n0_ hb) | (go_at_call 9; (with_reducible refine (asDover_Skip _ _ _ _ _).mono ?_); rintro e wb ⟨rfl, hb⟩; have kP_wb := keep_cell hb (a := ⟨gb183, 0, none⟩) (v := .int .i64 a0_0) (by (repeat (first | assumption | exact cell_new _ _ _ _ _ _ (by first | rfl | (simp; done)) rfl | refine cell_old _ _ ?_)); done); have kQ_wb := keep_cell hb (a := ⟨gb183, 1, none⟩) (v := .int .i64 a0_1) (by (repeat (first | assumption | exact cell_new _ _ _ _ _ _ (by first | rfl | (simp; done)) rfl | refine cell_old _ _ ?_)); done); have kd0_wb := keep_cell hb (a := ⟨w36.heap.size, 0, none⟩) (v := .int .i64 a0_0) (by (repeat (first | assumption | exact cell_new _ _ _ _ _ _ (by first | rfl | (simp; done)) rfl | refine cell_old _ _ ?_)); done); have kd1_wb := keep_cell hb (a := ⟨w36.heap.size, 1, none⟩) (v := .int .i64 a0_1) (by (repeat (first | assumption | exact cell_new _ _ _ _ _ _ (by first | rfl | (simp; done)) rfl | refine cell_old _ _ ?_)); done); have ks0_wb := keep_cell hb (a := ⟨w36.heap.size + 1, 0, none⟩) (v := .slice A1 l1.length c1) (by (repeat (first | assumption | exact cell_new _ _ _ _ _ _ (by first | rfl | (simp; done)) rfl | refine cell_old _ _ ?_)); done); have ks1_wb := keep_cell hb (a := ⟨w36.heap.size + 1, 1, none⟩) (v := .bool bl) (by (repeat (first | assumption | exact cell_new _ _ _ _ _ _ (by first | rfl | (simp; done)) rfl | refine cell_old _ _ ?_)); done); have kt0_wb := keep_cell hb (a := ⟨wa.heap.size, 0, none⟩) (v := .int .i64 a0_0) (by (repeat (first | assumption | exact cell_new _ _ _ _ _ _ (by first | rfl | (simp; done)) rfl | refine cell_old _ _ ?_)); done); have kt1_wb := keep_cell hb (a := ⟨wa.heap.size, 1, none⟩) (v := .int .i64 a0_1) (by (repeat (first | assumption | exact cell_new _ _ _ _ _ _ (by first | rfl | (simp; done)) rfl | refine cell_old _ _ ?_)); done); have hz_ := hb.size; (try simp only [alloc_size_] at hz_); have hz0_wb : gb183 < wb.heap.size := (by omega); have hz1_wb : w36.heap.size < wb.heap.size := (by omega); have hz2_wb : w36.heap.size + 1 < wb.heap.size := (by omega); have hz3_wb : wa.heap.size < wb.heap.size := (by omega); clear hz_; have n0_ := Aside0.mk (below_step (by repeat (first | (with_reducible first | exact HB.out | apply below_alloc | apply pw_below_drewN | apply below_drew1 | refine below_set ?_ GE183.out) | exact HB.out)) hb); clear HB; have HB := n0_; clear n0_ hb) | (go_at_call 10; (with_reducible refine (asSkip_Skip _ _ _ _ _).mono ?_); rintro e wc ⟨rfl, hb⟩; have kP_wc := keep_cell hb (a := ⟨gb183, 0, none⟩) (v := .int .i64 a0_0) (by (repeat (first | assumption | exact cell_new _ _ _ _ _ _ (by first | rfl | (simp; done)) rfl | refine cell_old _ _ ?_)); done); have kQ_wc := keep_cell hb (a := ⟨gb183, 1, none⟩) (v := .int .i64 a0_1) (by (repeat (first | assumption | exact cell_new _ _ _ _ _ _ (by first | rfl | (simp; done)) rfl | refine cell_old _ _ ?_)); done); have kd0_wc := keep_cell hb (a := ⟨w36.heap.size, 0, none⟩) (v := .int .i64 a0_0) (by (repeat (first | assumption | exact cell_new _ _ _ _ _ _ (by first | rfl | (simp; done)) rfl | refine cell_old _ _ ?_)); done); have kd1_wc := keep_cell hb (a := ⟨w36.heap.size, 1, none⟩) (v := .int .i64 a0_1) (by (repeat (first | assumption | exact cell_new _ _ _ _ _ _ (by first | rfl | (simp; done)) rfl | refine cell_old _ _ ?_)); done); have ks0_wc := keep_cell hb (a := ⟨w36.heap.size + 1, 0, none⟩) (v := .slice A1 l1.length c1) (by (repeat (first | assumption | exact cell_new _ _ _ _ _ _ (by first | rfl | (simp; done)) rfl | refine cell_old _ _ ?_)); done); have ks1_wc := keep_cell hb (a := ⟨w36.heap.size + 1, 1, none⟩) (v := .bool bl) (by (repeat (first | assumption | exact cell_new _ _ _ _ _ _ (by first | rfl | (simp; done)) rfl | refine cell_old _ _ ?_)); done); have kt0_wc := keep_cell hb (a := ⟨wa.heap.size, 0, none⟩) (v := .int .i64 a0_0) (by (repeat (first | assumption | exact cell_new _ _ _ _ _ _ (by first | rfl | (simp; done)) rfl | refine cell_old _ _ ?_)); done); have kt1_wc := keep_cell hb (a := ⟨wa.heap.size, 1, none⟩) (v := .int .i64 a0_1) (by (repeat (first | assumption | exact cell_new _ _ _ _ _ _ (by first | rfl | (simp; done)) rfl | refine cell_old _ _ ?_)); done); have hz_ := hb.size; (try simp only [alloc_size_] at hz_); have hz0_wc : gb183 < wc.heap.size := (by omega); have hz1_wc : w36.heap.size < wc.heap.size := (by omega); have hz2_wc : w36.heap.size + 1 < wc.heap.size := (by omega); have hz3_wc : wa.heap.size < wc.heap.size := (by omega); have hz4_wc : wb.heap.size < wc.heap.size := (by omega); clear hz_; have n0_ := Aside0.mk (below_step (by repeat (first | (with_reducible first | exact HB.out | apply below_alloc | apply pw_below_drewN | apply below_drew1 | refine below_set ?_ GE183.out) | exact HB.out)) hb); clear HB; have HB := n0_; clear n0_ hb) | (go_at_call 10; (with_reducible refine (asSkip_Dover _ _ _).mono ?_); rintro e wd ⟨rfl, hb⟩; have kP_wd := keep_cell hb (a := ⟨gb183, 0, none⟩) (v := .int .i64 a0_0) (by (repeat (first | assumption | exact cell_new _ _ _ _ _ _ (by first | rfl | (simp; done)) rfl | refine cell_old _ _ ?_)); done); have kQ_wd := keep_cell hb (a := ⟨gb183, 1, none⟩) (v := .int .i64 a0_1) (by (repeat (first | assumption | exact cell_new _ _ _ _ _ _ (by first | rfl | (simp; done)) rfl | refine cell_old _ _ ?_)); done); have kd0_wd := keep_cell hb (a := ⟨w36.heap.size, 0, none⟩) (v := .int .i64 a0_0) (by (repeat (first | assumption | exact cell_new _ _ _ _ _ _ (by first | rfl | (simp; done)) rfl | refine cell_old _ _ ?_)); done); have kd1_wd := keep_cell hb (a := ⟨w36.heap.size, 1, none⟩) (v := .int .i64 a0_1) (by (repeat (first | assumption | exact cell_new _ _ _ _ _ _ (by first | rfl | (simp; done)) rfl | refine cell_old _ _ ?_)); done); have ks0_wd := keep_cell hb (a := ⟨w36.heap.size + 1, 0, none⟩) (v := .slice A1 l1.length c1) (by (repeat (first | assumption | exact cell_new _ _ _ _ _ _ (by first | rfl | (simp; done)) rfl | refine cell_old _ _ ?_)); done); have ks1_wd := keep_cell hb (a := ⟨w36.heap.size + 1, 1, none⟩) (v := .bool bl) (by (repeat (first | assumption | exact cell_new _ _ _ _ _ _ (by first | rfl | (simp; done)) rfl | refine cell_old _ _ ?_)); done); have kt0_wd := keep_cell hb (a := ⟨wa.heap.size, 0, none⟩) (v := .int .i64 a0_0) (by (repeat (first | assumption | exact cell_new _ _ _ _ _ _ (by first | rfl | (simp; done)) rfl | refine cell_old _ _ ?_)); done); have kt1_wd := keep_cell hb (a := ⟨wa.heap.size, 1, none⟩) (v := .int .i64 a0_1) (by (repeat (first | assumption | exact cell_new _ _ _ _ _ _ (by first | rfl | (simp; done)) rfl | refine cell_old _ _ ?_)); done); have hz_ := hb.size; (try simp only [alloc_size_] at hz_); have hz0_wd : gb183 < wd.heap.size := (by omega); have hz1_wd : w36.heap.size < wd.heap.size := (by omega); have hz2_wd : w36.heap.size + 1 < wd.heap.size := (by omega); have hz3_wd : wa.heap.size < wd.heap.size := (by omega); have hz4_wd : wb.heap.size < wd.heap.size := (by omega); clear hz_; have n0_ := Aside0.mk (below_step (by repeat (first | (with_reducible first | exact HB.out | apply below_alloc | apply pw_below_drewN | apply below_drew1 | refine below_set ?_ GE183.out) | exact HB.out)) hb); clear HB; have HB := n0_; clear n0_ hb))
                have HRd := Aside0.mk (Kd.C_below HR1.out HB.out)
                have HN := hr_len HR1.out
                clear kP_wa kQ_wa kd0_wa kd1_wa ks0_wa ks1_wa hz0_wa hz1_wa hz2_wa kP_wb kQ_wb kd0_wb kd1_wb ks0_wb ks1_wb kt0_wb kt1_wb kP_wc kQ_wc kd0_wc kd1_wc ks0_wc ks1_wc kt0_wc kt1_wc hcP hcQ
                go_loopw [25] (fun i wr => ∃ (q : Int) (n : Nat), 0 ≤ q ∧ q ≤ l1.length ∧ i = .int .i64 q ∧ wr = wd.drewN n) (fun i _ => l1.length - (intOf i).toNat)
                case atStart => exact ⟨0, 0, by omega, by omega, rfl, rfl⟩
                case round =>
                  obtain ⟨q, n, hq0, hq, rfl, rfl⟩ := hrel
                  by_cases hlt : q < l1.length
                  · obtain ⟨ad, rfl, hx0, hx1, hx2⟩ := at_T28 HRd.out q hq0 hlt
                    have hu28 := Try.underlying28
                    go_wp2
                    go_quiet (fail)
                    go_wp2
                    exact ⟨⟨q + 1, _, by omega, by omega, rfl, rfl⟩, by simp [intOf]; omega⟩
                  · go_wp2
                    have hcB := pw_below_drewN HB.out n
                    have hcB1 : Below w.heap.size w (wd.drewN n).drew := below_drew hcB
                    have hcB2 := pw_below_drewN HB.out (n + 1)
                    refine start_ (n := 21) (S := fun w' => Below w.heap.size w w' ∧ w'.cell? ⟨gb183, 0, none⟩ = some (.int .i64 a0_0) ∧ w'.cell? ⟨gb183, 1, none⟩ = some (.int .i64 a0_1) ∧ w'.cell? ⟨w36.heap.size, 0, none⟩ = some (.int .i64 a0_0) ∧ w'.cell? ⟨w36.heap.size, 1, none⟩ = some (.int .i64 a0_1) ∧ w'.cell? ⟨w36.heap.size + 1, 0, none⟩ = some (.slice A1 l1.length c1) ∧ w'.cell? ⟨w36.heap.size + 1, 1, none⟩ = some (.bool bl)) (ds := []) #[false, false, false, false, false, false, false, false, false, false, false, false, false, false, false, false, false, false, false, false, false] (by kernel_rfl) rfl rfl ⟨hcB1, kP_wd, kQ_wd, kd0_wd, kd1_wd, ks0_wd, ks1_wd⟩ (fun hHeld => ?_)
                    refine pure_ (i := 3) (N := some 150) (v := ?_) (a' := ?_) #[false, false, false, true, false, false, false, false, false, false, false, false, false, false, false, false, false, false, false, false, false] rfl rfl (by kernel_rfl) (fun _ _ _ h => h) (Or.inl ⟨by rfl, ?_⟩) ?_ ?_
                    rotate_left
                    · intro w'
                      go_simp
                      with_reducible rfl
                    rotate_left
                    · simp only [Act.put, List.setIfInBounds_toArray, List.set_cons_zero, List.set_cons_succ, i64_w, i32_w]
                      rfl
                    refine pure_ (i := 5) (N := some 152) (v := ?_) (a' := ?_) #[false, false, false, true, false, true, false, false, false, false, false, false, false, false, false, false, false, false, false, false, false] rfl rfl (by kernel_rfl) (fun _ _ _ h => h) (Or.inl ⟨by rfl, ?_⟩) ?_ ?_
                    rotate_left
                    · intro w'
                      go_simp
                      with_reducible rfl
                    rotate_left
                    · simp only [Act.put, List.setIfInBounds_toArray, List.set_cons_zero, List.set_cons_succ, i64_w, i32_w]
                      rfl
                    refine take_ (i := 0) (N := some 147) (v := ?_) (a' := ?_) #[true, false, false, true, false, true, false, false, false, false, false, false, false, false, false, false, false, false, false, false, false] rfl rfl (by kernel_rfl) (fun _ _ _ h => h) (Or.inl ⟨by rfl, ?_⟩) hHeld ?_ ?_
                    rotate_left
                    · rintro w' ⟨s0, s1, s2, s3, s4, s5, s6⟩
                      go_simp
                      with_reducible rfl
                    rotate_left
                    · simp only [Act.put, List.setIfInBounds_toArray, List.set_cons_zero, List.set_cons_succ, i64_w, i32_w]
                      rfl
                    refine pure_ (i := 1) (N := some 148) (v := ?_) (a' := ?_) #[true, true, false, true, false, true, false, false, false, false, false, false, false, false, false, false, false, false, false, false, false] rfl rfl (by kernel_rfl) (fun _ _ _ h => h) (Or.inl ⟨by rfl, ?_⟩) ?_ ?_
                    rotate_left
                    · intro w'
                      go_simp
                      with_reducible rfl
                    rotate_left
                    · simp only [Act.put, List.setIfInBounds_toArray, List.set_cons_zero, List.set_cons_succ, i64_w, i32_w]
                      rfl
                    refine take_ (i := 4) (N := some 151) (v := ?_) (a' := ?_) #[true, true, false, true, true, true, false, false, false, false, false, false, false, false, false, false, false, false, false, false, false] rfl rfl (by kernel_rfl) (fun _ _ _ h => h) (Or.inl ⟨by rfl, ?_⟩) hHeld ?_ ?_
                    rotate_left
                    · rintro w' ⟨s0, s1, s2, s3, s4, s5, s6⟩
                      go_simp
                      with_reducible rfl
                    rotate_left
                    · simp only [Act.put, List.setIfInBounds_toArray, List.set_cons_zero, List.set_cons_succ, i64_w, i32_w]
                      rfl
                    refine take_ (i := 6) (N := some 153) (v := ?_) (a' := ?_) #[true, true, false, true, true, true, true, false, false, false, false, false, false, false, false, false, false, false, false, false, false] rfl rfl (by kernel_rfl) (fun _ _ _ h => h) (Or.inl ⟨by rfl, ?_⟩) hHeld ?_ ?_
                    rotate_left
                    · rintro w' ⟨s0, s1, s2, s3, s4, s5, s6⟩
                      go_simp
                      with_reducible rfl
                    rotate_left
                    · simp only [Act.put, List.setIfInBounds_toArray, List.set_cons_zero, List.set_cons_succ, i64_w, i32_w]
                      rfl
                    refine one_ (i := 2) (N := some 149) #[true, true, true, true, true, true, true, false, false, false, false, false, false, false, false, false, false, false, false, false, false] rfl rfl (by kernel_rfl) (by decide) (fun K hK => ?_)
                    refine goes_ Try.func11 (by kernel_rfl) rfl #[.iface 36 (.agg #[.int .i64 a0_0, .int .i64 a0_1])] (by rfl) rfl rfl (by simp only [List.map_toArray, List.map_cons, List.map_nil]; rfl) ?_
                    with_reducible refine (HD.out _).mono ?_
                    rintro e wx ⟨rfl, hb⟩
                    refine ⟨_, rfl, ?_⟩
                    refine hK.out _ _ ⟨(below_step hHeld.1 hb), (keep_cell hb hHeld.2.1), (keep_cell hb hHeld.2.2.1), (keep_cell hb hHeld.2.2.2.1), (keep_cell hb hHeld.2.2.2.2.1), (keep_cell hb hHeld.2.2.2.2.2.1), (keep_cell hb hHeld.2.2.2.2.2.2)⟩ (fun hHeld => ?_)
                    clear hK K
                    refine norm_ (a' := ?_) ?_ ?_
                    rotate_left
                    · show Act.put _ (some 149) _ = _
                      simp only [Act.put, List.setIfInBounds_toArray, List.set_cons_zero, List.set_cons_succ, i64_w, i32_w]
                      rfl
                    refine one_ (i := 7) (N := some 154) #[true, true, true, true, true, true, true, true, false, false, false, false, false, false, false, false, false, false, false, false, false] rfl rfl (by kernel_rfl) (by decide) (fun K hK => ?_)
                    refine goes_ Try.func12 (by kernel_rfl) rfl #[.int .i64 a0_0, .int .i64 a0_1] (by rfl) rfl rfl (by simp only [List.map_toArray, List.map_cons, List.map_nil]; rfl) ?_
                    with_reducible refine (HG.out _).mono ?_
                    rintro e wy ⟨rfl, hb⟩
                    refine ⟨_, rfl, ?_⟩
                    refine hK.out _ _ ⟨(below_step hHeld.1 hb), (keep_cell hb hHeld.2.1), (keep_cell hb hHeld.2.2.1), (keep_cell hb hHeld.2.2.2.1), (keep_cell hb hHeld.2.2.2.2.1), (keep_cell hb hHeld.2.2.2.2.2.1), (keep_cell hb hHeld.2.2.2.2.2.2)⟩ (fun hHeld => ?_)
                    clear hK K
                    refine norm_ (a' := ?_) ?_ ?_
                    rotate_left
                    · show Act.put _ (some 154) _ = _
                      simp only [Act.put, List.setIfInBounds_toArray, List.set_cons_zero, List.set_cons_succ, i64_w, i32_w]
                      rfl
                    refine pure_ (i := 8) (N := some 155) (v := ?_) (a' := ?_) #[true, true, true, true, true, true, true, true, true, false, false, false, false, false, false, false, false, false, false, false, false] rfl rfl (by kernel_rfl) (fun _ _ _ h => h) (Or.inl ⟨by rfl, ?_⟩) ?_ ?_
                    rotate_left
                    · intro w'
                      go_simp
                      with_reducible rfl
                    rotate_left
                    · simp only [Act.put, List.setIfInBounds_toArray, List.set_cons_zero, List.set_cons_succ, i64_w, i32_w]
                      rfl
                    refine pure_ (i := 9) (N := some 156) (v := ?_) (a' := ?_) #[true, true, true, true, true, true, true, true, true, true, false, false, false, false, false, false, false, false, false, false, false] rfl rfl (by kernel_rfl) (fun _ _ _ h => h) (Or.inl ⟨by rfl, ?_⟩) ?_ ?_
                    rotate_left
                    · intro w'
                      go_simp
                      with_reducible rfl
                    rotate_left
                    · simp only [Act.put, List.setIfInBounds_toArray, List.set_cons_zero, List.set_cons_succ, i64_w, i32_w]
                      rfl
                    refine pure_ (i := 13) (N := some 160) (v := ?_) (a' := ?_) #[true, true, true, true, true, true, true, true, true, true, false, false, false, true, false, false, false, false, false, false, false] rfl rfl (by kernel_rfl) (fun _ _ _ h => h) (Or.inl ⟨by rfl, ?_⟩) ?_ ?_
                    rotate_left
                    · intro w'
                      go_simp
                      with_reducible rfl
                    rotate_left
                    · simp only [Act.put, List.setIfInBounds_toArray, List.set_cons_zero, List.set_cons_succ, i64_w, i32_w]
                      rfl
                    refine take_ (i := 10) (N := some 157) (v := ?_) (a' := ?_) #[true, true, true, true, true, true, true, true, true, true, true, false, false, true, false, false, false, false, false, false, false] rfl rfl (by kernel_rfl) (fun _ _ _ h => h) (Or.inl ⟨by rfl, ?_⟩) hHeld ?_ ?_
                    rotate_left
                    · rintro w' ⟨s0, s1, s2, s3, s4, s5, s6⟩
                      go_simp
                      with_reducible rfl
                    rotate_left
                    · simp only [Act.put, List.setIfInBounds_toArray, List.set_cons_zero, List.set_cons_succ, i64_w, i32_w]
                      rfl
                    refine pure_ (i := 11) (N := some 158) (v := ?_) (a' := ?_) #[true, true, true, true, true, true, true, true, true, true, true, true, false, true, false, false, false, false, false, false, false] rfl rfl (by kernel_rfl) (fun _ _ _ h => h) (Or.inl ⟨by rfl, ?_⟩) ?_ ?_
                    rotate_left
                    · intro w'
                      go_simp
                      with_reducible rfl
                    rotate_left
                    · simp only [Act.put, List.setIfInBounds_toArray, List.set_cons_zero, List.set_cons_succ, i64_w, i32_w]
                      rfl
                    refine one_ (i := 12) (N := some 159) #[true, true, true, true, true, true, true, true, true, true, true, true, true, true, false, false, false, false, false, false, false] rfl rfl (by kernel_rfl) (by decide) (fun K hK => ?_)
                    refine goes_ Try.func11 (by kernel_rfl) rfl #[.iface 38 (.agg #[.slice A1 l1.length c1, .bool bl])] (by rfl) rfl rfl (by simp only [List.map_toArray, List.map_cons, List.map_nil]; rfl) ?_
                    with_reducible refine (HS.out _ (Kd.C_below HR1.out hHeld.1)).mono ?_
                    rintro e wz ⟨rfl, hb⟩
                    refine ⟨_, rfl, ?_⟩
                    refine hK.out _ _ ⟨(below_step hHeld.1 hb), (keep_cell hb hHeld.2.1), (keep_cell hb hHeld.2.2.1), (keep_cell hb hHeld.2.2.2.1), (keep_cell hb hHeld.2.2.2.2.1), (keep_cell hb hHeld.2.2.2.2.2.1), (keep_cell hb hHeld.2.2.2.2.2.2)⟩ (fun hHeld => ?_)
                    clear hK K
                    refine norm_ (a' := ?_) ?_ ?_
                    rotate_left
                    · show Act.put _ (some 159) _ = _
                      simp only [Act.put, List.setIfInBounds_toArray, List.set_cons_zero, List.set_cons_succ, i64_w, i32_w]
                      rfl
                    refine pure_ (i := 14) (N := some 161) (v := ?_) (a' := ?_) #[true, true, true, true, true, true, true, true, true, true, true, true, true, true, true, false, false, false, false, false, false] rfl rfl (by kernel_rfl) (fun _ _ _ h => h) (Or.inl ⟨by rfl, ?_⟩) ?_ ?_
                    rotate_left
                    · intro w'
                      go_simp
                      with_reducible rfl
                    rotate_left
                    · simp only [Act.put, List.setIfInBounds_toArray, List.set_cons_zero, List.set_cons_succ, i64_w, i32_w]
                      rfl
                    refine pure_ (i := 15) (N := some 162) (v := undef) (a' := ?_) #[true, true, true, true, true, true, true, true, true, true, true, true, true, true, true, true, false, false, false, false, false] rfl rfl (by kernel_rfl) (fun _ _ _ h => h) (Or.inr ⟨by rfl, rfl⟩) ?_ ?_
                    rotate_left
                    · simp only [Act.put, List.setIfInBounds_toArray, List.set_cons_zero, List.set_cons_succ, i64_w, i32_w]
                      rfl
                    refine pure_ (i := 16) (N := some 163) (v := undef) (a' := ?_) #[true, true, true, true, true, true, true, true, true, true, true, true, true, true, true, true, true, false, false, false, false] rfl rfl (by kernel_rfl) (fun _ _ _ h => h) (Or.inr ⟨by rfl, rfl⟩) ?_ ?_
                    rotate_left
                    · simp only [Act.put, List.setIfInBounds_toArray, List.set_cons_zero, List.set_cons_succ, i64_w, i32_w]
                      rfl
                    refine pure_ (i := 17) (N := some 164) (v := ?_) (a' := ?_) #[true, true, true, true, true, true, true, true, true, true, true, true, true, true, true, true, true, true, false, false, false] rfl rfl (by kernel_rfl) (fun _ _ _ h => h) (Or.inl ⟨by rfl, ?_⟩) ?_ ?_
                    rotate_left
                    · intro w'
                      go_simp
                      with_reducible rfl
                    rotate_left
                    · simp only [Act.put, List.setIfInBounds_toArray, List.set_cons_zero, List.set_cons_succ, i64_w, i32_w]
                      rfl
                    refine pure_ (i := 18) (N := some 165) (v := ?_) (a' := ?_) #[true, true, true, true, true, true, true, true, true, true, true, true, true, true, true, true, true, true, true, false, false] rfl rfl (by kernel_rfl) (fun _ _ _ h => h) (Or.inl ⟨by rfl, ?_⟩) ?_ ?_
                    rotate_left
                    · intro w'
                      go_simp
                      with_reducible rfl
                    rotate_left
                    · simp only [Act.put, List.setIfInBounds_toArray, List.set_cons_zero, List.set_cons_succ, i64_w, i32_w]
                      rfl
                    refine pure_ (i := 19) (N := some 166) (v := ?_) (a' := ?_) #[true, true, true, true, true, true, true, true, true, true, true, true, true, true, true, true, true, true, true, true, false] rfl rfl (by kernel_rfl) (fun _ _ _ h => h) (Or.inl ⟨by rfl, ?_⟩) ?_ ?_
                    rotate_left
                    · intro w'
                      go_simp
                      with_reducible rfl
                    rotate_left
                    · simp only [Act.put, List.setIfInBounds_toArray, List.set_cons_zero, List.set_cons_succ, i64_w, i32_w]
                      rfl
                    refine pure_ (i := 20) (N := some 6) (v := ?_) (a' := ?_) #[true, true, true, true, true, true, true, true, true, true, true, true, true, true, true, true, true, true, true, true, true] rfl rfl (by kernel_rfl) (fun _ _ _ h => h) (Or.inl ⟨by rfl, ?_⟩) ?_ ?_
                    rotate_left
                    · intro w'
                      go_simp
                      with_reducible rfl
                    rotate_left
                    · simp only [Act.put, List.setIfInBounds_toArray, List.set_cons_zero, List.set_cons_succ, i64_w, i32_w]
                      rfl
                    refine done_ (by kernel_rfl) ?_
                    go_wp2
                    go_ret
                    refine ⟨?_, hHeld.1⟩
                    show Ending.returned (Value.bool _) = _
                    refine congrArg (fun b => Ending.returned (Value.bool b)) ?_
                    first | rfl | exact BEq.comm | (cases a2 <;> simp; done)
  · replace c5 := Bool.eq_false_iff.mpr c5
    subst c5
    have H1 : (some false) = some r := by rw [if_neg (show ¬ (false = true) by decide)] at H; exact H
    clear H
    have H := H1
    clear H1
    obtain rfl := Option.some.inj H
    go_enter Try.func3, Try.ntmps3
    go_wp2_with (first | ((with_reducible refine gate_dst (N := 3) rfl ?_); refine box_event ?hg (N := 3) ?hd (cs := #[.int .i64 a0_0, .int .i64 a0_1]) (t := 23) ?hr ?_; (case hd => rfl); (case hg => rfl); (case hr => first | (go_simp; done) | (go_simp; rfl)); intro gb183 hg w37 hbox hb; have n0_ := Aside0.mk (below_step (by repeat (first | (with_reducible first | exact HB.out | apply below_alloc | apply pw_below_drewN | apply below_drew1) | exact HB.out)) hb); have n1_ := Aside0.mk (hbox); have n2_ := Aside0.mk ((by rw [hg]; exact (below_size (by repeat (first | (with_reducible first | exact HB.out | apply below_alloc | apply pw_below_drewN | apply below_drew1) | exact HB.out))) : w.heap.size ≤ gb183)); have n3_ := Aside0.mk ((by rw [hg]; exact (below_size (by repeat (first | (with_reducible first | exact HB.out | apply below_alloc | apply pw_below_drewN | apply below_drew1) | exact HB.out))) : w.heap.size ≤ gb183)); clear HB; have HB := n0_; have BK183 := n1_; have GW183 := n2_; have GE183 := n3_; clear n0_ n1_ n2_ n3_; clear hb hbox hg) | ((with_reducible refine gate_callee (f := 6) rfl ?_); refine goesL_ (some 26) rfl rfl Try.func6 (by kernel_rfl) rfl #[] rfl (by (try simp only [List.map_toArray, List.map_cons, List.map_nil]); first | done | rfl | (simp only [List.length_drop, List.length_take]; rfl)) ?_; (with_reducible refine (tocsinlaw23_awake.calls  false _ A4.out).mono ?_); rintro e w38 ⟨rfl, hb⟩; refine ⟨_, rfl, ?_⟩; have n0_ := Aside0.mk (blk_below (g := gb183) (o := .cells #[.int .i64 a0_0, .int .i64 a0_1] 23 (0, 0)) (by (with_reducible repeat (first | refine blk_drewN ?_ _ | refine blk_drew ?_ | refine blk_alloc ?_ _)); exact BK183.out) hb); have n1_ := Aside0.mk (below_step (by repeat (first | (with_reducible first | exact HB.out | apply below_alloc | apply pw_below_drewN | apply below_drew1 | refine below_set ?_ GE183.out) | exact HB.out)) hb); clear BK183; clear HB; have BK183 := n0_; have HB := n1_; clear n0_ n1_; (try clear hb); (try clear hb2); (try clear hk); (try clear hi)))
    go_ret
    exact ⟨by first | rfl | (simp [errW_none, errW_some] <;> rfl) | (simp [*, errW_none, errW_some] <;> rfl), by repeat (first | (with_reducible first | exact HB.out | apply below_alloc | apply pw_below_drewN | apply below_drew1 | refine below_set ?_ GE183.out) | exact HB.out)⟩

end Go.Proofs.Ytbfjnlnnjhfamaa.PPo
