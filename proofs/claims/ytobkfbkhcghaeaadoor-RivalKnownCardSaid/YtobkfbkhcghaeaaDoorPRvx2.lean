-- functions and contracts as the kit's print.py writes them, the roots chosen in this session (wip/proots.sh)
-- slim
import Derived.Test.YtobkfbkhcghaeaaDoorPRvx0
import Derived.Test.YtobkfbkhcghaeaaDoorStRv
import Derived.Test.YtobkfbkhcghaeaaDoorStRun
import Derived.Test.YtobkfbkhcghaeaaDoorPRvx1
namespace Go.Proofs.YtobkfbkhcghaeaaDoor.PRv
open Go.RowKit Go.Proofs.YtobkfbkhcghaeaaDoorW.PrintWords Go.Proofs.YtobkfbkhcghaeaaDoorW.PrintLast Go.Proofs.YtobkfbkhcghaeaaDoorW.PrintMore
attribute [local go_sem] max2_int min2_int max_two min_two max_three min_three max_four min_four   -- for this text's walks alone
set_option linter.unusedVariables false
set_option linter.unusedSimpArgs false

/-! ### edf_Meets: function 31 -/
def edf_Meets.l0 : Nat → List Int → List (S35) → Int → Int → Option (Bool)
 | 0, _, _, _, _ => none
 | k + 1, x3, x13, x14, x15 => if x15 < x14 then (if 0 ≤ x15 then (if x15 < (x13.length : Int) then (if 0 ≤ ((rd_T35 x13 x15).f2) then (if ((rd_T35 x13 x15).f2) ≤ (x3.length : Int) then ((trace_Ran.f k (x3.take (((rd_T35 x13 x15).f2) : Int).toNat) x15).bind fun t120 => ((job_Charge.f ((rd_T35 x13 x15).f0) ((rd_T35 x13 x15).f1) ((rd_T35 x13 x15).f2) ((rd_T35 x13 x15).f3) ((rd_T35 x13 x15).f4) ((rd_T35 x13 x15).f5) ((rd_T35 x13 x15).f6) ((rd_T35 x13 x15).f7)).bind fun t121 => (if t120 < t121 then (some false) else (edf_Meets.l0 k x3 x13 x14 (wrap64 (x15 + 1)))))) else (none)) else (none)) else (none)) else (none)) else (some true)
def edf_Meets.f (k : Nat) (l0 : List (S35)) : Option (Bool) := (job_All.f l0).bind fun t109 => (if t109 = true then ((job_End.f k l0).bind fun t110 => ((edfRunC.f l0 t110 ()).bind fun t111 => (edf_Meets.l0 k t111 l0 (l0.length : Int) 0))) else (some false))
theorem edf_Meets.mono_l : ∀ k, (∀ y0 y1 y2 y3, LeO (edf_Meets.l0 k y0 y1 y2 y3) (edf_Meets.l0 (k + 1) y0 y1 y2 y3))
 | 0 => fun _ _ _ _ r h => by simp [edf_Meets.l0] at h
 | k + 1 => by
  have ih0 := edf_Meets.mono_l k
  ·intro y0 y1 y2 y3
   unfold edf_Meets.l0
   repeat' first
   | (with_reducible exact ih0 _ _ _ _)
   | (with_reducible exact job_End.mono _ _)
   | (with_reducible exact trace_Ran.mono _ _ _)
   | (with_reducible exact LeO.refl _)
   | (with_reducible exact LeO.none _)
   | (with_reducible refine LeO.ite ?_ ?_)
   | (with_reducible refine LeO.bind ?_ (fun _ => ?_))
   | exact ih0 _ _ _ _
   | exact job_End.mono _ _
   | exact trace_Ran.mono _ _ _
   | exact LeO.none _
   | refine LeO.ite ?_ ?_
   | refine LeO.bind ?_ (fun _ => ?_)
theorem edf_Meets.mono : ∀ a0 k, LeO (edf_Meets.f k a0) (edf_Meets.f (k + 1) a0) := by
 intro a0 k
 have ih0 := edf_Meets.mono_l k
 unfold edf_Meets.f
 repeat' first
   | (with_reducible exact ih0 _ _ _ _)
   | (with_reducible exact job_End.mono _ _)
   | (with_reducible exact trace_Ran.mono _ _ _)
   | (with_reducible exact LeO.refl _)
   | (with_reducible exact LeO.none _)
   | (with_reducible refine LeO.ite ?_ ?_)
   | (with_reducible refine LeO.bind ?_ (fun _ => ?_))
   | exact ih0 _ _ _ _
   | exact job_End.mono _ _
   | exact trace_Ran.mono _ _ _
   | exact LeO.none _
   | refine LeO.ite ?_ ?_
   | refine LeO.bind ?_ (fun _ => ?_)
def edf_Meets.T7 : Bool × List (List Nat × List Nat) := (true, [([], []), ([], []), ([1], [1]), ([0, 2], [0, 2]), ([], []), ([3, 4], [3, 4]), ([], []), ([6, 5], [6]), ([5, 7], [5, 7])])
def edf_Meets.B7 : List Nat := [0, 0, 2, 7, 0, 31, 0, 127, 255]
theorem edf_Meets.tab7 : rtab .any (opsOf Tryd.f31 7) = edf_Meets.T7 := by kernel_rfl
theorem edf_Meets.bits7 : waitsOk edf_Meets.T7.2 edf_Meets.B7 = true := by kernel_rfl
set_option maxHeartbeats 8000000 in
set_option maxRecDepth 100000 in
theorem edf_Meets.calls (k : Nat) (A0 : Option Addr) (c0 : Nat) (l0 : List (S35)) (r : Bool) (w : World) (hTb : Tab w) (hr0 : Kd.C k35 w A0 l0.length l0) (hc0 : l0.length ≤ c0) (h : edf_Meets.f k l0 = some r) :
  Calls Tryd.prog 31 #[.slice A0 l0.length c0] w fun e w' => e = .returned (.bool r) ∧ Below w.heap.size w w' := by
 have HTb := Aside0.mk hTb
 clear hTb
 have hu35 := Tryd.underlying35
 have HR0 := Aside0.mk hr0
 have HC0 := Aside0.mk hc0
 clear hr0 hc0
 have HB := Aside0.mk (Below.refl w.heap.size w)
 have H : ((job_All.f l0).bind fun t109 => (if t109 = true then ((job_End.f k l0).bind fun t110 => ((edfRunC.f l0 t110 ()).bind fun t111 => (edf_Meets.l0 k t111 l0 (l0.length : Int) 0))) else (some false))) = some r := h
 clear h
 replace H := Option.bind_eq_some_iff.mp H
 obtain ⟨t109, A20, H⟩ := H
 replace H : (if t109 = true then ((job_End.f k l0).bind fun t110 => ((edfRunC.f l0 t110 ()).bind fun t111 => (edf_Meets.l0 k t111 l0 (l0.length : Int) 0))) else (some false)) = some r := H
 have A2 := Aside0.mk A20
 clear A20
 by_cases c3 : t109 = true
 ·subst c3
  have H1 : ((job_End.f k l0).bind fun t110 => ((edfRunC.f l0 t110 ()).bind fun t111 => (edf_Meets.l0 k t111 l0 (l0.length : Int) 0))) = some r := by rw [if_pos rfl] at H; exact H
  clear H
  have H := H1
  clear H1
  replace H := Option.bind_eq_some_iff.mp H
  obtain ⟨t110, A40, H⟩ := H
  replace H : ((edfRunC.f l0 t110 ()).bind fun t111 => (edf_Meets.l0 k t111 l0 (l0.length : Int) 0)) = some r := H
  have A4 := Aside0.mk A40
  clear A40
  replace H := Option.bind_eq_some_iff.mp H
  obtain ⟨t111, A50, H⟩ := H
  replace H : (edf_Meets.l0 k t111 l0 (l0.length : Int) 0) = some r := H
  have A5 := Aside0.mk A50
  clear A50
  have H' := Aside0.mk H
  clear H
  go_enter Tryd.func31, Tryd.ntmps31
  go_wp2_with (first | ((with_reducible refine gate_callee (f := 8) rfl ?_); refine goesL_ (some 7) rfl rfl Tryd.func8 (by kernel_rfl) rfl #[.slice A0 l0.length c0] rfl (by (try simp only [List.map_toArray, List.map_cons, List.map_nil]); first | done | rfl | (simp only [List.length_drop, List.length_take]; rfl)) ?_; (with_reducible refine (job_All.calls _ _ l0 true _ (tab_below HTb.out (by repeat (first | (with_reducible first | exact HB.out | apply below_alloc | apply pw_below_drewN | apply below_drew1) | exact HB.out))) ?side1 ?side2 A2.out).mono ?_); (case side1 => repeat (first | exact HR0.out | (with_reducible refine Kd.C_alloc ?_ _) | (with_reducible refine Kd.C_drewN ?_ _) | (with_reducible refine Kd.C_drew ?_))); (case side2 => exact HC0.out); rintro e w6 ⟨rfl, hb⟩; refine ⟨_, rfl, ?_⟩; have n0_ := Aside0.mk (below_step (by repeat (first | (with_reducible first | exact HB.out | apply below_alloc | apply pw_below_drewN | apply below_drew1) | exact HB.out)) hb); clear HB; have HB := n0_; clear n0_; (try clear hb); (try clear hb2); (try clear hk); (try clear hi)) | ((with_reducible refine gate_callee (f := 23) rfl ?_); refine goesL_ (some 11) rfl rfl Tryd.func23 (by kernel_rfl) rfl #[.slice A0 l0.length c0] rfl (by (try simp only [List.map_toArray, List.map_cons, List.map_nil]); first | done | rfl | (simp only [List.length_drop, List.length_take]; rfl)) ?_; (with_reducible refine (job_End.calls k _ _ l0 t110 _ (tab_below HTb.out (by repeat (first | (with_reducible first | exact HB.out | apply below_alloc | apply pw_below_drewN | apply below_drew1) | exact HB.out))) ?side1 ?side2 A4.out).mono ?_); (case side1 => repeat (first | exact (Kd.C_below HR0.out HB.out) | (with_reducible refine Kd.C_alloc ?_ _) | (with_reducible refine Kd.C_drewN ?_ _) | (with_reducible refine Kd.C_drew ?_))); (case side2 => exact HC0.out); rintro e w7 ⟨rfl, hb⟩; refine ⟨_, rfl, ?_⟩; have n0_ := Aside0.mk (below_step (by repeat (first | (with_reducible first | exact HB.out | apply below_alloc | apply pw_below_drewN | apply below_drew1) | exact HB.out)) hb); clear HB; have HB := n0_; clear n0_; (try clear hb); (try clear hb2); (try clear hk); (try clear hi)) | ((with_reducible refine gate_callee (f := 38) rfl ?_); refine goesL_ (some 12) rfl rfl Tryd.func38 (by kernel_rfl) rfl #[.slice A0 l0.length c0, .int .i64 t110, .func (.func 47) #[] #[]] rfl (by (try simp only [List.map_toArray, List.map_cons, List.map_nil]); first | done | rfl | (simp only [List.length_drop, List.length_take]; rfl)) ?_; (with_reducible refine (edfRunC.calls _ _ l0 t110 () t111 _ (tab_below HTb.out (by repeat (first | (with_reducible first | exact HB.out | apply below_alloc | apply pw_below_drewN | apply below_drew1) | exact HB.out))) ?side1 ?side2 A5.out).mono ?_); (case side1 => repeat (first | exact (Kd.C_below HR0.out HB.out) | (with_reducible refine Kd.C_alloc ?_ _) | (with_reducible refine Kd.C_drewN ?_ _) | (with_reducible refine Kd.C_drew ?_))); (case side2 => exact HC0.out); rintro e w8 ⟨v112, rfl, ho0, hb⟩; refine ⟨_, rfl, ?_⟩; have n0_ := Aside0.mk (Kd.R_lower ho0 (below_size (by repeat (first | (with_reducible first | exact HB.out | apply below_alloc | apply pw_below_drewN | apply below_drew1) | exact HB.out)))); have n1_ := Aside0.mk (below_step (by repeat (first | (with_reducible first | exact HB.out | apply below_alloc | apply pw_below_drewN | apply below_drew1) | exact HB.out)) hb); clear HB; have HO113 := n0_; have HB := n1_; clear n0_ n1_; (try clear hb); (try clear hb2); (try clear hk); (try clear hi); (try clear ho0)))
  go_loopg [15] k (fun kq v15 w' => ∃ (x15_1 : Int), v15 = .int .i64 x15_1 ∧ Aside0 (edf_Meets.l0 kq t111 l0 (l0.length : Int) x15_1 = some r) ∧ Aside0 (kq ≤ k) ∧ Aside0 (Kd.R (Kd.int .i64) 3 w' w.heap.size (fun _ => True) v112 t111) ∧ Aside0 (Below w.heap.size w w'))
  case atStart => exact ⟨(0), (by first | rfl | (simp; done) | (simp [*]; done)), H', ⟨Nat.le_refl _⟩, ⟨by (with_reducible repeat (first | apply Kd.R_alloc | apply Kd.R_drewN | apply Kd.R_drew)); exact HO113.out⟩, ⟨by repeat (first | (with_reducible first | exact HB.out | apply below_alloc | apply pw_below_drewN | apply below_drew1) | exact HB.out)⟩⟩
  case round =>
   clear H'
   try clear c2
   try clear p2
   try clear c3
   try clear c8
   obtain ⟨x15_1, rfl, HA, HK1, HO_3, HB⟩ := hrel
   cases gk with
   | zero => exact absurd HA.out (by simp [edf_Meets.l0])
   | succ k1 =>
    have H := HA.out
    clear HA
    simp only [edf_Meets.l0] at H
    by_cases c9 : x15_1 < (l0.length : Int)
    ·rw [if_pos c9] at H
     have c9b0 : decide (x15_1 < (l0.length : Int)) = true := decide_eq_true c9
     clear c9
     by_cases c10 : 0 ≤ x15_1
     ·rw [if_pos c10] at H
      have c10b0 : decide (0 ≤ x15_1) = true := decide_eq_true c10
      clear c10
      by_cases c11 : x15_1 < (l0.length : Int)
      ·rw [if_pos c11] at H
       have c11b0 : decide (x15_1 < (l0.length : Int)) = true := decide_eq_true c11
       clear c11
       by_cases c12 : 0 ≤ ((rd_T35 l0 x15_1).f2)
       ·rw [if_pos c12] at H
        have c12b0 := eq_true c12
        have c12b1 : decide (0 ≤ ((rd_T35 l0 x15_1).f2)) = true := decide_eq_true c12
        clear c12
        by_cases c13 : ((rd_T35 l0 x15_1).f2) ≤ (t111.length : Int)
        ·rw [if_pos c13] at H
         have c13b0 := eq_true c13
         have c13b1 : decide (((rd_T35 l0 x15_1).f2) ≤ (t111.length : Int)) = true := decide_eq_true c13
         clear c13
         obtain ⟨y116, hy116⟩ : ∃ y_ : List Int, y_ = (t111.take (((rd_T35 l0 x15_1).f2) : Int).toNat) := ⟨_, rfl⟩
         replace H : ((trace_Ran.f k1 y116 x15_1).bind fun t120 => ((job_Charge.f ((rd_T35 l0 x15_1).f0) ((rd_T35 l0 x15_1).f1) ((rd_T35 l0 x15_1).f2) ((rd_T35 l0 x15_1).f3) ((rd_T35 l0 x15_1).f4) ((rd_T35 l0 x15_1).f5) ((rd_T35 l0 x15_1).f6) ((rd_T35 l0 x15_1).f7)).bind fun t121 => (if t120 < t121 then (some false) else (edf_Meets.l0 k1 t111 l0 (l0.length : Int) (wrap64 (x15_1 + 1)))))) = some r := by first | (rw [hy116]; with_reducible exact H) | (have H2_ := (Option.bind_some _ _).symm.trans H; rw [hy116]; with_reducible exact H2_) | (have H2_ := (Option.bind_some _ _).symm.trans H; with_reducible exact H2_) | with_reducible exact H | (rw [hy116]; exact H) | exact H
         have Ny116 := Aside0.mk hy116
         clear hy116
         replace H := Option.bind_eq_some_iff.mp H
         obtain ⟨t120, A140, H⟩ := H
         replace H : ((job_Charge.f ((rd_T35 l0 x15_1).f0) ((rd_T35 l0 x15_1).f1) ((rd_T35 l0 x15_1).f2) ((rd_T35 l0 x15_1).f3) ((rd_T35 l0 x15_1).f4) ((rd_T35 l0 x15_1).f5) ((rd_T35 l0 x15_1).f6) ((rd_T35 l0 x15_1).f7)).bind fun t121 => (if t120 < t121 then (some false) else (edf_Meets.l0 k1 t111 l0 (l0.length : Int) (wrap64 (x15_1 + 1))))) = some r := H
         have A14 := Aside0.mk A140
         clear A140
         replace H := Option.bind_eq_some_iff.mp H
         obtain ⟨t121, A150, H⟩ := H
         replace H : (if t120 < t121 then (some false) else (edf_Meets.l0 k1 t111 l0 (l0.length : Int) (wrap64 (x15_1 + 1)))) = some r := H
         have A15 := Aside0.mk A150
         clear A150
         by_cases c16 : t120 < t121
         ·rw [if_pos c16] at H
          have c16b0 : decide (t120 < t121) = true := decide_eq_true c16
          clear c16
          obtain rfl := Option.some.inj H
          have p114 : 0 ≤ (x15_1 : Int) := of_decide_eq_true (by first | (with_reducible assumption) | assumption)
          have q114 : x15_1 < (l0.length : Int) := of_decide_eq_true (by first | (with_reducible assumption) | assumption)
          obtain ⟨ad114, e114, hx114_0, hx114_1, hx114_2, hx114_3, hx114_4, hx114_5, hx114_6, hx114_7⟩ := at_T35 HR0.out x15_1 p114 q114
          cases e114
          replace hx114_0 := (HB.out.cell (World.block_lt_of_cell? w _ hx114_0)).trans hx114_0
          replace hx114_1 := (HB.out.cell (World.block_lt_of_cell? w _ hx114_1)).trans hx114_1
          replace hx114_2 := (HB.out.cell (World.block_lt_of_cell? w _ hx114_2)).trans hx114_2
          replace hx114_3 := (HB.out.cell (World.block_lt_of_cell? w _ hx114_3)).trans hx114_3
          replace hx114_4 := (HB.out.cell (World.block_lt_of_cell? w _ hx114_4)).trans hx114_4
          replace hx114_5 := (HB.out.cell (World.block_lt_of_cell? w _ hx114_5)).trans hx114_5
          replace hx114_6 := (HB.out.cell (World.block_lt_of_cell? w _ hx114_6)).trans hx114_6
          replace hx114_7 := (HB.out.cell (World.block_lt_of_cell? w _ hx114_7)).trans hx114_7
          replace p114 := eq_true p114
          replace q114 := eq_true q114
          try go_wp2_with (first | ((with_reducible refine gate_dst (N := 5) rfl ?_); refine box_event ?hg (N := 5) ?hd (cs := #[.string (⟨#[]⟩ : ByteArray), .int .i64 0, .int .i64 0, .int .i64 0, .int .i64 0, .int .i64 0, .int .i64 0, .bool false]) (t := 35) ?hr ?_; (case hd => rfl); (case hg => rfl); (case hr => first | (go_simp; done) | (go_simp; rfl)); intro gb115 hg w17 hbox hb; have n0_ := Aside0.mk (Kd.R_below (by (with_reducible repeat (first | apply Kd.R_alloc | apply Kd.R_drewN | apply Kd.R_drew)); exact HO_3.out) hb); have n1_ := Aside0.mk (below_step (by repeat (first | (with_reducible first | exact HB.out | apply below_alloc | apply pw_below_drewN | apply below_drew1) | exact HB.out)) hb); have n2_ := Aside0.mk (hbox); have n3_ := Aside0.mk ((by rw [hg]; exact (below_size (by repeat (first | (with_reducible first | exact HB.out | apply below_alloc | apply pw_below_drewN | apply below_drew1) | exact HB.out))) : w.heap.size ≤ gb115)); have n4_ := Aside0.mk ((by rw [hg]; exact (below_size (by repeat (first | (with_reducible first | exact HB.out | apply below_alloc | apply pw_below_drewN | apply below_drew1) | exact HB.out))) : w.heap.size ≤ gb115)); clear HO_3; clear HB; have HO_3 := n0_; have HB := n1_; have BK115 := n2_; have GW115 := n3_; have GE115 := n4_; clear n0_ n1_ n2_ n3_ n4_; clear hb hbox hg; have hcz18_0 : w17.cell? ⟨gb115, 0, none⟩ = some (.string (⟨#[]⟩ : ByteArray)) := (blk_cell BK115.out 0).trans rfl; have hcz18_1 : w17.cell? ⟨gb115, 1, none⟩ = some (.int .i64 0) := (blk_cell BK115.out 1).trans rfl; have hcz18_2 : w17.cell? ⟨gb115, 2, none⟩ = some (.int .i64 0) := (blk_cell BK115.out 2).trans rfl; have hcz18_3 : w17.cell? ⟨gb115, 3, none⟩ = some (.int .i64 0) := (blk_cell BK115.out 3).trans rfl; have hcz18_4 : w17.cell? ⟨gb115, 4, none⟩ = some (.int .i64 0) := (blk_cell BK115.out 4).trans rfl; have hcz18_5 : w17.cell? ⟨gb115, 5, none⟩ = some (.int .i64 0) := (blk_cell BK115.out 5).trans rfl; have hcz18_6 : w17.cell? ⟨gb115, 6, none⟩ = some (.int .i64 0) := (blk_cell BK115.out 6).trans rfl; have hcz18_7 : w17.cell? ⟨gb115, 7, none⟩ = some (.bool false) := (blk_cell BK115.out 7).trans rfl; have hfz18_0 := blk_frozen BK115.out 0; have hfz18_1 := blk_frozen BK115.out 1; have hfz18_2 := blk_frozen BK115.out 2; have hfz18_3 := blk_frozen BK115.out 3; have hfz18_4 := blk_frozen BK115.out 4; have hfz18_5 := blk_frozen BK115.out 5; have hfz18_6 := blk_frozen BK115.out 6; have hfz18_7 := blk_frozen BK115.out 7))
          have n0_ : Aside0 (Kd.R (Kd.int .i64) 3 ((((((((w17.setCell ⟨gb115, 0, none⟩ (.string ((rd_T35 l0 x15_1).f0))).setCell ⟨gb115, 1, none⟩ (.int .i64 ((rd_T35 l0 x15_1).f1))).setCell ⟨gb115, 2, none⟩ (.int .i64 ((rd_T35 l0 x15_1).f2))).setCell ⟨gb115, 3, none⟩ (.int .i64 ((rd_T35 l0 x15_1).f3))).setCell ⟨gb115, 4, none⟩ (.int .i64 ((rd_T35 l0 x15_1).f4))).setCell ⟨gb115, 5, none⟩ (.int .i64 ((rd_T35 l0 x15_1).f5))).setCell ⟨gb115, 6, none⟩ (.int .i64 ((rd_T35 l0 x15_1).f6))).setCell ⟨gb115, 7, none⟩ (.bool ((rd_T35 l0 x15_1).f7))) w.heap.size (fun _ => True) v112 t111) := ⟨by (with_reducible repeat (first | apply Kd.R_alloc | apply Kd.R_drewN | apply Kd.R_drew)); exact Kd.R_mono (Kd.R_far (p := ⟨gb115, 7, none⟩) (Kd.R_far (p := ⟨gb115, 6, none⟩) (Kd.R_far (p := ⟨gb115, 5, none⟩) (Kd.R_far (p := ⟨gb115, 4, none⟩) (Kd.R_far (p := ⟨gb115, 3, none⟩) (Kd.R_far (p := ⟨gb115, 2, none⟩) (Kd.R_far (p := ⟨gb115, 1, none⟩) (Kd.R_far (p := ⟨gb115, 0, none⟩) (Kd.R_types HO_3.out BK115.out (by decide)) (fun _ hk => hk.2) (.string ((rd_T35 l0 x15_1).f0))) (fun _ hk => hk.2) (.int .i64 ((rd_T35 l0 x15_1).f1))) (fun _ hk => hk.2) (.int .i64 ((rd_T35 l0 x15_1).f2))) (fun _ hk => hk.2) (.int .i64 ((rd_T35 l0 x15_1).f3))) (fun _ hk => hk.2) (.int .i64 ((rd_T35 l0 x15_1).f4))) (fun _ hk => hk.2) (.int .i64 ((rd_T35 l0 x15_1).f5))) (fun _ hk => hk.2) (.int .i64 ((rd_T35 l0 x15_1).f6))) (fun _ hk => hk.2) (.bool ((rd_T35 l0 x15_1).f7))) (fun _ hk => trivial)⟩
          have n1_ : Aside0 (((((((((w17.setCell ⟨gb115, 0, none⟩ (.string ((rd_T35 l0 x15_1).f0))).setCell ⟨gb115, 1, none⟩ (.int .i64 ((rd_T35 l0 x15_1).f1))).setCell ⟨gb115, 2, none⟩ (.int .i64 ((rd_T35 l0 x15_1).f2))).setCell ⟨gb115, 3, none⟩ (.int .i64 ((rd_T35 l0 x15_1).f3))).setCell ⟨gb115, 4, none⟩ (.int .i64 ((rd_T35 l0 x15_1).f4))).setCell ⟨gb115, 5, none⟩ (.int .i64 ((rd_T35 l0 x15_1).f5))).setCell ⟨gb115, 6, none⟩ (.int .i64 ((rd_T35 l0 x15_1).f6))).setCell ⟨gb115, 7, none⟩ (.bool ((rd_T35 l0 x15_1).f7))).heap[gb115]? = some (.cells #[.string ((rd_T35 l0 x15_1).f0), .int .i64 ((rd_T35 l0 x15_1).f1), .int .i64 ((rd_T35 l0 x15_1).f2), .int .i64 ((rd_T35 l0 x15_1).f3), .int .i64 ((rd_T35 l0 x15_1).f4), .int .i64 ((rd_T35 l0 x15_1).f5), .int .i64 ((rd_T35 l0 x15_1).f6), .bool ((rd_T35 l0 x15_1).f7)] 35 (0, 0))) := ⟨by (with_reducible repeat (first | refine blk_drewN ?_ _ | refine blk_drew ?_ | refine blk_alloc ?_ _)); refine blk_put (cs := #[.string ((rd_T35 l0 x15_1).f0), .int .i64 ((rd_T35 l0 x15_1).f1), .int .i64 ((rd_T35 l0 x15_1).f2), .int .i64 ((rd_T35 l0 x15_1).f3), .int .i64 ((rd_T35 l0 x15_1).f4), .int .i64 ((rd_T35 l0 x15_1).f5), .int .i64 ((rd_T35 l0 x15_1).f6), .bool false]) ?_ 7 _ rfl; (with_reducible repeat (first | refine blk_drewN ?_ _ | refine blk_drew ?_ | refine blk_alloc ?_ _)); refine blk_put (cs := #[.string ((rd_T35 l0 x15_1).f0), .int .i64 ((rd_T35 l0 x15_1).f1), .int .i64 ((rd_T35 l0 x15_1).f2), .int .i64 ((rd_T35 l0 x15_1).f3), .int .i64 ((rd_T35 l0 x15_1).f4), .int .i64 ((rd_T35 l0 x15_1).f5), .int .i64 0, .bool false]) ?_ 6 _ rfl; (with_reducible repeat (first | refine blk_drewN ?_ _ | refine blk_drew ?_ | refine blk_alloc ?_ _)); refine blk_put (cs := #[.string ((rd_T35 l0 x15_1).f0), .int .i64 ((rd_T35 l0 x15_1).f1), .int .i64 ((rd_T35 l0 x15_1).f2), .int .i64 ((rd_T35 l0 x15_1).f3), .int .i64 ((rd_T35 l0 x15_1).f4), .int .i64 0, .int .i64 0, .bool false]) ?_ 5 _ rfl; (with_reducible repeat (first | refine blk_drewN ?_ _ | refine blk_drew ?_ | refine blk_alloc ?_ _)); refine blk_put (cs := #[.string ((rd_T35 l0 x15_1).f0), .int .i64 ((rd_T35 l0 x15_1).f1), .int .i64 ((rd_T35 l0 x15_1).f2), .int .i64 ((rd_T35 l0 x15_1).f3), .int .i64 0, .int .i64 0, .int .i64 0, .bool false]) ?_ 4 _ rfl; (with_reducible repeat (first | refine blk_drewN ?_ _ | refine blk_drew ?_ | refine blk_alloc ?_ _)); refine blk_put (cs := #[.string ((rd_T35 l0 x15_1).f0), .int .i64 ((rd_T35 l0 x15_1).f1), .int .i64 ((rd_T35 l0 x15_1).f2), .int .i64 0, .int .i64 0, .int .i64 0, .int .i64 0, .bool false]) ?_ 3 _ rfl; (with_reducible repeat (first | refine blk_drewN ?_ _ | refine blk_drew ?_ | refine blk_alloc ?_ _)); refine blk_put (cs := #[.string ((rd_T35 l0 x15_1).f0), .int .i64 ((rd_T35 l0 x15_1).f1), .int .i64 0, .int .i64 0, .int .i64 0, .int .i64 0, .int .i64 0, .bool false]) ?_ 2 _ rfl; (with_reducible repeat (first | refine blk_drewN ?_ _ | refine blk_drew ?_ | refine blk_alloc ?_ _)); refine blk_put (cs := #[.string ((rd_T35 l0 x15_1).f0), .int .i64 0, .int .i64 0, .int .i64 0, .int .i64 0, .int .i64 0, .int .i64 0, .bool false]) ?_ 1 _ rfl; (with_reducible repeat (first | refine blk_drewN ?_ _ | refine blk_drew ?_ | refine blk_alloc ?_ _)); refine blk_put (cs := #[.string (⟨#[]⟩ : ByteArray), .int .i64 0, .int .i64 0, .int .i64 0, .int .i64 0, .int .i64 0, .int .i64 0, .bool false]) ?_ 0 _ rfl; (with_reducible repeat (first | refine blk_drewN ?_ _ | refine blk_drew ?_ | refine blk_alloc ?_ _)); exact BK115.out⟩
          have n2_ : Aside0 (Below w.heap.size w ((((((((w17.setCell ⟨gb115, 0, none⟩ (.string ((rd_T35 l0 x15_1).f0))).setCell ⟨gb115, 1, none⟩ (.int .i64 ((rd_T35 l0 x15_1).f1))).setCell ⟨gb115, 2, none⟩ (.int .i64 ((rd_T35 l0 x15_1).f2))).setCell ⟨gb115, 3, none⟩ (.int .i64 ((rd_T35 l0 x15_1).f3))).setCell ⟨gb115, 4, none⟩ (.int .i64 ((rd_T35 l0 x15_1).f4))).setCell ⟨gb115, 5, none⟩ (.int .i64 ((rd_T35 l0 x15_1).f5))).setCell ⟨gb115, 6, none⟩ (.int .i64 ((rd_T35 l0 x15_1).f6))).setCell ⟨gb115, 7, none⟩ (.bool ((rd_T35 l0 x15_1).f7)))) := ⟨by repeat (first | (with_reducible first | exact HB.out | apply below_alloc | apply pw_below_drewN | apply below_drew1 | refine below_set ?_ GE115.out) | exact HB.out)⟩
          (try clear HO_3)
          (try clear BK115)
          (try clear HB)
          generalize ((((((((w17.setCell ⟨gb115, 0, none⟩ (.string ((rd_T35 l0 x15_1).f0))).setCell ⟨gb115, 1, none⟩ (.int .i64 ((rd_T35 l0 x15_1).f1))).setCell ⟨gb115, 2, none⟩ (.int .i64 ((rd_T35 l0 x15_1).f2))).setCell ⟨gb115, 3, none⟩ (.int .i64 ((rd_T35 l0 x15_1).f3))).setCell ⟨gb115, 4, none⟩ (.int .i64 ((rd_T35 l0 x15_1).f4))).setCell ⟨gb115, 5, none⟩ (.int .i64 ((rd_T35 l0 x15_1).f5))).setCell ⟨gb115, 6, none⟩ (.int .i64 ((rd_T35 l0 x15_1).f6))).setCell ⟨gb115, 7, none⟩ (.bool ((rd_T35 l0 x15_1).f7))) = w19 at n0_ n1_ n2_ ⊢
          have HO_3 := n0_
          have BK115 := n1_
          have HB := n2_
          clear n0_ n1_ n2_
          have n0_ := Aside0.mk (Kd.R_drew HO_3.out)
          have n1_ := Aside0.mk (blk_drew BK115.out)
          have n2_ := Aside0.mk (below_drew1 HB.out)
          clear HO_3
          clear BK115
          clear HB
          have HO_3 := n0_
          have BK115 := n1_
          have HB := n2_
          clear n0_ n1_ n2_
          obtain ⟨Ao22, co22, eo22⟩ := Kd.R_slice HO_3.out
          (first | subst eo22 | (injection eo22 with f1_ f2_ f3_; have f4_ := f1_.symm; have f5_ := f3_.symm; clear f1_ f2_ f3_; subst f4_; subst f5_))
          have q21 : (((rd_T35 l0 x15_1).f2) : Int) ≤ ((t111.length : Int) : Int) := of_decide_eq_true (by first | (with_reducible assumption) | assumption)
          obtain ⟨i021, hi021, _, hsz21, _⟩ := info_parts info3
          have hroom21 : t111.length ≤ co22 := (Kd.R_reads' HO_3.out).2.1
          have hC21 : Kd.C (Kd.int .i64) _ Ao22 t111.length t111 := (Kd.R_reads' HO_3.out).2.2
          have hcut21 := cut_to (P := Tryd.prog) 23 3 .i64 Tryd.underlying23 hi021 Ao22 t111.length co22 ((rd_T35 l0 x15_1).f2) (of_decide_eq_true (by first | (with_reducible assumption) | assumption)) q21 hroom21
          have hr21 := Kd.C_take (m := (((rd_T35 l0 x15_1).f2) : Int).toNat) hC21 (by omega)
          have hy21 : y116.length = (((rd_T35 l0 x15_1).f2) : Int).toNat := (by rw [Ny116.out, List.length_take]; omega)
          rw [← Ny116.out] at hr21
          rw [← hy21] at hcut21
          have HR119 := Aside0.mk hr21
          have HC119 := Aside0.mk (show y116.length ≤ co22 from by omega)
          clear hr21 hC21 hroom21 hi021 hsz21
          have KY21 := Aside0.mk hy21
          clear hy21
          have KL21 := Aside0.mk (show (((rd_T35 l0 x15_1).f2) : Int).toNat ≤ t111.length from by omega)
          replace q21 := eq_true q21
          refine start_ (n := 9) (S := fun w' => w'.cell? ⟨gb115, 0, none⟩ = some (.string ((rd_T35 l0 x15_1).f0)) ∧ w'.cell? ⟨gb115, 1, none⟩ = some (.int .i64 ((rd_T35 l0 x15_1).f1)) ∧ w'.cell? ⟨gb115, 2, none⟩ = some (.int .i64 ((rd_T35 l0 x15_1).f2)) ∧ w'.cell? ⟨gb115, 3, none⟩ = some (.int .i64 ((rd_T35 l0 x15_1).f3)) ∧ w'.cell? ⟨gb115, 4, none⟩ = some (.int .i64 ((rd_T35 l0 x15_1).f4)) ∧ w'.cell? ⟨gb115, 5, none⟩ = some (.int .i64 ((rd_T35 l0 x15_1).f5)) ∧ w'.cell? ⟨gb115, 6, none⟩ = some (.int .i64 ((rd_T35 l0 x15_1).f6)) ∧ w'.cell? ⟨gb115, 7, none⟩ = some (.bool ((rd_T35 l0 x15_1).f7))) (ds := []) #[false, false, false, false, false, false, false, false, false] (by kernel_rfl) rfl rfl ⟨(blk_cell BK115.out 0).trans rfl, (blk_cell BK115.out 1).trans rfl, (blk_cell BK115.out 2).trans rfl, (blk_cell BK115.out 3).trans rfl, (blk_cell BK115.out 4).trans rfl, (blk_cell BK115.out 5).trans rfl, (blk_cell BK115.out 6).trans rfl, (blk_cell BK115.out 7).trans rfl⟩ (fun hHeld => ?_); refine with_tabW edf_Meets.tab7 edf_Meets.bits7 (fun HT_ HW_ => ?_)
          generalize w19.drew = w20 at HO_3 BK115 HB HR119 hHeld ⊢
          refine pure_ (i := 0) (N := some 20) (v := ?_) (a' := ?_) #[true, false, false, false, false, false, false, false, false] rfl rfl (any_of HT_.out (by kernel_rfl)) (fun _ _ _ h => h) (Or.inl ⟨by rfl, ?_⟩) ?_ ?_
          rotate_left
          ·intro w'
           go_simp
           with_reducible rfl
          rotate_left
          ·simp only [Act.put, List.setIfInBounds_toArray, List.set_cons_zero, List.set_cons_succ, i64_w, i32_w]
           rfl
          refine pure_ (i := 1) (N := some 21) (v := ?_) (a' := ?_) #[true, true, false, false, false, false, false, false, false] rfl rfl (any_of HT_.out (by kernel_rfl)) (fun _ _ _ h => h) (Or.inl ⟨by rfl, ?_⟩) ?_ ?_
          rotate_left
          ·intro w'
           go_simp
           with_reducible rfl
          rotate_left
          ·simp only [Act.put, List.setIfInBounds_toArray, List.set_cons_zero, List.set_cons_succ, i64_w, i32_w]
           rfl
          refine pure_ (i := 4) (N := some 24) (v := ?_) (a' := ?_) #[true, true, false, false, true, false, false, false, false] rfl rfl (any_of HT_.out (by kernel_rfl)) (fun _ _ _ h => h) (Or.inl ⟨by rfl, ?_⟩) ?_ ?_
          rotate_left
          ·intro w'
           go_simp
           with_reducible rfl
          rotate_left
          ·simp only [Act.put, List.setIfInBounds_toArray, List.set_cons_zero, List.set_cons_succ, i64_w, i32_w]
           rfl
          refine take_ (i := 2) (N := some 22) (v := ?_) (a' := ?_) #[true, true, true, false, true, false, false, false, false] rfl rfl (take_ofW HT_.out HW_.out (by kernel_rfl)) (fun _ _ _ h => h) (Or.inl ⟨by rfl, ?_⟩) hHeld ?_ ?_
          rotate_left
          ·rintro w' ⟨s0, s1, s2, s3, s4, s5, s6, s7⟩
           go_simp
           with_reducible rfl
          rotate_left
          ·simp only [Act.put, List.setIfInBounds_toArray, List.set_cons_zero, List.set_cons_succ, i64_w, i32_w]
           rfl
          refine pure_ (i := 3) (N := some 23) (v := ?_) (a' := ?_) #[true, true, true, true, true, false, false, false, false] rfl rfl (any_of HT_.out (by kernel_rfl)) (fun _ _ _ h => h) (Or.inl ⟨by rfl, ?_⟩) ?_ ?_
          rotate_left
          ·intro w'
           go_simp
           with_reducible rfl
          rotate_left
          ·simp only [Act.put, List.setIfInBounds_toArray, List.set_cons_zero, List.set_cons_succ, i64_w, i32_w]
           rfl
          refine take_ (i := 6) (N := some 26) (v := ?_) (a' := ?_) #[true, true, true, true, true, false, true, false, false] rfl rfl (take_ofW HT_.out HW_.out (by kernel_rfl)) (fun _ _ _ h => h) (Or.inl ⟨by rfl, ?_⟩) hHeld ?_ ?_
          rotate_left
          ·rintro w' ⟨s0, s1, s2, s3, s4, s5, s6, s7⟩
           go_simp
           with_reducible rfl
          rotate_left
          ·simp only [Act.put, List.setIfInBounds_toArray, List.set_cons_zero, List.set_cons_succ, i64_w, i32_w]
           rfl
          refine one_ (i := 5) (N := some 25) #[true, true, true, true, true, true, true, false, false] rfl rfl (one_of HT_.out (by kernel_rfl)) (by decide) (fun K hK => ?_)
          refine goes_ Tryd.func48 (by kernel_rfl) rfl #[.slice Ao22 y116.length co22, .int .i64 x15_1] (by rfl) rfl rfl (by (try simp only [List.map_toArray, List.map_cons, List.map_nil]); first | done | rfl | (simp only [List.length_drop, List.length_take]; rfl)) ?_
          with_reducible refine (trace_Ran.calls k1 _ _ y116 x15_1 t120 _ ?side1 ?side2 A14.out).mono ?_
          (case side1 => repeat (first | exact (by repeat (first | (with_reducible exact HR119.out) | (with_reducible refine Kd.C_alloc ?_ _) | (with_reducible refine Kd.C_drewN ?_ _) | (with_reducible refine Kd.C_drew ?_) | exact HR119.out)) | (with_reducible refine Kd.C_alloc ?_ _) | (with_reducible refine Kd.C_drewN ?_ _) | (with_reducible refine Kd.C_drew ?_)))
          (case side2 => exact HC119.out)
          rintro e w' ⟨rfl, ⟨nd, rfl⟩⟩
          refine ⟨_, rfl, ?_⟩
          refine hK.out _ _ ⟨(blk_cell BK115.out 0).trans rfl, (blk_cell BK115.out 1).trans rfl, (blk_cell BK115.out 2).trans rfl, (blk_cell BK115.out 3).trans rfl, (blk_cell BK115.out 4).trans rfl, (blk_cell BK115.out 5).trans rfl, (blk_cell BK115.out 6).trans rfl, (blk_cell BK115.out 7).trans rfl⟩ (fun hHeld => ?_)
          clear hK K
          refine norm_ (a' := ?_) ?_ ?_
          rotate_left
          ·show Act.put _ (some 25) _ = _
           simp only [Act.put, List.setIfInBounds_toArray, List.set_cons_zero, List.set_cons_succ, i64_w, i32_w]
           rfl
          refine one_ (i := 7) (N := some 27) #[true, true, true, true, true, true, true, true, false] rfl rfl (one_of HT_.out (by kernel_rfl)) (by decide) (fun K hK => ?_)
          refine goes_ Tryd.func47 (by kernel_rfl) rfl #[.agg #[.string ((rd_T35 l0 x15_1).f0), .int .i64 ((rd_T35 l0 x15_1).f1), .int .i64 ((rd_T35 l0 x15_1).f2), .int .i64 ((rd_T35 l0 x15_1).f3), .int .i64 ((rd_T35 l0 x15_1).f4), .int .i64 ((rd_T35 l0 x15_1).f5), .int .i64 ((rd_T35 l0 x15_1).f6), .bool ((rd_T35 l0 x15_1).f7)]] (by rfl) rfl rfl (by (try simp only [List.map_toArray, List.map_cons, List.map_nil]); first | done | rfl | (simp only [List.length_drop, List.length_take]; rfl)) ?_
          with_reducible refine (job_Charge.calls ((rd_T35 l0 x15_1).f0) ((rd_T35 l0 x15_1).f1) ((rd_T35 l0 x15_1).f2) ((rd_T35 l0 x15_1).f3) ((rd_T35 l0 x15_1).f4) ((rd_T35 l0 x15_1).f5) ((rd_T35 l0 x15_1).f6) ((rd_T35 l0 x15_1).f7) t121 _ (tab_below HTb.out (by repeat (first | (with_reducible first | exact HB.out | apply below_alloc | apply pw_below_drewN | apply below_drew1) | exact HB.out))) A15.out).mono ?_
          rintro e w23 ⟨rfl, hb⟩
          refine ⟨_, rfl, ?_⟩
          have n0_ := Aside0.mk (Kd.R_below (by (with_reducible repeat (first | apply Kd.R_alloc | apply Kd.R_drewN | apply Kd.R_drew)); exact HO_3.out) hb)
          have n1_ := Aside0.mk (blk_below (g := gb115) (o := .cells #[.string ((rd_T35 l0 x15_1).f0), .int .i64 ((rd_T35 l0 x15_1).f1), .int .i64 ((rd_T35 l0 x15_1).f2), .int .i64 ((rd_T35 l0 x15_1).f3), .int .i64 ((rd_T35 l0 x15_1).f4), .int .i64 ((rd_T35 l0 x15_1).f5), .int .i64 ((rd_T35 l0 x15_1).f6), .bool ((rd_T35 l0 x15_1).f7)] 35 (0, 0)) (by (with_reducible repeat (first | refine blk_drewN ?_ _ | refine blk_drew ?_ | refine blk_alloc ?_ _)); exact BK115.out) hb)
          have n2_ := Aside0.mk (Kd.C_below (by repeat (first | (with_reducible exact HR119.out) | (with_reducible refine Kd.C_alloc ?_ _) | (with_reducible refine Kd.C_drewN ?_ _) | (with_reducible refine Kd.C_drew ?_) | exact HR119.out)) hb)
          have n3_ := Aside0.mk (below_step (by repeat (first | (with_reducible first | exact HB.out | apply below_alloc | apply pw_below_drewN | apply below_drew1 | refine below_set ?_ GE115.out) | exact HB.out)) hb)
          clear HO_3
          clear BK115
          clear HR119
          clear HB
          have HO_3 := n0_
          have BK115 := n1_
          have HR119 := n2_
          have HB := n3_
          clear n0_ n1_ n2_ n3_
          (try clear hb)
          (try clear hb2)
          (try clear hk)
          (try clear hi)
          refine hK.out _ _ ⟨(blk_cell BK115.out 0).trans rfl, (blk_cell BK115.out 1).trans rfl, (blk_cell BK115.out 2).trans rfl, (blk_cell BK115.out 3).trans rfl, (blk_cell BK115.out 4).trans rfl, (blk_cell BK115.out 5).trans rfl, (blk_cell BK115.out 6).trans rfl, (blk_cell BK115.out 7).trans rfl⟩ (fun hHeld => ?_)
          clear hK K
          refine norm_ (a' := ?_) ?_ ?_
          rotate_left
          ·show Act.put _ (some 27) _ = _
           simp only [Act.put, List.setIfInBounds_toArray, List.set_cons_zero, List.set_cons_succ, i64_w, i32_w]
           rfl
          refine pure_ (i := 8) (N := some 28) (v := ?_) (a' := ?_) #[true, true, true, true, true, true, true, true, true] rfl rfl (any_of HT_.out (by kernel_rfl)) (fun _ _ _ h => h) (Or.inl ⟨by rfl, ?_⟩) ?_ ?_
          rotate_left
          ·intro w'
           go_simp
           with_reducible rfl
          rotate_left
          ·simp only [Act.put, List.setIfInBounds_toArray, List.set_cons_zero, List.set_cons_succ, i64_w, i32_w]
           rfl
          refine done_ (done_of HT_.out (by kernel_rfl)) ?_
          try go_wp2
          go_ret
          exact ⟨by first | rfl | (simp [errW_none, errW_some] <;> rfl) | (simp [*, errW_none, errW_some] <;> rfl), by repeat (first | (with_reducible first | exact HB.out | apply below_alloc | apply pw_below_drewN | apply below_drew1 | refine below_set ?_ GE115.out) | exact HB.out)⟩
         ·rw [if_neg c16] at H
          have c16b0 : decide (t120 < t121) = false := decide_eq_false c16
          clear c16
          have H' := Aside0.mk H
          clear H
          have p114 : 0 ≤ (x15_1 : Int) := of_decide_eq_true (by first | (with_reducible assumption) | assumption)
          have q114 : x15_1 < (l0.length : Int) := of_decide_eq_true (by first | (with_reducible assumption) | assumption)
          obtain ⟨ad114, e114, hx114_0, hx114_1, hx114_2, hx114_3, hx114_4, hx114_5, hx114_6, hx114_7⟩ := at_T35 HR0.out x15_1 p114 q114
          cases e114
          replace hx114_0 := (HB.out.cell (World.block_lt_of_cell? w _ hx114_0)).trans hx114_0
          replace hx114_1 := (HB.out.cell (World.block_lt_of_cell? w _ hx114_1)).trans hx114_1
          replace hx114_2 := (HB.out.cell (World.block_lt_of_cell? w _ hx114_2)).trans hx114_2
          replace hx114_3 := (HB.out.cell (World.block_lt_of_cell? w _ hx114_3)).trans hx114_3
          replace hx114_4 := (HB.out.cell (World.block_lt_of_cell? w _ hx114_4)).trans hx114_4
          replace hx114_5 := (HB.out.cell (World.block_lt_of_cell? w _ hx114_5)).trans hx114_5
          replace hx114_6 := (HB.out.cell (World.block_lt_of_cell? w _ hx114_6)).trans hx114_6
          replace hx114_7 := (HB.out.cell (World.block_lt_of_cell? w _ hx114_7)).trans hx114_7
          replace p114 := eq_true p114
          replace q114 := eq_true q114
          try go_wp2_with (first | ((with_reducible refine gate_dst (N := 5) rfl ?_); refine box_event ?hg (N := 5) ?hd (cs := #[.string (⟨#[]⟩ : ByteArray), .int .i64 0, .int .i64 0, .int .i64 0, .int .i64 0, .int .i64 0, .int .i64 0, .bool false]) (t := 35) ?hr ?_; (case hd => rfl); (case hg => rfl); (case hr => first | (go_simp; done) | (go_simp; rfl)); intro gb115 hg w24 hbox hb; have n0_ := Aside0.mk (Kd.R_below (by (with_reducible repeat (first | apply Kd.R_alloc | apply Kd.R_drewN | apply Kd.R_drew)); exact HO_3.out) hb); have n1_ := Aside0.mk (below_step (by repeat (first | (with_reducible first | exact HB.out | apply below_alloc | apply pw_below_drewN | apply below_drew1) | exact HB.out)) hb); have n2_ := Aside0.mk (hbox); have n3_ := Aside0.mk ((by rw [hg]; exact (below_size (by repeat (first | (with_reducible first | exact HB.out | apply below_alloc | apply pw_below_drewN | apply below_drew1) | exact HB.out))) : w.heap.size ≤ gb115)); have n4_ := Aside0.mk ((by rw [hg]; exact (below_size (by repeat (first | (with_reducible first | exact HB.out | apply below_alloc | apply pw_below_drewN | apply below_drew1) | exact HB.out))) : w.heap.size ≤ gb115)); clear HO_3; clear HB; have HO_3 := n0_; have HB := n1_; have BK115 := n2_; have GW115 := n3_; have GE115 := n4_; clear n0_ n1_ n2_ n3_ n4_; clear hb hbox hg; have hcz25_0 : w24.cell? ⟨gb115, 0, none⟩ = some (.string (⟨#[]⟩ : ByteArray)) := (blk_cell BK115.out 0).trans rfl; have hcz25_1 : w24.cell? ⟨gb115, 1, none⟩ = some (.int .i64 0) := (blk_cell BK115.out 1).trans rfl; have hcz25_2 : w24.cell? ⟨gb115, 2, none⟩ = some (.int .i64 0) := (blk_cell BK115.out 2).trans rfl; have hcz25_3 : w24.cell? ⟨gb115, 3, none⟩ = some (.int .i64 0) := (blk_cell BK115.out 3).trans rfl; have hcz25_4 : w24.cell? ⟨gb115, 4, none⟩ = some (.int .i64 0) := (blk_cell BK115.out 4).trans rfl; have hcz25_5 : w24.cell? ⟨gb115, 5, none⟩ = some (.int .i64 0) := (blk_cell BK115.out 5).trans rfl; have hcz25_6 : w24.cell? ⟨gb115, 6, none⟩ = some (.int .i64 0) := (blk_cell BK115.out 6).trans rfl; have hcz25_7 : w24.cell? ⟨gb115, 7, none⟩ = some (.bool false) := (blk_cell BK115.out 7).trans rfl; have hfz25_0 := blk_frozen BK115.out 0; have hfz25_1 := blk_frozen BK115.out 1; have hfz25_2 := blk_frozen BK115.out 2; have hfz25_3 := blk_frozen BK115.out 3; have hfz25_4 := blk_frozen BK115.out 4; have hfz25_5 := blk_frozen BK115.out 5; have hfz25_6 := blk_frozen BK115.out 6; have hfz25_7 := blk_frozen BK115.out 7))
          have n0_ : Aside0 (Kd.R (Kd.int .i64) 3 ((((((((w24.setCell ⟨gb115, 0, none⟩ (.string ((rd_T35 l0 x15_1).f0))).setCell ⟨gb115, 1, none⟩ (.int .i64 ((rd_T35 l0 x15_1).f1))).setCell ⟨gb115, 2, none⟩ (.int .i64 ((rd_T35 l0 x15_1).f2))).setCell ⟨gb115, 3, none⟩ (.int .i64 ((rd_T35 l0 x15_1).f3))).setCell ⟨gb115, 4, none⟩ (.int .i64 ((rd_T35 l0 x15_1).f4))).setCell ⟨gb115, 5, none⟩ (.int .i64 ((rd_T35 l0 x15_1).f5))).setCell ⟨gb115, 6, none⟩ (.int .i64 ((rd_T35 l0 x15_1).f6))).setCell ⟨gb115, 7, none⟩ (.bool ((rd_T35 l0 x15_1).f7))) w.heap.size (fun _ => True) v112 t111) := ⟨by (with_reducible repeat (first | apply Kd.R_alloc | apply Kd.R_drewN | apply Kd.R_drew)); exact Kd.R_mono (Kd.R_far (p := ⟨gb115, 7, none⟩) (Kd.R_far (p := ⟨gb115, 6, none⟩) (Kd.R_far (p := ⟨gb115, 5, none⟩) (Kd.R_far (p := ⟨gb115, 4, none⟩) (Kd.R_far (p := ⟨gb115, 3, none⟩) (Kd.R_far (p := ⟨gb115, 2, none⟩) (Kd.R_far (p := ⟨gb115, 1, none⟩) (Kd.R_far (p := ⟨gb115, 0, none⟩) (Kd.R_types HO_3.out BK115.out (by decide)) (fun _ hk => hk.2) (.string ((rd_T35 l0 x15_1).f0))) (fun _ hk => hk.2) (.int .i64 ((rd_T35 l0 x15_1).f1))) (fun _ hk => hk.2) (.int .i64 ((rd_T35 l0 x15_1).f2))) (fun _ hk => hk.2) (.int .i64 ((rd_T35 l0 x15_1).f3))) (fun _ hk => hk.2) (.int .i64 ((rd_T35 l0 x15_1).f4))) (fun _ hk => hk.2) (.int .i64 ((rd_T35 l0 x15_1).f5))) (fun _ hk => hk.2) (.int .i64 ((rd_T35 l0 x15_1).f6))) (fun _ hk => hk.2) (.bool ((rd_T35 l0 x15_1).f7))) (fun _ hk => trivial)⟩
          have n1_ : Aside0 (((((((((w24.setCell ⟨gb115, 0, none⟩ (.string ((rd_T35 l0 x15_1).f0))).setCell ⟨gb115, 1, none⟩ (.int .i64 ((rd_T35 l0 x15_1).f1))).setCell ⟨gb115, 2, none⟩ (.int .i64 ((rd_T35 l0 x15_1).f2))).setCell ⟨gb115, 3, none⟩ (.int .i64 ((rd_T35 l0 x15_1).f3))).setCell ⟨gb115, 4, none⟩ (.int .i64 ((rd_T35 l0 x15_1).f4))).setCell ⟨gb115, 5, none⟩ (.int .i64 ((rd_T35 l0 x15_1).f5))).setCell ⟨gb115, 6, none⟩ (.int .i64 ((rd_T35 l0 x15_1).f6))).setCell ⟨gb115, 7, none⟩ (.bool ((rd_T35 l0 x15_1).f7))).heap[gb115]? = some (.cells #[.string ((rd_T35 l0 x15_1).f0), .int .i64 ((rd_T35 l0 x15_1).f1), .int .i64 ((rd_T35 l0 x15_1).f2), .int .i64 ((rd_T35 l0 x15_1).f3), .int .i64 ((rd_T35 l0 x15_1).f4), .int .i64 ((rd_T35 l0 x15_1).f5), .int .i64 ((rd_T35 l0 x15_1).f6), .bool ((rd_T35 l0 x15_1).f7)] 35 (0, 0))) := ⟨by (with_reducible repeat (first | refine blk_drewN ?_ _ | refine blk_drew ?_ | refine blk_alloc ?_ _)); refine blk_put (cs := #[.string ((rd_T35 l0 x15_1).f0), .int .i64 ((rd_T35 l0 x15_1).f1), .int .i64 ((rd_T35 l0 x15_1).f2), .int .i64 ((rd_T35 l0 x15_1).f3), .int .i64 ((rd_T35 l0 x15_1).f4), .int .i64 ((rd_T35 l0 x15_1).f5), .int .i64 ((rd_T35 l0 x15_1).f6), .bool false]) ?_ 7 _ rfl; (with_reducible repeat (first | refine blk_drewN ?_ _ | refine blk_drew ?_ | refine blk_alloc ?_ _)); refine blk_put (cs := #[.string ((rd_T35 l0 x15_1).f0), .int .i64 ((rd_T35 l0 x15_1).f1), .int .i64 ((rd_T35 l0 x15_1).f2), .int .i64 ((rd_T35 l0 x15_1).f3), .int .i64 ((rd_T35 l0 x15_1).f4), .int .i64 ((rd_T35 l0 x15_1).f5), .int .i64 0, .bool false]) ?_ 6 _ rfl; (with_reducible repeat (first | refine blk_drewN ?_ _ | refine blk_drew ?_ | refine blk_alloc ?_ _)); refine blk_put (cs := #[.string ((rd_T35 l0 x15_1).f0), .int .i64 ((rd_T35 l0 x15_1).f1), .int .i64 ((rd_T35 l0 x15_1).f2), .int .i64 ((rd_T35 l0 x15_1).f3), .int .i64 ((rd_T35 l0 x15_1).f4), .int .i64 0, .int .i64 0, .bool false]) ?_ 5 _ rfl; (with_reducible repeat (first | refine blk_drewN ?_ _ | refine blk_drew ?_ | refine blk_alloc ?_ _)); refine blk_put (cs := #[.string ((rd_T35 l0 x15_1).f0), .int .i64 ((rd_T35 l0 x15_1).f1), .int .i64 ((rd_T35 l0 x15_1).f2), .int .i64 ((rd_T35 l0 x15_1).f3), .int .i64 0, .int .i64 0, .int .i64 0, .bool false]) ?_ 4 _ rfl; (with_reducible repeat (first | refine blk_drewN ?_ _ | refine blk_drew ?_ | refine blk_alloc ?_ _)); refine blk_put (cs := #[.string ((rd_T35 l0 x15_1).f0), .int .i64 ((rd_T35 l0 x15_1).f1), .int .i64 ((rd_T35 l0 x15_1).f2), .int .i64 0, .int .i64 0, .int .i64 0, .int .i64 0, .bool false]) ?_ 3 _ rfl; (with_reducible repeat (first | refine blk_drewN ?_ _ | refine blk_drew ?_ | refine blk_alloc ?_ _)); refine blk_put (cs := #[.string ((rd_T35 l0 x15_1).f0), .int .i64 ((rd_T35 l0 x15_1).f1), .int .i64 0, .int .i64 0, .int .i64 0, .int .i64 0, .int .i64 0, .bool false]) ?_ 2 _ rfl; (with_reducible repeat (first | refine blk_drewN ?_ _ | refine blk_drew ?_ | refine blk_alloc ?_ _)); refine blk_put (cs := #[.string ((rd_T35 l0 x15_1).f0), .int .i64 0, .int .i64 0, .int .i64 0, .int .i64 0, .int .i64 0, .int .i64 0, .bool false]) ?_ 1 _ rfl; (with_reducible repeat (first | refine blk_drewN ?_ _ | refine blk_drew ?_ | refine blk_alloc ?_ _)); refine blk_put (cs := #[.string (⟨#[]⟩ : ByteArray), .int .i64 0, .int .i64 0, .int .i64 0, .int .i64 0, .int .i64 0, .int .i64 0, .bool false]) ?_ 0 _ rfl; (with_reducible repeat (first | refine blk_drewN ?_ _ | refine blk_drew ?_ | refine blk_alloc ?_ _)); exact BK115.out⟩
          have n2_ : Aside0 (Below w.heap.size w ((((((((w24.setCell ⟨gb115, 0, none⟩ (.string ((rd_T35 l0 x15_1).f0))).setCell ⟨gb115, 1, none⟩ (.int .i64 ((rd_T35 l0 x15_1).f1))).setCell ⟨gb115, 2, none⟩ (.int .i64 ((rd_T35 l0 x15_1).f2))).setCell ⟨gb115, 3, none⟩ (.int .i64 ((rd_T35 l0 x15_1).f3))).setCell ⟨gb115, 4, none⟩ (.int .i64 ((rd_T35 l0 x15_1).f4))).setCell ⟨gb115, 5, none⟩ (.int .i64 ((rd_T35 l0 x15_1).f5))).setCell ⟨gb115, 6, none⟩ (.int .i64 ((rd_T35 l0 x15_1).f6))).setCell ⟨gb115, 7, none⟩ (.bool ((rd_T35 l0 x15_1).f7)))) := ⟨by repeat (first | (with_reducible first | exact HB.out | apply below_alloc | apply pw_below_drewN | apply below_drew1 | refine below_set ?_ GE115.out) | exact HB.out)⟩
          (try clear HO_3)
          (try clear BK115)
          (try clear HB)
          generalize ((((((((w24.setCell ⟨gb115, 0, none⟩ (.string ((rd_T35 l0 x15_1).f0))).setCell ⟨gb115, 1, none⟩ (.int .i64 ((rd_T35 l0 x15_1).f1))).setCell ⟨gb115, 2, none⟩ (.int .i64 ((rd_T35 l0 x15_1).f2))).setCell ⟨gb115, 3, none⟩ (.int .i64 ((rd_T35 l0 x15_1).f3))).setCell ⟨gb115, 4, none⟩ (.int .i64 ((rd_T35 l0 x15_1).f4))).setCell ⟨gb115, 5, none⟩ (.int .i64 ((rd_T35 l0 x15_1).f5))).setCell ⟨gb115, 6, none⟩ (.int .i64 ((rd_T35 l0 x15_1).f6))).setCell ⟨gb115, 7, none⟩ (.bool ((rd_T35 l0 x15_1).f7))) = w26 at n0_ n1_ n2_ ⊢
          have HO_3 := n0_
          have BK115 := n1_
          have HB := n2_
          clear n0_ n1_ n2_
          have n0_ := Aside0.mk (Kd.R_drew HO_3.out)
          have n1_ := Aside0.mk (blk_drew BK115.out)
          have n2_ := Aside0.mk (below_drew1 HB.out)
          clear HO_3
          clear BK115
          clear HB
          have HO_3 := n0_
          have BK115 := n1_
          have HB := n2_
          clear n0_ n1_ n2_
          obtain ⟨Ao29, co29, eo29⟩ := Kd.R_slice HO_3.out
          (first | subst eo29 | (injection eo29 with f1_ f2_ f3_; have f4_ := f1_.symm; have f5_ := f3_.symm; clear f1_ f2_ f3_; subst f4_; subst f5_))
          have q28 : (((rd_T35 l0 x15_1).f2) : Int) ≤ ((t111.length : Int) : Int) := of_decide_eq_true (by first | (with_reducible assumption) | assumption)
          obtain ⟨i028, hi028, _, hsz28, _⟩ := info_parts info3
          have hroom28 : t111.length ≤ co29 := (Kd.R_reads' HO_3.out).2.1
          have hC28 : Kd.C (Kd.int .i64) _ Ao29 t111.length t111 := (Kd.R_reads' HO_3.out).2.2
          have hcut28 := cut_to (P := Tryd.prog) 23 3 .i64 Tryd.underlying23 hi028 Ao29 t111.length co29 ((rd_T35 l0 x15_1).f2) (of_decide_eq_true (by first | (with_reducible assumption) | assumption)) q28 hroom28
          have hr28 := Kd.C_take (m := (((rd_T35 l0 x15_1).f2) : Int).toNat) hC28 (by omega)
          have hy28 : y116.length = (((rd_T35 l0 x15_1).f2) : Int).toNat := (by rw [Ny116.out, List.length_take]; omega)
          rw [← Ny116.out] at hr28
          rw [← hy28] at hcut28
          have HR119 := Aside0.mk hr28
          have HC119 := Aside0.mk (show y116.length ≤ co29 from by omega)
          clear hr28 hC28 hroom28 hi028 hsz28
          have KY28 := Aside0.mk hy28
          clear hy28
          have KL28 := Aside0.mk (show (((rd_T35 l0 x15_1).f2) : Int).toNat ≤ t111.length from by omega)
          replace q28 := eq_true q28
          refine start_ (n := 9) (S := fun w' => w'.cell? ⟨gb115, 0, none⟩ = some (.string ((rd_T35 l0 x15_1).f0)) ∧ w'.cell? ⟨gb115, 1, none⟩ = some (.int .i64 ((rd_T35 l0 x15_1).f1)) ∧ w'.cell? ⟨gb115, 2, none⟩ = some (.int .i64 ((rd_T35 l0 x15_1).f2)) ∧ w'.cell? ⟨gb115, 3, none⟩ = some (.int .i64 ((rd_T35 l0 x15_1).f3)) ∧ w'.cell? ⟨gb115, 4, none⟩ = some (.int .i64 ((rd_T35 l0 x15_1).f4)) ∧ w'.cell? ⟨gb115, 5, none⟩ = some (.int .i64 ((rd_T35 l0 x15_1).f5)) ∧ w'.cell? ⟨gb115, 6, none⟩ = some (.int .i64 ((rd_T35 l0 x15_1).f6)) ∧ w'.cell? ⟨gb115, 7, none⟩ = some (.bool ((rd_T35 l0 x15_1).f7))) (ds := []) #[false, false, false, false, false, false, false, false, false] (by kernel_rfl) rfl rfl ⟨(blk_cell BK115.out 0).trans rfl, (blk_cell BK115.out 1).trans rfl, (blk_cell BK115.out 2).trans rfl, (blk_cell BK115.out 3).trans rfl, (blk_cell BK115.out 4).trans rfl, (blk_cell BK115.out 5).trans rfl, (blk_cell BK115.out 6).trans rfl, (blk_cell BK115.out 7).trans rfl⟩ (fun hHeld => ?_); refine with_tabW edf_Meets.tab7 edf_Meets.bits7 (fun HT_ HW_ => ?_)
          generalize w26.drew = w27 at HO_3 BK115 HB HR119 hHeld ⊢
          refine pure_ (i := 0) (N := some 20) (v := ?_) (a' := ?_) #[true, false, false, false, false, false, false, false, false] rfl rfl (any_of HT_.out (by kernel_rfl)) (fun _ _ _ h => h) (Or.inl ⟨by rfl, ?_⟩) ?_ ?_
          rotate_left
          ·intro w'
           go_simp
           with_reducible rfl
          rotate_left
          ·simp only [Act.put, List.setIfInBounds_toArray, List.set_cons_zero, List.set_cons_succ, i64_w, i32_w]
           rfl
          refine pure_ (i := 1) (N := some 21) (v := ?_) (a' := ?_) #[true, true, false, false, false, false, false, false, false] rfl rfl (any_of HT_.out (by kernel_rfl)) (fun _ _ _ h => h) (Or.inl ⟨by rfl, ?_⟩) ?_ ?_
          rotate_left
          ·intro w'
           go_simp
           with_reducible rfl
          rotate_left
          ·simp only [Act.put, List.setIfInBounds_toArray, List.set_cons_zero, List.set_cons_succ, i64_w, i32_w]
           rfl
          refine pure_ (i := 4) (N := some 24) (v := ?_) (a' := ?_) #[true, true, false, false, true, false, false, false, false] rfl rfl (any_of HT_.out (by kernel_rfl)) (fun _ _ _ h => h) (Or.inl ⟨by rfl, ?_⟩) ?_ ?_
          rotate_left
          ·intro w'
           go_simp
           with_reducible rfl
          rotate_left
          ·simp only [Act.put, List.setIfInBounds_toArray, List.set_cons_zero, List.set_cons_succ, i64_w, i32_w]
           rfl
          refine take_ (i := 2) (N := some 22) (v := ?_) (a' := ?_) #[true, true, true, false, true, false, false, false, false] rfl rfl (take_ofW HT_.out HW_.out (by kernel_rfl)) (fun _ _ _ h => h) (Or.inl ⟨by rfl, ?_⟩) hHeld ?_ ?_
          rotate_left
          ·rintro w' ⟨s0, s1, s2, s3, s4, s5, s6, s7⟩
           go_simp
           with_reducible rfl
          rotate_left
          ·simp only [Act.put, List.setIfInBounds_toArray, List.set_cons_zero, List.set_cons_succ, i64_w, i32_w]
           rfl
          refine pure_ (i := 3) (N := some 23) (v := ?_) (a' := ?_) #[true, true, true, true, true, false, false, false, false] rfl rfl (any_of HT_.out (by kernel_rfl)) (fun _ _ _ h => h) (Or.inl ⟨by rfl, ?_⟩) ?_ ?_
          rotate_left
          ·intro w'
           go_simp
           with_reducible rfl
          rotate_left
          ·simp only [Act.put, List.setIfInBounds_toArray, List.set_cons_zero, List.set_cons_succ, i64_w, i32_w]
           rfl
          refine take_ (i := 6) (N := some 26) (v := ?_) (a' := ?_) #[true, true, true, true, true, false, true, false, false] rfl rfl (take_ofW HT_.out HW_.out (by kernel_rfl)) (fun _ _ _ h => h) (Or.inl ⟨by rfl, ?_⟩) hHeld ?_ ?_
          rotate_left
          ·rintro w' ⟨s0, s1, s2, s3, s4, s5, s6, s7⟩
           go_simp
           with_reducible rfl
          rotate_left
          ·simp only [Act.put, List.setIfInBounds_toArray, List.set_cons_zero, List.set_cons_succ, i64_w, i32_w]
           rfl
          refine one_ (i := 5) (N := some 25) #[true, true, true, true, true, true, true, false, false] rfl rfl (one_of HT_.out (by kernel_rfl)) (by decide) (fun K hK => ?_)
          refine goes_ Tryd.func48 (by kernel_rfl) rfl #[.slice Ao29 y116.length co29, .int .i64 x15_1] (by rfl) rfl rfl (by (try simp only [List.map_toArray, List.map_cons, List.map_nil]); first | done | rfl | (simp only [List.length_drop, List.length_take]; rfl)) ?_
          with_reducible refine (trace_Ran.calls k1 _ _ y116 x15_1 t120 _ ?side1 ?side2 A14.out).mono ?_
          (case side1 => repeat (first | exact (by repeat (first | (with_reducible exact HR119.out) | (with_reducible refine Kd.C_alloc ?_ _) | (with_reducible refine Kd.C_drewN ?_ _) | (with_reducible refine Kd.C_drew ?_) | exact HR119.out)) | (with_reducible refine Kd.C_alloc ?_ _) | (with_reducible refine Kd.C_drewN ?_ _) | (with_reducible refine Kd.C_drew ?_)))
          (case side2 => exact HC119.out)
          rintro e w' ⟨rfl, ⟨nd, rfl⟩⟩
          refine ⟨_, rfl, ?_⟩
          refine hK.out _ _ ⟨(blk_cell BK115.out 0).trans rfl, (blk_cell BK115.out 1).trans rfl, (blk_cell BK115.out 2).trans rfl, (blk_cell BK115.out 3).trans rfl, (blk_cell BK115.out 4).trans rfl, (blk_cell BK115.out 5).trans rfl, (blk_cell BK115.out 6).trans rfl, (blk_cell BK115.out 7).trans rfl⟩ (fun hHeld => ?_)
          clear hK K
          refine norm_ (a' := ?_) ?_ ?_
          rotate_left
          ·show Act.put _ (some 25) _ = _
           simp only [Act.put, List.setIfInBounds_toArray, List.set_cons_zero, List.set_cons_succ, i64_w, i32_w]
           rfl
          refine one_ (i := 7) (N := some 27) #[true, true, true, true, true, true, true, true, false] rfl rfl (one_of HT_.out (by kernel_rfl)) (by decide) (fun K hK => ?_)
          refine goes_ Tryd.func47 (by kernel_rfl) rfl #[.agg #[.string ((rd_T35 l0 x15_1).f0), .int .i64 ((rd_T35 l0 x15_1).f1), .int .i64 ((rd_T35 l0 x15_1).f2), .int .i64 ((rd_T35 l0 x15_1).f3), .int .i64 ((rd_T35 l0 x15_1).f4), .int .i64 ((rd_T35 l0 x15_1).f5), .int .i64 ((rd_T35 l0 x15_1).f6), .bool ((rd_T35 l0 x15_1).f7)]] (by rfl) rfl rfl (by (try simp only [List.map_toArray, List.map_cons, List.map_nil]); first | done | rfl | (simp only [List.length_drop, List.length_take]; rfl)) ?_
          with_reducible refine (job_Charge.calls ((rd_T35 l0 x15_1).f0) ((rd_T35 l0 x15_1).f1) ((rd_T35 l0 x15_1).f2) ((rd_T35 l0 x15_1).f3) ((rd_T35 l0 x15_1).f4) ((rd_T35 l0 x15_1).f5) ((rd_T35 l0 x15_1).f6) ((rd_T35 l0 x15_1).f7) t121 _ (tab_below HTb.out (by repeat (first | (with_reducible first | exact HB.out | apply below_alloc | apply pw_below_drewN | apply below_drew1) | exact HB.out))) A15.out).mono ?_
          rintro e w30 ⟨rfl, hb⟩
          refine ⟨_, rfl, ?_⟩
          have n0_ := Aside0.mk (Kd.R_below (by (with_reducible repeat (first | apply Kd.R_alloc | apply Kd.R_drewN | apply Kd.R_drew)); exact HO_3.out) hb)
          have n1_ := Aside0.mk (blk_below (g := gb115) (o := .cells #[.string ((rd_T35 l0 x15_1).f0), .int .i64 ((rd_T35 l0 x15_1).f1), .int .i64 ((rd_T35 l0 x15_1).f2), .int .i64 ((rd_T35 l0 x15_1).f3), .int .i64 ((rd_T35 l0 x15_1).f4), .int .i64 ((rd_T35 l0 x15_1).f5), .int .i64 ((rd_T35 l0 x15_1).f6), .bool ((rd_T35 l0 x15_1).f7)] 35 (0, 0)) (by (with_reducible repeat (first | refine blk_drewN ?_ _ | refine blk_drew ?_ | refine blk_alloc ?_ _)); exact BK115.out) hb)
          have n2_ := Aside0.mk (Kd.C_below (by repeat (first | (with_reducible exact HR119.out) | (with_reducible refine Kd.C_alloc ?_ _) | (with_reducible refine Kd.C_drewN ?_ _) | (with_reducible refine Kd.C_drew ?_) | exact HR119.out)) hb)
          have n3_ := Aside0.mk (below_step (by repeat (first | (with_reducible first | exact HB.out | apply below_alloc | apply pw_below_drewN | apply below_drew1 | refine below_set ?_ GE115.out) | exact HB.out)) hb)
          clear HO_3
          clear BK115
          clear HR119
          clear HB
          have HO_3 := n0_
          have BK115 := n1_
          have HR119 := n2_
          have HB := n3_
          clear n0_ n1_ n2_ n3_
          (try clear hb)
          (try clear hb2)
          (try clear hk)
          (try clear hi)
          refine hK.out _ _ ⟨(blk_cell BK115.out 0).trans rfl, (blk_cell BK115.out 1).trans rfl, (blk_cell BK115.out 2).trans rfl, (blk_cell BK115.out 3).trans rfl, (blk_cell BK115.out 4).trans rfl, (blk_cell BK115.out 5).trans rfl, (blk_cell BK115.out 6).trans rfl, (blk_cell BK115.out 7).trans rfl⟩ (fun hHeld => ?_)
          clear hK K
          refine norm_ (a' := ?_) ?_ ?_
          rotate_left
          ·show Act.put _ (some 27) _ = _
           simp only [Act.put, List.setIfInBounds_toArray, List.set_cons_zero, List.set_cons_succ, i64_w, i32_w]
           rfl
          refine pure_ (i := 8) (N := some 28) (v := ?_) (a' := ?_) #[true, true, true, true, true, true, true, true, true] rfl rfl (any_of HT_.out (by kernel_rfl)) (fun _ _ _ h => h) (Or.inl ⟨by rfl, ?_⟩) ?_ ?_
          rotate_left
          ·intro w'
           go_simp
           with_reducible rfl
          rotate_left
          ·simp only [Act.put, List.setIfInBounds_toArray, List.set_cons_zero, List.set_cons_succ, i64_w, i32_w]
           rfl
          refine done_ (done_of HT_.out (by kernel_rfl)) ?_
          try go_wp2
          go_roundg k1
          case measure => have := HK1.out; omega
          case rel => exact ⟨(wrap64 (x15_1 + 1)), (by first | rfl | (simp; done) | (simp [*]; done)), H', ⟨by have := HK1.out; omega⟩, ⟨by (with_reducible repeat (first | apply Kd.R_alloc | apply Kd.R_drewN | apply Kd.R_drew)); exact HO_3.out⟩, ⟨by repeat (first | (with_reducible first | exact HB.out | apply below_alloc | apply pw_below_drewN | apply below_drew1 | refine below_set ?_ GE115.out) | exact HB.out)⟩⟩
        ·rw [if_neg c13] at H
         exact absurd H (by simp)
       ·rw [if_neg c12] at H
        exact absurd H (by simp)
      ·rw [if_neg c11] at H
       exact absurd H (by simp)
     ·rw [if_neg c10] at H
      exact absurd H (by simp)
    ·rw [if_neg c9] at H
     have c9b0 : decide (x15_1 < (l0.length : Int)) = false := decide_eq_false c9
     clear c9
     obtain rfl := Option.some.inj H
     go_wp2
     go_ret
     exact ⟨by first | rfl | (simp [errW_none, errW_some] <;> rfl) | (simp [*, errW_none, errW_some] <;> rfl), by repeat (first | (with_reducible first | exact HB.out | apply below_alloc | apply pw_below_drewN | apply below_drew1) | exact HB.out)⟩
 ·replace c3 := Bool.eq_false_iff.mpr c3
  subst c3
  have H1 : (some false) = some r := by rw [if_neg (show ¬ (false = true) by decide)] at H; exact H
  clear H
  have H := H1
  clear H1
  obtain rfl := Option.some.inj H
  go_enter Tryd.func31, Tryd.ntmps31
  go_wp2_with (first | ((with_reducible refine gate_callee (f := 8) rfl ?_); refine goesL_ (some 7) rfl rfl Tryd.func8 (by kernel_rfl) rfl #[.slice A0 l0.length c0] rfl (by (try simp only [List.map_toArray, List.map_cons, List.map_nil]); first | done | rfl | (simp only [List.length_drop, List.length_take]; rfl)) ?_; (with_reducible refine (job_All.calls _ _ l0 false _ (tab_below HTb.out (by repeat (first | (with_reducible first | exact HB.out | apply below_alloc | apply pw_below_drewN | apply below_drew1) | exact HB.out))) ?side1 ?side2 A2.out).mono ?_); (case side1 => repeat (first | exact HR0.out | (with_reducible refine Kd.C_alloc ?_ _) | (with_reducible refine Kd.C_drewN ?_ _) | (with_reducible refine Kd.C_drew ?_))); (case side2 => exact HC0.out); rintro e w31 ⟨rfl, hb⟩; refine ⟨_, rfl, ?_⟩; have n0_ := Aside0.mk (below_step (by repeat (first | (with_reducible first | exact HB.out | apply below_alloc | apply pw_below_drewN | apply below_drew1) | exact HB.out)) hb); clear HB; have HB := n0_; clear n0_; (try clear hb); (try clear hb2); (try clear hk); (try clear hi)))
  go_ret
  exact ⟨by first | rfl | (simp [errW_none, errW_some] <;> rfl) | (simp [*, errW_none, errW_some] <;> rfl), by repeat (first | (with_reducible first | exact HB.out | apply below_alloc | apply pw_below_drewN | apply below_drew1) | exact HB.out)⟩

/-! ### rival_met: function 19 -/
def rival_met.l0 : Nat → List (S35) → List (S35) → List Int → Int → Int → Option (Bool)
 | 0, _, _, _, _, _ => none
 | k + 1, x0, x5, x9, x10, x11 => if x11 < x10 then (if 0 ≤ x11 then (if x11 < (x9.length : Int) then (if 0 ≤ (rd x9 x11) then (if (rd x9 x11) < (x0.length : Int) then (if x5.length < 1954687338268 then (rival_met.l0 k x0 (x5 ++ [(⟨(rd_T35 x0 (rd x9 x11)).f0, (rd_T35 x0 (rd x9 x11)).f1, (rd_T35 x0 (rd x9 x11)).f2, (rd_T35 x0 (rd x9 x11)).f4, (rd_T35 x0 (rd x9 x11)).f4, (rd_T35 x0 (rd x9 x11)).f5, 0, (rd_T35 x0 (rd x9 x11)).f7⟩ : S35)]) x9 x10 (wrap64 (x11 + 1))) else (none)) else (none)) else (none)) else (none)) else (none)) else ((edf_Meets.f k x5).bind fun t128 => (some t128))
def rival_met.f (k : Nat) (l0 : List (S35)) (l1 : List Int) : Option (Bool) := rival_met.l0 k l0 ([] : List (S35)) l1 (l1.length : Int) 0
theorem rival_met.mono_l : ∀ k, (∀ y0 y1 y2 y3 y4, LeO (rival_met.l0 k y0 y1 y2 y3 y4) (rival_met.l0 (k + 1) y0 y1 y2 y3 y4))
 | 0 => fun _ _ _ _ _ r h => by simp [rival_met.l0] at h
 | k + 1 => by
  have ih0 := rival_met.mono_l k
  ·intro y0 y1 y2 y3 y4
   unfold rival_met.l0
   repeat' first
   | (with_reducible exact ih0 _ _ _ _ _)
   | (with_reducible exact edf_Meets.mono _ _)
   | (with_reducible exact LeO.refl _)
   | (with_reducible exact LeO.none _)
   | (with_reducible refine LeO.ite ?_ ?_)
   | (with_reducible refine LeO.bind ?_ (fun _ => ?_))
   | exact ih0 _ _ _ _ _
   | exact edf_Meets.mono _ _
   | exact LeO.none _
   | refine LeO.ite ?_ ?_
   | refine LeO.bind ?_ (fun _ => ?_)
theorem rival_met.mono : ∀ a0 a1 k, LeO (rival_met.f k a0 a1) (rival_met.f (k + 1) a0 a1) := by
 intro a0 a1 k
 have ih0 := rival_met.mono_l k
 unfold rival_met.f
 repeat' first
   | (with_reducible exact ih0 _ _ _ _ _)
   | (with_reducible exact edf_Meets.mono _ _)
   | (with_reducible exact LeO.refl _)
   | (with_reducible exact LeO.none _)
   | (with_reducible refine LeO.ite ?_ ?_)
   | (with_reducible refine LeO.bind ?_ (fun _ => ?_))
   | exact ih0 _ _ _ _ _
   | exact edf_Meets.mono _ _
   | exact LeO.none _
   | refine LeO.ite ?_ ?_
   | refine LeO.bind ?_ (fun _ => ?_)
set_option maxHeartbeats 8000000 in
set_option maxRecDepth 100000 in
theorem rival_met.calls (k : Nat) (A0 : Option Addr) (c0 : Nat) (l0 : List (S35)) (A1 : Option Addr) (c1 : Nat) (l1 : List Int) (r : Bool) (w : World) (hTb : Tab w) (hr0 : Kd.C k35 w A0 l0.length l0) (hc0 : l0.length ≤ c0) (hr1 : Kd.C (Kd.int .i64) w A1 l1.length l1) (hc1 : l1.length ≤ c1) (h : rival_met.f k l0 l1 = some r) :
  Calls Tryd.prog 19 #[.slice A0 l0.length c0, .slice A1 l1.length c1] w fun e w' => e = .returned (.bool r) ∧ Below w.heap.size w w' := by
 have HTb := Aside0.mk hTb
 clear hTb
 have hu35 := Tryd.underlying35
 have HR0 := Aside0.mk hr0
 have HC0 := Aside0.mk hc0
 clear hr0 hc0
 have HR1 := Aside0.mk hr1
 have HC1 := Aside0.mk hc1
 clear hr1 hc1
 have HB := Aside0.mk (Below.refl w.heap.size w)
 have H : (rival_met.l0 k l0 ([] : List (S35)) l1 (l1.length : Int) 0) = some r := h
 clear h
 have H' := Aside0.mk H
 clear H
 go_enter Tryd.func19, Tryd.ntmps19
 go_wp2
 go_loopg [5, 11] k (fun kq v5 v11 w' => ∃ (x5_1 : List (S35)) (x11_1 : Int), v11 = .int .i64 x11_1 ∧ Aside0 (rival_met.l0 kq l0 x5_1 l1 (l1.length : Int) x11_1 = some r) ∧ Aside0 (kq ≤ k) ∧ Aside0 (Kd.R k35 35 w' w.heap.size (fun _ => True) v5 x5_1) ∧ Aside0 (Below w.heap.size w w'))
 case atStart => exact ⟨(([] : List (S35))), (0), (by first | rfl | (simp; done) | (simp [*]; done)), H', ⟨Nat.le_refl _⟩, ⟨by first | exact Kd.R_nil _ _ _ _ _ | exact Kd.N_nil _ _ _ _ _ | exact Kd.V_nil _ _ _ _ _ | exact Kd.Q_nil _ _ _ _ _ | exact Kd.S_nil _ _ _ _ _⟩, ⟨by repeat (first | (with_reducible first | exact HB.out | apply below_alloc | apply pw_below_drewN | apply below_drew1) | exact HB.out)⟩⟩
 case round =>
  clear H'
  try clear c1
  try clear p2
  obtain ⟨x5_1, x11_1, rfl, HA, HK1, HO_5, HB⟩ := hrel
  cases gk with
  | zero => exact absurd HA.out (by simp [rival_met.l0])
  | succ k1 =>
   have H := HA.out
   clear HA
   simp only [rival_met.l0] at H
   by_cases c3 : x11_1 < (l1.length : Int)
   ·rw [if_pos c3] at H
    have c3b0 : decide (x11_1 < (l1.length : Int)) = true := decide_eq_true c3
    clear c3
    by_cases c4 : 0 ≤ x11_1
    ·rw [if_pos c4] at H
     have c4b0 : decide (0 ≤ x11_1) = true := decide_eq_true c4
     clear c4
     by_cases c5 : x11_1 < (l1.length : Int)
     ·rw [if_pos c5] at H
      have c5b0 : decide (x11_1 < (l1.length : Int)) = true := decide_eq_true c5
      clear c5
      by_cases c6 : 0 ≤ (rd l1 x11_1)
      ·rw [if_pos c6] at H
       have c6b0 : decide (0 ≤ (rd l1 x11_1)) = true := decide_eq_true c6
       clear c6
       by_cases c7 : (rd l1 x11_1) < (l0.length : Int)
       ·rw [if_pos c7] at H
        have c7b0 : decide ((rd l1 x11_1) < (l0.length : Int)) = true := decide_eq_true c7
        clear c7
        by_cases c8 : x5_1.length < 1954687338268
        ·rw [if_pos c8] at H
         have LMc8 := Aside0.mk c8
         clear c8
         obtain ⟨y125, hy125⟩ : ∃ y_ : List (S35), y_ = (x5_1 ++ [(⟨(rd_T35 l0 (rd l1 x11_1)).f0, (rd_T35 l0 (rd l1 x11_1)).f1, (rd_T35 l0 (rd l1 x11_1)).f2, (rd_T35 l0 (rd l1 x11_1)).f4, (rd_T35 l0 (rd l1 x11_1)).f4, (rd_T35 l0 (rd l1 x11_1)).f5, 0, (rd_T35 l0 (rd l1 x11_1)).f7⟩ : S35)]) := ⟨_, rfl⟩
         replace H : (rival_met.l0 k1 l0 y125 l1 (l1.length : Int) (wrap64 (x11_1 + 1))) = some r := by first | (rw [hy125]; with_reducible exact H) | (have H2_ := (Option.bind_some _ _).symm.trans H; rw [hy125]; with_reducible exact H2_) | (have H2_ := (Option.bind_some _ _).symm.trans H; with_reducible exact H2_) | with_reducible exact H | (rw [hy125]; exact H) | exact H
         have Ny125 := Aside0.mk hy125
         clear hy125
         have H' := Aside0.mk H
         clear H
         have p122 : 0 ≤ (x11_1 : Int) := of_decide_eq_true (by first | (with_reducible assumption) | assumption)
         have q122 : x11_1 < (l1.length : Int) := of_decide_eq_true (by first | (with_reducible assumption) | assumption)
         obtain ⟨ad122, e122, hx122_0⟩ := Kd.at_int HR1.out x11_1 p122 q122
         cases e122
         replace hx122_0 := (HB.out.cell (World.block_lt_of_cell? w _ hx122_0)).trans hx122_0
         replace p122 := eq_true p122
         replace q122 := eq_true q122
         have p123 : 0 ≤ ((rd l1 x11_1) : Int) := of_decide_eq_true (by first | (with_reducible assumption) | assumption)
         have q123 : (rd l1 x11_1) < (l0.length : Int) := of_decide_eq_true (by first | (with_reducible assumption) | assumption)
         obtain ⟨ad123, e123, hx123_0, hx123_1, hx123_2, hx123_3, hx123_4, hx123_5, hx123_6, hx123_7⟩ := at_T35 HR0.out (rd l1 x11_1) p123 q123
         cases e123
         replace hx123_0 := (HB.out.cell (World.block_lt_of_cell? w _ hx123_0)).trans hx123_0
         replace hx123_1 := (HB.out.cell (World.block_lt_of_cell? w _ hx123_1)).trans hx123_1
         replace hx123_2 := (HB.out.cell (World.block_lt_of_cell? w _ hx123_2)).trans hx123_2
         replace hx123_3 := (HB.out.cell (World.block_lt_of_cell? w _ hx123_3)).trans hx123_3
         replace hx123_4 := (HB.out.cell (World.block_lt_of_cell? w _ hx123_4)).trans hx123_4
         replace hx123_5 := (HB.out.cell (World.block_lt_of_cell? w _ hx123_5)).trans hx123_5
         replace hx123_6 := (HB.out.cell (World.block_lt_of_cell? w _ hx123_6)).trans hx123_6
         replace hx123_7 := (HB.out.cell (World.block_lt_of_cell? w _ hx123_7)).trans hx123_7
         replace p123 := eq_true p123
         replace q123 := eq_true q123
         generalize rd_T35 l0 (rd l1 x11_1) = x at *
         go_upto_region 6 with (fail)
         have HOa := Aside0.mk (Kd.R_alloc (Kd.R_elderB HO_5.out wr.heap.size (Nat.le_refl _)) (.cells #[.string x.f0, .int .i64 x.f1, .int .i64 x.f2, .int .i64 x.f3, .int .i64 x.f4, .int .i64 x.f5, .int .i64 x.f6, .bool x.f7] 35))
         have HBa := Aside0.mk (below_alloc HB.out (.cells #[.string x.f0, .int .i64 x.f1, .int .i64 x.f2, .int .i64 x.f3, .int .i64 x.f4, .int .i64 x.f5, .int .i64 x.f6, .bool x.f7] 35))
         have HJa := Aside0.mk (blk_new wr (.cells #[.string x.f0, .int .i64 x.f1, .int .i64 x.f2, .int .i64 x.f3, .int .i64 x.f4, .int .i64 x.f5, .int .i64 x.f6, .bool x.f7] 35))
         have GE := Aside0.mk (below_size HB.out)
         clear HO_5 HB hx122_0 hx123_0 hx123_1 hx123_2 hx123_3 hx123_4 hx123_5 hx123_6 hx123_7
         generalize wr.alloc (.cells #[.string x.f0, .int .i64 x.f1, .int .i64 x.f2, .int .i64 x.f3, .int .i64 x.f4, .int .i64 x.f5, .int .i64 x.f6, .bool x.f7] 35) = Wd at HOa HBa HJa ⊢
         generalize wr.heap.size = J at HOa HJa GE ⊢
         have c3 : Wd.cell? ⟨J, 3, none⟩ = some (.int .i64 x.f3) := (blk_cell HJa.out 3).trans rfl
         have c4 : Wd.cell? ⟨J, 4, none⟩ = some (.int .i64 x.f4) := (blk_cell HJa.out 4).trans rfl
         have c6 : Wd.cell? ⟨J, 6, none⟩ = some (.int .i64 x.f6) := (blk_cell HJa.out 6).trans rfl
         have f3 := blk_frozen HJa.out 3
         have f6 := blk_frozen HJa.out 6
         go_upto_region 7 with (fail)
         have HJ2 := Aside0.mk (blk_put (cs' := #[.string x.f0, .int .i64 x.f1, .int .i64 x.f2, .int .i64 x.f4, .int .i64 x.f4, .int .i64 x.f5, .int .i64 0, .bool x.f7]) (blk_put (cs' := #[.string x.f0, .int .i64 x.f1, .int .i64 x.f2, .int .i64 x.f4, .int .i64 x.f4, .int .i64 x.f5, .int .i64 x.f6, .bool x.f7]) HJa.out 3 (.int .i64 x.f4) rfl) 6 (.int .i64 0) rfl)
         have HO2 := Aside0.mk (Kd.R_far (p := ⟨J, 6, none⟩) (Kd.R_far (p := ⟨J, 3, none⟩) HOa.out (fun _ hk => hk.2) (.int .i64 x.f4)) (fun _ hk => hk.2) (.int .i64 0))
         have HB2 := Aside0.mk (below_set (below_set HBa.out GE.out (j := 3) (v := .int .i64 x.f4)) GE.out (j := 6) (v := .int .i64 0))
         clear HOa HBa HJa c3 c4 c6 f3 f6
         generalize (Wd.setCell ⟨J, 3, none⟩ (.int .i64 x.f4)).setCell ⟨J, 6, none⟩ (.int .i64 0) = We at HJ2 HO2 HB2 ⊢
         have d0 : We.cell? ⟨J, 0, none⟩ = some (.string x.f0) := (blk_cell HJ2.out 0).trans rfl
         have d1 : We.cell? ⟨J, 1, none⟩ = some (.int .i64 x.f1) := (blk_cell HJ2.out 1).trans rfl
         have d2 : We.cell? ⟨J, 2, none⟩ = some (.int .i64 x.f2) := (blk_cell HJ2.out 2).trans rfl
         have d3 : We.cell? ⟨J, 3, none⟩ = some (.int .i64 x.f4) := (blk_cell HJ2.out 3).trans rfl
         have d4 : We.cell? ⟨J, 4, none⟩ = some (.int .i64 x.f4) := (blk_cell HJ2.out 4).trans rfl
         have d5 : We.cell? ⟨J, 5, none⟩ = some (.int .i64 x.f5) := (blk_cell HJ2.out 5).trans rfl
         have d6 : We.cell? ⟨J, 6, none⟩ = some (.int .i64 0) := (blk_cell HJ2.out 6).trans rfl
         have d7 : We.cell? ⟨J, 7, none⟩ = some (.bool x.f7) := (blk_cell HJ2.out 7).trans rfl
         have HLt := Aside0.mk (blk_lt HJ2.out)
         go_wp2_with (first | ((with_reducible refine gate_builtin (b := .append) (xs := #[.tmp 23, .tmp 25]) rfl ?_); at_builtin; refine Kd.R_append k35 (w0 := w) w.heap.size rfl (.tmp 23) (.tmp 25) 22 35 (.agg #[(.string ⟨#[]⟩), (.int .i64 0), (.int .i64 0), (.int .i64 0), (.int .i64 0), (.int .i64 0), (.int .i64 0), (.bool false)]) 72 rfl Tryd.underlying22 info35 rfl (by decide) (by omega) u5 x5_1 (⟨x.f0, x.f1, x.f2, x.f4, x.f4, x.f5, 0, x.f7⟩ : S35) [.string x.f0, .int .i64 x.f1, .int .i64 x.f2, .int .i64 x.f4, .int .i64 x.f4, .int .i64 x.f5, .int .i64 0, .bool x.f7] (fun k_ => True ∧ k_ ≠ J) (fun _ => False) rfl (by first | (go_simp; done) | (go_simp; rfl)) (k35_mkM _ _ _ (⟨x.f0, x.f1, x.f2, x.f4, x.f4, x.f5, 0, x.f7⟩ : S35)) (fun _ hk => hk.elim) (fun k_ hk => ⟨trivial, by have := HLt.out; omega⟩) HO2.out HB2.out (below_size HB2.out) (by have := LMc8.out; omega) ?_; intro v126 w11 ho hb hg hat; rw [← Ny125.out] at ho; have HO127 := Aside0.mk ho; have HB := Aside0.mk hb; clear ho hb hg hat))
         go_roundg k1
         case measure => have := HK1.out; omega
         case rel => exact ⟨(y125), (wrap64 (x11_1 + 1)), (by first | rfl | (simp; done) | (simp [*]; done)), H', ⟨by have := HK1.out; omega⟩, ⟨by (with_reducible repeat (first | apply Kd.R_alloc | apply Kd.R_drewN | apply Kd.R_drew)); exact Kd.R_mono HO127.out (fun _ hk => trivial)⟩, ⟨by repeat (first | (with_reducible first | exact HB.out | apply below_alloc | apply pw_below_drewN | apply below_drew1 | refine below_set ?_ GE124.out) | exact HB.out)⟩⟩
        ·rw [if_neg c8] at H
         exact absurd H (by simp)
       ·rw [if_neg c7] at H
        exact absurd H (by simp)
      ·rw [if_neg c6] at H
       exact absurd H (by simp)
     ·rw [if_neg c5] at H
      exact absurd H (by simp)
    ·rw [if_neg c4] at H
     exact absurd H (by simp)
   ·rw [if_neg c3] at H
    have c3b0 : decide (x11_1 < (l1.length : Int)) = false := decide_eq_false c3
    clear c3
    replace H := Option.bind_eq_some_iff.mp H
    obtain ⟨t128, A120, H⟩ := H
    replace H : (some t128) = some r := H
    have A12 := Aside0.mk A120
    clear A120
    obtain rfl := Option.some.inj H
    obtain ⟨Ao13, co13, eo13⟩ := Kd.R_slice HO_5.out
    subst eo13
    go_wp2_with (first | ((with_reducible refine gate_callee (f := 31) rfl ?_); refine goesL_ (some 29) rfl rfl Tryd.func31 (by kernel_rfl) rfl #[.slice Ao13 x5_1.length co13] rfl (by (try simp only [List.map_toArray, List.map_cons, List.map_nil]); first | done | rfl | (simp only [List.length_drop, List.length_take]; rfl)) ?_; (with_reducible refine (edf_Meets.calls k1 _ _ x5_1 t128 _ (tab_below HTb.out (by repeat (first | (with_reducible first | exact HB.out | apply below_alloc | apply pw_below_drewN | apply below_drew1) | exact HB.out))) ?side1 ?side2 A12.out).mono ?_); (case side1 => repeat (first | exact (Kd.R_reads' HO_5.out).2.2 | (with_reducible refine Kd.C_alloc ?_ _) | (with_reducible refine Kd.C_drewN ?_ _) | (with_reducible refine Kd.C_drew ?_))); (case side2 => exact (Kd.R_reads' HO_5.out).2.1); rintro e w14 ⟨rfl, hb⟩; refine ⟨_, rfl, ?_⟩; have n0_ := Aside0.mk (Kd.R_below (by (with_reducible repeat (first | apply Kd.R_alloc | apply Kd.R_drewN | apply Kd.R_drew)); exact HO_5.out) hb); have n1_ := Aside0.mk (below_step (by repeat (first | (with_reducible first | exact HB.out | apply below_alloc | apply pw_below_drewN | apply below_drew1) | exact HB.out)) hb); clear HO_5; clear HB; have HO_5 := n0_; have HB := n1_; clear n0_ n1_; (try clear hb); (try clear hb2); (try clear hk); (try clear hi)))
    go_ret
    exact ⟨by first | rfl | (simp [errW_none, errW_some] <;> rfl) | (simp [*, errW_none, errW_some] <;> rfl), by repeat (first | (with_reducible first | exact HB.out | apply below_alloc | apply pw_below_drewN | apply below_drew1) | exact HB.out)⟩

end Go.Proofs.YtobkfbkhcghaeaaDoor.PRv
