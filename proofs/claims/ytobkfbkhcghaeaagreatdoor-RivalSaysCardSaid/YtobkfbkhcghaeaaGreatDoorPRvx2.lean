-- functions and contracts as the kit's print.py writes them, the roots chosen in this session (wip/proots.sh)
-- slim
import Derived.Test.YtobkfbkhcghaeaaGreatDoorPRvx0
import Derived.Test.YtobkfbkhcghaeaaGreatDoorStRv
import Derived.Test.YtobkfbkhcghaeaaGreatDoorStRun
import Derived.Test.YtobkfbkhcghaeaaGreatDoorPRvx1
namespace Go.Proofs.YtobkfbkhcghaeaaGreatDoor.PRv
open Go.RowKit Go.Proofs.YtobkfbkhcghaeaaGreatDoorW.PrintWords Go.Proofs.YtobkfbkhcghaeaaGreatDoorW.PrintLast Go.Proofs.YtobkfbkhcghaeaaGreatDoorW.PrintMore
attribute [local go_sem] max2_int min2_int max_two min_two max_three min_three max_four min_four   -- for this text's walks alone
set_option linter.unusedVariables false
set_option linter.unusedSimpArgs false

/-! ### edf_Meets: function 41 -/
def edf_Meets.l0 : Nat → List Int → List (S45) → Int → Int → Option (Bool)
 | 0, _, _, _, _ => none
 | k + 1, x3, x13, x14, x15 => if x15 < x14 then (if 0 ≤ x15 then (if x15 < (x13.length : Int) then (if 0 ≤ ((rd_T45 x13 x15).f2) then (if ((rd_T45 x13 x15).f2) ≤ (x3.length : Int) then ((trace_Ran.f k (x3.take (((rd_T45 x13 x15).f2) : Int).toNat) x15).bind fun t148 => ((job_Charge.f ((rd_T45 x13 x15).f0) ((rd_T45 x13 x15).f1) ((rd_T45 x13 x15).f2) ((rd_T45 x13 x15).f3) ((rd_T45 x13 x15).f4) ((rd_T45 x13 x15).f5) ((rd_T45 x13 x15).f6) ((rd_T45 x13 x15).f7)).bind fun t149 => (if t148 < t149 then (some false) else (edf_Meets.l0 k x3 x13 x14 (wrap64 (x15 + 1)))))) else (none)) else (none)) else (none)) else (none)) else (some true)
def edf_Meets.f (k : Nat) (l0 : List (S45)) : Option (Bool) := (job_All.f l0).bind fun t137 => (if t137 = true then ((job_End.f k l0).bind fun t138 => ((edfRunC.f l0 t138 ()).bind fun t139 => (edf_Meets.l0 k t139 l0 (l0.length : Int) 0))) else (some false))
def edf_Meets.T7 : Bool × List (List Nat × List Nat) := (true, [([], []), ([], []), ([1], [1]), ([0, 2], [0, 2]), ([], []), ([3, 4], [3, 4]), ([], []), ([6, 5], [6]), ([5, 7], [5, 7])])
def edf_Meets.B7 : List Nat := [0, 0, 2, 7, 0, 31, 0, 127, 255]
theorem edf_Meets.tab7 : rtab .any (opsOf Tryz.f41 7) = edf_Meets.T7 := by kernel_rfl
theorem edf_Meets.bits7 : waitsOk edf_Meets.T7.2 edf_Meets.B7 = true := by kernel_rfl
set_option maxHeartbeats 8000000 in
set_option maxRecDepth 100000 in
theorem edf_Meets.calls (k : Nat) (A0 : Option Addr) (c0 : Nat) (l0 : List (S45)) (r : Bool) (w : World) (hTb : Tab w) (hr0 : Kd.C k45 w A0 l0.length l0) (hc0 : l0.length ≤ c0) (h : edf_Meets.f k l0 = some r) :
  Calls Tryz.prog 41 #[.slice A0 l0.length c0] w fun e w' => e = .returned (.bool r) ∧ Below w.heap.size w w' := by
 have HTb := Aside0.mk hTb
 clear hTb
 have hu45 := Tryz.underlying45
 have HR0 := Aside0.mk hr0
 have HC0 := Aside0.mk hc0
 clear hr0 hc0
 have HB := Aside0.mk (Below.refl w.heap.size w)
 have H : ((job_All.f l0).bind fun t137 => (if t137 = true then ((job_End.f k l0).bind fun t138 => ((edfRunC.f l0 t138 ()).bind fun t139 => (edf_Meets.l0 k t139 l0 (l0.length : Int) 0))) else (some false))) = some r := h
 clear h
 replace H := Option.bind_eq_some_iff.mp H
 obtain ⟨t137, A20, H⟩ := H
 replace H : (if t137 = true then ((job_End.f k l0).bind fun t138 => ((edfRunC.f l0 t138 ()).bind fun t139 => (edf_Meets.l0 k t139 l0 (l0.length : Int) 0))) else (some false)) = some r := H
 have A2 := Aside0.mk A20
 clear A20
 by_cases c3 : t137 = true
 ·subst c3
  have H1 : ((job_End.f k l0).bind fun t138 => ((edfRunC.f l0 t138 ()).bind fun t139 => (edf_Meets.l0 k t139 l0 (l0.length : Int) 0))) = some r := by rw [if_pos rfl] at H; exact H
  clear H
  have H := H1
  clear H1
  replace H := Option.bind_eq_some_iff.mp H
  obtain ⟨t138, A40, H⟩ := H
  replace H : ((edfRunC.f l0 t138 ()).bind fun t139 => (edf_Meets.l0 k t139 l0 (l0.length : Int) 0)) = some r := H
  have A4 := Aside0.mk A40
  clear A40
  replace H := Option.bind_eq_some_iff.mp H
  obtain ⟨t139, A50, H⟩ := H
  replace H : (edf_Meets.l0 k t139 l0 (l0.length : Int) 0) = some r := H
  have A5 := Aside0.mk A50
  clear A50
  have H' := Aside0.mk H
  clear H
  go_enter Tryz.func41, Tryz.ntmps41
  go_wp2_with (first | ((with_reducible refine gate_callee (f := 20) rfl ?_); refine goesL_ (some 7) rfl rfl Tryz.func20 (by kernel_rfl) rfl #[.slice A0 l0.length c0] rfl (by (try simp only [List.map_toArray, List.map_cons, List.map_nil]); first | done | rfl | (simp only [List.length_drop, List.length_take]; rfl)) ?_; (with_reducible refine (job_All.calls _ _ l0 true _ (tab_below HTb.out (bel HB)) ?side1 ?side2 A2.out).mono ?_); (case side1 => repeat (first | exact HR0.out | (with_reducible refine Kd.C_alloc ?_ _) | (with_reducible refine Kd.C_drewN ?_ _) | (with_reducible refine Kd.C_drew ?_))); (case side2 => exact HC0.out); rintro e w6 ⟨rfl, hb⟩; refine ⟨_, rfl, ?_⟩; have n0_ := Aside0.mk (below_step (bel HB) hb); clear HB; have HB := n0_; clear n0_; (try clear hb); (try clear hb2); (try clear hk); (try clear hi)) | ((with_reducible refine gate_callee (f := 28) rfl ?_); refine goesL_ (some 11) rfl rfl Tryz.func28 (by kernel_rfl) rfl #[.slice A0 l0.length c0] rfl (by (try simp only [List.map_toArray, List.map_cons, List.map_nil]); first | done | rfl | (simp only [List.length_drop, List.length_take]; rfl)) ?_; (with_reducible refine (job_End.calls k _ _ l0 t138 _ (tab_below HTb.out (bel HB)) ?side1 ?side2 A4.out).mono ?_); (case side1 => repeat (first | exact (Kd.C_below HR0.out HB.out) | (with_reducible refine Kd.C_alloc ?_ _) | (with_reducible refine Kd.C_drewN ?_ _) | (with_reducible refine Kd.C_drew ?_))); (case side2 => exact HC0.out); rintro e w7 ⟨rfl, hb⟩; refine ⟨_, rfl, ?_⟩; have n0_ := Aside0.mk (below_step (bel HB) hb); clear HB; have HB := n0_; clear n0_; (try clear hb); (try clear hb2); (try clear hk); (try clear hi)) | ((with_reducible refine gate_callee (f := 50) rfl ?_); refine goesL_ (some 12) rfl rfl Tryz.func50 (by kernel_rfl) rfl #[.slice A0 l0.length c0, .int .i64 t138, .func (.func 62) #[] #[]] rfl (by (try simp only [List.map_toArray, List.map_cons, List.map_nil]); first | done | rfl | (simp only [List.length_drop, List.length_take]; rfl)) ?_; (with_reducible refine (edfRunC.calls _ _ l0 t138 () t139 _ (tab_below HTb.out (bel HB)) ?side1 ?side2 A5.out).mono ?_); (case side1 => repeat (first | exact (Kd.C_below HR0.out HB.out) | (with_reducible refine Kd.C_alloc ?_ _) | (with_reducible refine Kd.C_drewN ?_ _) | (with_reducible refine Kd.C_drew ?_))); (case side2 => exact HC0.out); rintro e w8 ⟨v140, rfl, ho0, hb⟩; refine ⟨_, rfl, ?_⟩; have n0_ := Aside0.mk (Kd.R_lower ho0 (below_size (bel HB))); have n1_ := Aside0.mk (below_step (bel HB) hb); clear HB; have HO141 := n0_; have HB := n1_; clear n0_ n1_; (try clear hb); (try clear hb2); (try clear hk); (try clear hi); (try clear ho0)))
  go_loopg [15] k (fun kq v15 w' => ∃ (x15_1 : Int), v15 = .int .i64 x15_1 ∧ Aside0 (edf_Meets.l0 kq t139 l0 (l0.length : Int) x15_1 = some r) ∧ Aside0 (kq ≤ k) ∧ Aside0 (Kd.R (Kd.int .i64) 3 w' w.heap.size (fun _ => True) v140 t139) ∧ Aside0 (Below w.heap.size w w'))
  case atStart => exact ⟨(0), (by first | rfl | simp [*]), H', ⟨Nat.le_refl _⟩, ⟨by (with_reducible repeat (first | apply Kd.R_alloc | apply Kd.R_drewN | apply Kd.R_drew)); exact HO141.out⟩, ⟨bel HB⟩⟩
  case round =>
   clear H'
   try clear c2
   try clear p2
   try clear c3
   try clear c4
   try clear c5
   obtain ⟨x15_1, rfl, HA, HK1, HO_3, HB⟩ := hrel
   cases gk with
   | zero => exact absurd HA.out (by simp [edf_Meets.l0])
   | succ k1 =>
    have H := HA.out
    clear HA
    simp only [edf_Meets.l0] at H
    by_cases c9 : x15_1 < (l0.length : Int)
    ·rw [if_pos c9] at H
     have c9b0 : decide (x15_1 < (l0.length : Int)) = true := decide_eq_true c9
     clear c9
     by_cases c10 : 0 ≤ x15_1
     ·rw [if_pos c10] at H
      have c10b0 : decide (0 ≤ x15_1) = true := decide_eq_true c10
      clear c10
      by_cases c11 : x15_1 < (l0.length : Int)
      ·rw [if_pos c11] at H
       have c11b0 : decide (x15_1 < (l0.length : Int)) = true := decide_eq_true c11
       clear c11
       by_cases c12 : 0 ≤ ((rd_T45 l0 x15_1).f2)
       ·rw [if_pos c12] at H
        have c12b0 := eq_true c12
        have c12b1 : decide (0 ≤ ((rd_T45 l0 x15_1).f2)) = true := decide_eq_true c12
        clear c12
        by_cases c13 : ((rd_T45 l0 x15_1).f2) ≤ (t139.length : Int)
        ·rw [if_pos c13] at H
         have c13b0 := eq_true c13
         have c13b1 : decide (((rd_T45 l0 x15_1).f2) ≤ (t139.length : Int)) = true := decide_eq_true c13
         clear c13
         obtain ⟨y144, hy144⟩ : ∃ y_ : List Int, y_ = (t139.take (((rd_T45 l0 x15_1).f2) : Int).toNat) := ⟨_, rfl⟩
         replace H : ((trace_Ran.f k1 y144 x15_1).bind fun t148 => ((job_Charge.f ((rd_T45 l0 x15_1).f0) ((rd_T45 l0 x15_1).f1) ((rd_T45 l0 x15_1).f2) ((rd_T45 l0 x15_1).f3) ((rd_T45 l0 x15_1).f4) ((rd_T45 l0 x15_1).f5) ((rd_T45 l0 x15_1).f6) ((rd_T45 l0 x15_1).f7)).bind fun t149 => (if t148 < t149 then (some false) else (edf_Meets.l0 k1 t139 l0 (l0.length : Int) (wrap64 (x15_1 + 1)))))) = some r := by first | (rw [hy144]; with_reducible exact H) | (have H2_ := (Option.bind_some _ _).symm.trans H; rw [hy144]; with_reducible exact H2_) | (have H2_ := (Option.bind_some _ _).symm.trans H; with_reducible exact H2_) | with_reducible exact H | (rw [hy144]; exact H) | exact H
         have Ny144 := Aside0.mk hy144
         clear hy144
         replace H := Option.bind_eq_some_iff.mp H
         obtain ⟨t148, A140, H⟩ := H
         replace H : ((job_Charge.f ((rd_T45 l0 x15_1).f0) ((rd_T45 l0 x15_1).f1) ((rd_T45 l0 x15_1).f2) ((rd_T45 l0 x15_1).f3) ((rd_T45 l0 x15_1).f4) ((rd_T45 l0 x15_1).f5) ((rd_T45 l0 x15_1).f6) ((rd_T45 l0 x15_1).f7)).bind fun t149 => (if t148 < t149 then (some false) else (edf_Meets.l0 k1 t139 l0 (l0.length : Int) (wrap64 (x15_1 + 1))))) = some r := H
         have A14 := Aside0.mk A140
         clear A140
         replace H := Option.bind_eq_some_iff.mp H
         obtain ⟨t149, A150, H⟩ := H
         replace H : (if t148 < t149 then (some false) else (edf_Meets.l0 k1 t139 l0 (l0.length : Int) (wrap64 (x15_1 + 1)))) = some r := H
         have A15 := Aside0.mk A150
         clear A150
         have HH_ := Aside0.mk H
         clear H
         have p142 : 0 ≤ (x15_1 : Int) := of_decide_eq_true ‹_›
         have q142 : x15_1 < (l0.length : Int) := of_decide_eq_true ‹_›
         obtain ⟨ad142, e142, hx142_0, hx142_1, hx142_2, hx142_3, hx142_4, hx142_5, hx142_6, hx142_7⟩ := at_T45 HR0.out x15_1 p142 q142
         cases e142
         replace hx142_0 := bl HB hx142_0
         replace hx142_1 := bl HB hx142_1
         replace hx142_2 := bl HB hx142_2
         replace hx142_3 := bl HB hx142_3
         replace hx142_4 := bl HB hx142_4
         replace hx142_5 := bl HB hx142_5
         replace hx142_6 := bl HB hx142_6
         replace hx142_7 := bl HB hx142_7
         replace p142 := eq_true p142
         replace q142 := eq_true q142
         try go_wp2_with (first | ((with_reducible refine gate_dst (N := 5) rfl ?_); refine box_event ?hg (N := 5) ?hd (cs := #[.string (⟨#[]⟩ : ByteArray), .int .i64 0, .int .i64 0, .int .i64 0, .int .i64 0, .int .i64 0, .int .i64 0, .bool false]) (t := 45) ?hr ?_; (case hd => rfl); (case hg => rfl); (case hr => first | (go_simp; done) | (go_simp; rfl)); intro gb143 hg w24 hbox hb; have n0_ := Aside0.mk (Kd.R_below (by (with_reducible repeat (first | apply Kd.R_alloc | apply Kd.R_drewN | apply Kd.R_drew)); exact HO_3.out) hb); have n1_ := Aside0.mk (below_step (bel HB) hb); have n2_ := Aside0.mk (hbox); have n3_ := Aside0.mk ((by rw [hg]; exact (below_size (bel HB)) : w.heap.size ≤ gb143)); have n4_ := Aside0.mk ((by rw [hg]; exact (below_size (bel HB)) : w.heap.size ≤ gb143)); clear HO_3; clear HB; have HO_3 := n0_; have HB := n1_; have BK143 := n2_; have GW143 := n3_; have GE143 := n4_; clear n0_ n1_ n2_ n3_ n4_; clear hb hbox hg; obtain ⟨hcz25_0, hcz25_1, hcz25_2, hcz25_3, hcz25_4, hcz25_5, hcz25_6, hcz25_7⟩ := cel8 BK143; obtain ⟨hfz25_0, hfz25_1, hfz25_2, hfz25_3, hfz25_4, hfz25_5, hfz25_6, hfz25_7⟩ := frz8 BK143))
         have n0_ : Aside0 (Kd.R (Kd.int .i64) 3 ((((((((w24.setCell ⟨gb143, 0, none⟩ (.string ((rd_T45 l0 x15_1).f0))).setCell ⟨gb143, 1, none⟩ (.int .i64 ((rd_T45 l0 x15_1).f1))).setCell ⟨gb143, 2, none⟩ (.int .i64 ((rd_T45 l0 x15_1).f2))).setCell ⟨gb143, 3, none⟩ (.int .i64 ((rd_T45 l0 x15_1).f3))).setCell ⟨gb143, 4, none⟩ (.int .i64 ((rd_T45 l0 x15_1).f4))).setCell ⟨gb143, 5, none⟩ (.int .i64 ((rd_T45 l0 x15_1).f5))).setCell ⟨gb143, 6, none⟩ (.int .i64 ((rd_T45 l0 x15_1).f6))).setCell ⟨gb143, 7, none⟩ (.bool ((rd_T45 l0 x15_1).f7))) w.heap.size (fun _ => True) v140 t139) := ⟨by (with_reducible repeat (first | apply Kd.R_alloc | apply Kd.R_drewN | apply Kd.R_drew)); exact Kd.R_mono (Kd.R_far (p := ⟨gb143, 7, none⟩) (Kd.R_far (p := ⟨gb143, 6, none⟩) (Kd.R_far (p := ⟨gb143, 5, none⟩) (Kd.R_far (p := ⟨gb143, 4, none⟩) (Kd.R_far (p := ⟨gb143, 3, none⟩) (Kd.R_far (p := ⟨gb143, 2, none⟩) (Kd.R_far (p := ⟨gb143, 1, none⟩) (Kd.R_far (p := ⟨gb143, 0, none⟩) (Kd.R_types HO_3.out BK143.out (by decide)) (fun _ hk => hk.2) (.string ((rd_T45 l0 x15_1).f0))) (fun _ hk => hk.2) (.int .i64 ((rd_T45 l0 x15_1).f1))) (fun _ hk => hk.2) (.int .i64 ((rd_T45 l0 x15_1).f2))) (fun _ hk => hk.2) (.int .i64 ((rd_T45 l0 x15_1).f3))) (fun _ hk => hk.2) (.int .i64 ((rd_T45 l0 x15_1).f4))) (fun _ hk => hk.2) (.int .i64 ((rd_T45 l0 x15_1).f5))) (fun _ hk => hk.2) (.int .i64 ((rd_T45 l0 x15_1).f6))) (fun _ hk => hk.2) (.bool ((rd_T45 l0 x15_1).f7))) (fun _ hk => trivial)⟩
         have n1_ : Aside0 (((((((((w24.setCell ⟨gb143, 0, none⟩ (.string ((rd_T45 l0 x15_1).f0))).setCell ⟨gb143, 1, none⟩ (.int .i64 ((rd_T45 l0 x15_1).f1))).setCell ⟨gb143, 2, none⟩ (.int .i64 ((rd_T45 l0 x15_1).f2))).setCell ⟨gb143, 3, none⟩ (.int .i64 ((rd_T45 l0 x15_1).f3))).setCell ⟨gb143, 4, none⟩ (.int .i64 ((rd_T45 l0 x15_1).f4))).setCell ⟨gb143, 5, none⟩ (.int .i64 ((rd_T45 l0 x15_1).f5))).setCell ⟨gb143, 6, none⟩ (.int .i64 ((rd_T45 l0 x15_1).f6))).setCell ⟨gb143, 7, none⟩ (.bool ((rd_T45 l0 x15_1).f7))).heap[gb143]? = some (.cells #[.string ((rd_T45 l0 x15_1).f0), .int .i64 ((rd_T45 l0 x15_1).f1), .int .i64 ((rd_T45 l0 x15_1).f2), .int .i64 ((rd_T45 l0 x15_1).f3), .int .i64 ((rd_T45 l0 x15_1).f4), .int .i64 ((rd_T45 l0 x15_1).f5), .int .i64 ((rd_T45 l0 x15_1).f6), .bool ((rd_T45 l0 x15_1).f7)] 45 (0, 0))) := ⟨by (with_reducible repeat (first | refine blk_drewN ?_ _ | refine blk_drew ?_ | refine blk_alloc ?_ _)); refine blk_put (cs := #[.string ((rd_T45 l0 x15_1).f0), .int .i64 ((rd_T45 l0 x15_1).f1), .int .i64 ((rd_T45 l0 x15_1).f2), .int .i64 ((rd_T45 l0 x15_1).f3), .int .i64 ((rd_T45 l0 x15_1).f4), .int .i64 ((rd_T45 l0 x15_1).f5), .int .i64 ((rd_T45 l0 x15_1).f6), .bool false]) ?_ 7 _ rfl; (with_reducible repeat (first | refine blk_drewN ?_ _ | refine blk_drew ?_ | refine blk_alloc ?_ _)); refine blk_put (cs := #[.string ((rd_T45 l0 x15_1).f0), .int .i64 ((rd_T45 l0 x15_1).f1), .int .i64 ((rd_T45 l0 x15_1).f2), .int .i64 ((rd_T45 l0 x15_1).f3), .int .i64 ((rd_T45 l0 x15_1).f4), .int .i64 ((rd_T45 l0 x15_1).f5), .int .i64 0, .bool false]) ?_ 6 _ rfl; (with_reducible repeat (first | refine blk_drewN ?_ _ | refine blk_drew ?_ | refine blk_alloc ?_ _)); refine blk_put (cs := #[.string ((rd_T45 l0 x15_1).f0), .int .i64 ((rd_T45 l0 x15_1).f1), .int .i64 ((rd_T45 l0 x15_1).f2), .int .i64 ((rd_T45 l0 x15_1).f3), .int .i64 ((rd_T45 l0 x15_1).f4), .int .i64 0, .int .i64 0, .bool false]) ?_ 5 _ rfl; (with_reducible repeat (first | refine blk_drewN ?_ _ | refine blk_drew ?_ | refine blk_alloc ?_ _)); refine blk_put (cs := #[.string ((rd_T45 l0 x15_1).f0), .int .i64 ((rd_T45 l0 x15_1).f1), .int .i64 ((rd_T45 l0 x15_1).f2), .int .i64 ((rd_T45 l0 x15_1).f3), .int .i64 0, .int .i64 0, .int .i64 0, .bool false]) ?_ 4 _ rfl; (with_reducible repeat (first | refine blk_drewN ?_ _ | refine blk_drew ?_ | refine blk_alloc ?_ _)); refine blk_put (cs := #[.string ((rd_T45 l0 x15_1).f0), .int .i64 ((rd_T45 l0 x15_1).f1), .int .i64 ((rd_T45 l0 x15_1).f2), .int .i64 0, .int .i64 0, .int .i64 0, .int .i64 0, .bool false]) ?_ 3 _ rfl; (with_reducible repeat (first | refine blk_drewN ?_ _ | refine blk_drew ?_ | refine blk_alloc ?_ _)); refine blk_put (cs := #[.string ((rd_T45 l0 x15_1).f0), .int .i64 ((rd_T45 l0 x15_1).f1), .int .i64 0, .int .i64 0, .int .i64 0, .int .i64 0, .int .i64 0, .bool false]) ?_ 2 _ rfl; (with_reducible repeat (first | refine blk_drewN ?_ _ | refine blk_drew ?_ | refine blk_alloc ?_ _)); refine blk_put (cs := #[.string ((rd_T45 l0 x15_1).f0), .int .i64 0, .int .i64 0, .int .i64 0, .int .i64 0, .int .i64 0, .int .i64 0, .bool false]) ?_ 1 _ rfl; (with_reducible repeat (first | refine blk_drewN ?_ _ | refine blk_drew ?_ | refine blk_alloc ?_ _)); refine blk_put (cs := #[.string (⟨#[]⟩ : ByteArray), .int .i64 0, .int .i64 0, .int .i64 0, .int .i64 0, .int .i64 0, .int .i64 0, .bool false]) ?_ 0 _ rfl; (with_reducible repeat (first | refine blk_drewN ?_ _ | refine blk_drew ?_ | refine blk_alloc ?_ _)); exact BK143.out⟩
         have n2_ : Aside0 (Below w.heap.size w ((((((((w24.setCell ⟨gb143, 0, none⟩ (.string ((rd_T45 l0 x15_1).f0))).setCell ⟨gb143, 1, none⟩ (.int .i64 ((rd_T45 l0 x15_1).f1))).setCell ⟨gb143, 2, none⟩ (.int .i64 ((rd_T45 l0 x15_1).f2))).setCell ⟨gb143, 3, none⟩ (.int .i64 ((rd_T45 l0 x15_1).f3))).setCell ⟨gb143, 4, none⟩ (.int .i64 ((rd_T45 l0 x15_1).f4))).setCell ⟨gb143, 5, none⟩ (.int .i64 ((rd_T45 l0 x15_1).f5))).setCell ⟨gb143, 6, none⟩ (.int .i64 ((rd_T45 l0 x15_1).f6))).setCell ⟨gb143, 7, none⟩ (.bool ((rd_T45 l0 x15_1).f7)))) := ⟨by repeat (first | (with_reducible first | exact HB.out | apply below_alloc | apply pw_below_drewN | apply below_drew1 | refine below_set ?_ GE143.out) | exact HB.out)⟩
         (try clear HO_3)
         (try clear BK143)
         (try clear HB)
         generalize ((((((((w24.setCell ⟨gb143, 0, none⟩ (.string ((rd_T45 l0 x15_1).f0))).setCell ⟨gb143, 1, none⟩ (.int .i64 ((rd_T45 l0 x15_1).f1))).setCell ⟨gb143, 2, none⟩ (.int .i64 ((rd_T45 l0 x15_1).f2))).setCell ⟨gb143, 3, none⟩ (.int .i64 ((rd_T45 l0 x15_1).f3))).setCell ⟨gb143, 4, none⟩ (.int .i64 ((rd_T45 l0 x15_1).f4))).setCell ⟨gb143, 5, none⟩ (.int .i64 ((rd_T45 l0 x15_1).f5))).setCell ⟨gb143, 6, none⟩ (.int .i64 ((rd_T45 l0 x15_1).f6))).setCell ⟨gb143, 7, none⟩ (.bool ((rd_T45 l0 x15_1).f7))) = w26 at n0_ n1_ n2_ ⊢
         have HO_3 := n0_
         have BK143 := n1_
         have HB := n2_
         clear n0_ n1_ n2_
         have n0_ := Aside0.mk (Kd.R_drew HO_3.out)
         have n1_ := Aside0.mk (blk_drew BK143.out)
         have n2_ := Aside0.mk (below_drew1 HB.out)
         clear HO_3
         clear BK143
         clear HB
         have HO_3 := n0_
         have BK143 := n1_
         have HB := n2_
         clear n0_ n1_ n2_
         obtain ⟨Ao29, co29, eo29⟩ := Kd.R_slice HO_3.out
         (first | subst eo29 | (injection eo29 with f1_ f2_ f3_; have f4_ := f1_.symm; have f5_ := f3_.symm; clear f1_ f2_ f3_; subst f4_; subst f5_))
         have q28 : (((rd_T45 l0 x15_1).f2) : Int) ≤ ((t139.length : Int) : Int) := of_decide_eq_true ‹_›
         obtain ⟨i028, hi028, _, hsz28, _⟩ := info_parts info3
         have hroom28 : t139.length ≤ co29 := (Kd.R_reads' HO_3.out).2.1
         have hC28 : Kd.C (Kd.int .i64) _ Ao29 t139.length t139 := (Kd.R_reads' HO_3.out).2.2
         have hcut28 := cut_to (P := Tryz.prog) 23 3 .i64 Tryz.underlying23 hi028 Ao29 t139.length co29 ((rd_T45 l0 x15_1).f2) (of_decide_eq_true ‹_›) q28 hroom28
         have hr28 := Kd.C_take (m := (((rd_T45 l0 x15_1).f2) : Int).toNat) hC28 (by omega)
         have hy28 : y144.length = (((rd_T45 l0 x15_1).f2) : Int).toNat := (by rw [Ny144.out, List.length_take]; omega)
         rw [← Ny144.out] at hr28
         rw [← hy28] at hcut28
         have HR147 := Aside0.mk hr28
         have HC147 := Aside0.mk (show y144.length ≤ co29 from by omega)
         clear hr28 hC28 hroom28 hi028 hsz28
         have KY28 := Aside0.mk hy28
         clear hy28
         have KL28 := Aside0.mk (show (((rd_T45 l0 x15_1).f2) : Int).toNat ≤ t139.length from by omega)
         replace q28 := eq_true q28
         refine start_ (n := 9) (S := fun w' => w'.cell? ⟨gb143, 0, none⟩ = some (.string ((rd_T45 l0 x15_1).f0)) ∧ w'.cell? ⟨gb143, 1, none⟩ = some (.int .i64 ((rd_T45 l0 x15_1).f1)) ∧ w'.cell? ⟨gb143, 2, none⟩ = some (.int .i64 ((rd_T45 l0 x15_1).f2)) ∧ w'.cell? ⟨gb143, 3, none⟩ = some (.int .i64 ((rd_T45 l0 x15_1).f3)) ∧ w'.cell? ⟨gb143, 4, none⟩ = some (.int .i64 ((rd_T45 l0 x15_1).f4)) ∧ w'.cell? ⟨gb143, 5, none⟩ = some (.int .i64 ((rd_T45 l0 x15_1).f5)) ∧ w'.cell? ⟨gb143, 6, none⟩ = some (.int .i64 ((rd_T45 l0 x15_1).f6)) ∧ w'.cell? ⟨gb143, 7, none⟩ = some (.bool ((rd_T45 l0 x15_1).f7))) (ds := []) #[F,F,F,F,F,F,F,F,F] (by kernel_rfl) rfl rfl ⟨(blk_cell BK143.out 0).trans rfl, (blk_cell BK143.out 1).trans rfl, (blk_cell BK143.out 2).trans rfl, (blk_cell BK143.out 3).trans rfl, (blk_cell BK143.out 4).trans rfl, (blk_cell BK143.out 5).trans rfl, (blk_cell BK143.out 6).trans rfl, (blk_cell BK143.out 7).trans rfl⟩ (fun hHeld => ?_); refine with_tabW edf_Meets.tab7 edf_Meets.bits7 (fun HT_ HW_ => ?_)
         generalize w26.drew = w27 at HO_3 BK143 HB HR147 hHeld ⊢
         refine pure_ (i := 0) (N := some 20) (v := ?_) (a' := ?_) #[T,F,F,F,F,F,F,F,F] rfl rfl (any_of HT_.out (by kernel_rfl)) (fun _ _ _ h => h) (Or.inl ⟨by rfl, ?_⟩) ?_ ?_
         rotate_left
         ·intro w'
          go_simp
          with_reducible rfl
         rotate_left
         ·simp only [Act.put, List.setIfInBounds_toArray, List.set_cons_zero, List.set_cons_succ, i64_w, i32_w]
          rfl
         refine pure_ (i := 1) (N := some 21) (v := ?_) (a' := ?_) #[T,T,F,F,F,F,F,F,F] rfl rfl (any_of HT_.out (by kernel_rfl)) (fun _ _ _ h => h) (Or.inl ⟨by rfl, ?_⟩) ?_ ?_
         rotate_left
         ·intro w'
          go_simp
          with_reducible rfl
         rotate_left
         ·simp only [Act.put, List.setIfInBounds_toArray, List.set_cons_zero, List.set_cons_succ, i64_w, i32_w]
          rfl
         refine pure_ (i := 4) (N := some 24) (v := ?_) (a' := ?_) #[T,T,F,F,T,F,F,F,F] rfl rfl (any_of HT_.out (by kernel_rfl)) (fun _ _ _ h => h) (Or.inl ⟨by rfl, ?_⟩) ?_ ?_
         rotate_left
         ·intro w'
          go_simp
          with_reducible rfl
         rotate_left
         ·simp only [Act.put, List.setIfInBounds_toArray, List.set_cons_zero, List.set_cons_succ, i64_w, i32_w]
          rfl
         refine take_ (i := 2) (N := some 22) (v := ?_) (a' := ?_) #[T,T,T,F,T,F,F,F,F] rfl rfl (take_ofW HT_.out HW_.out (by kernel_rfl)) (fun _ _ _ h => h) (Or.inl ⟨by rfl, ?_⟩) hHeld ?_ ?_
         rotate_left
         ·rintro w' ⟨s0, s1, s2, s3, s4, s5, s6, s7⟩
          go_simp
          with_reducible rfl
         rotate_left
         ·simp only [Act.put, List.setIfInBounds_toArray, List.set_cons_zero, List.set_cons_succ, i64_w, i32_w]
          rfl
         refine pure_ (i := 3) (N := some 23) (v := ?_) (a' := ?_) #[T,T,T,T,T,F,F,F,F] rfl rfl (any_of HT_.out (by kernel_rfl)) (fun _ _ _ h => h) (Or.inl ⟨by rfl, ?_⟩) ?_ ?_
         rotate_left
         ·intro w'
          go_simp
          with_reducible rfl
         rotate_left
         ·simp only [Act.put, List.setIfInBounds_toArray, List.set_cons_zero, List.set_cons_succ, i64_w, i32_w]
          rfl
         refine take_ (i := 6) (N := some 26) (v := ?_) (a' := ?_) #[T,T,T,T,T,F,T,F,F] rfl rfl (take_ofW HT_.out HW_.out (by kernel_rfl)) (fun _ _ _ h => h) (Or.inl ⟨by rfl, ?_⟩) hHeld ?_ ?_
         rotate_left
         ·rintro w' ⟨s0, s1, s2, s3, s4, s5, s6, s7⟩
          go_simp
          with_reducible rfl
         rotate_left
         ·simp only [Act.put, List.setIfInBounds_toArray, List.set_cons_zero, List.set_cons_succ, i64_w, i32_w]
          rfl
         refine one_ (i := 5) (N := some 25) #[true, true, true, true, true, true, true, false, false] rfl rfl (one_of HT_.out (by kernel_rfl)) (by decide) (fun K hK => ?_)
         refine goes_ Tryz.func63 (by kernel_rfl) rfl #[.slice Ao29 y144.length co29, .int .i64 x15_1] (by rfl) rfl rfl (by (try simp only [List.map_toArray, List.map_cons, List.map_nil]); first | done | rfl | (simp only [List.length_drop, List.length_take]; rfl)) ?_
         with_reducible refine (trace_Ran.calls k1 _ _ y144 x15_1 t148 _ ?side1 ?side2 A14.out).mono ?_
         (case side1 => repeat (first | exact (by repeat (first | (with_reducible exact HR147.out) | (with_reducible refine Kd.C_alloc ?_ _) | (with_reducible refine Kd.C_drewN ?_ _) | (with_reducible refine Kd.C_drew ?_) | exact HR147.out)) | (with_reducible refine Kd.C_alloc ?_ _) | (with_reducible refine Kd.C_drewN ?_ _) | (with_reducible refine Kd.C_drew ?_)))
         (case side2 => exact HC147.out)
         rintro e w' ⟨rfl, ⟨nd, rfl⟩⟩
         refine ⟨_, rfl, ?_⟩
         refine hK.out _ _ ⟨(blk_cell BK143.out 0).trans rfl, (blk_cell BK143.out 1).trans rfl, (blk_cell BK143.out 2).trans rfl, (blk_cell BK143.out 3).trans rfl, (blk_cell BK143.out 4).trans rfl, (blk_cell BK143.out 5).trans rfl, (blk_cell BK143.out 6).trans rfl, (blk_cell BK143.out 7).trans rfl⟩ (fun hHeld => ?_)
         clear hK K
         refine norm_ (a' := ?_) ?_ ?_
         rotate_left
         ·show Act.put _ (some 25) _ = _
          simp only [Act.put, List.setIfInBounds_toArray, List.set_cons_zero, List.set_cons_succ, i64_w, i32_w]
          rfl
         refine one_ (i := 7) (N := some 27) #[true, true, true, true, true, true, true, true, false] rfl rfl (one_of HT_.out (by kernel_rfl)) (by decide) (fun K hK => ?_)
         refine goes_ Tryz.func62 (by kernel_rfl) rfl #[.agg #[.string ((rd_T45 l0 x15_1).f0), .int .i64 ((rd_T45 l0 x15_1).f1), .int .i64 ((rd_T45 l0 x15_1).f2), .int .i64 ((rd_T45 l0 x15_1).f3), .int .i64 ((rd_T45 l0 x15_1).f4), .int .i64 ((rd_T45 l0 x15_1).f5), .int .i64 ((rd_T45 l0 x15_1).f6), .bool ((rd_T45 l0 x15_1).f7)]] (by rfl) rfl rfl (by (try simp only [List.map_toArray, List.map_cons, List.map_nil]); first | done | rfl | (simp only [List.length_drop, List.length_take]; rfl)) ?_
         with_reducible refine (job_Charge.calls ((rd_T45 l0 x15_1).f0) ((rd_T45 l0 x15_1).f1) ((rd_T45 l0 x15_1).f2) ((rd_T45 l0 x15_1).f3) ((rd_T45 l0 x15_1).f4) ((rd_T45 l0 x15_1).f5) ((rd_T45 l0 x15_1).f6) ((rd_T45 l0 x15_1).f7) t149 _ (tab_below HTb.out (bel HB)) A15.out).mono ?_
         rintro e w30 ⟨rfl, hb⟩
         refine ⟨_, rfl, ?_⟩
         have n0_ := Aside0.mk (Kd.R_below (by (with_reducible repeat (first | apply Kd.R_alloc | apply Kd.R_drewN | apply Kd.R_drew)); exact HO_3.out) hb)
         have n1_ := Aside0.mk (blk_below (g := gb143) (o := .cells #[.string ((rd_T45 l0 x15_1).f0), .int .i64 ((rd_T45 l0 x15_1).f1), .int .i64 ((rd_T45 l0 x15_1).f2), .int .i64 ((rd_T45 l0 x15_1).f3), .int .i64 ((rd_T45 l0 x15_1).f4), .int .i64 ((rd_T45 l0 x15_1).f5), .int .i64 ((rd_T45 l0 x15_1).f6), .bool ((rd_T45 l0 x15_1).f7)] 45 (0, 0)) (by (with_reducible repeat (first | refine blk_drewN ?_ _ | refine blk_drew ?_ | refine blk_alloc ?_ _)); exact BK143.out) hb)
         have n2_ := Aside0.mk (Kd.C_below (by repeat (first | (with_reducible exact HR147.out) | (with_reducible refine Kd.C_alloc ?_ _) | (with_reducible refine Kd.C_drewN ?_ _) | (with_reducible refine Kd.C_drew ?_) | exact HR147.out)) hb)
         have n3_ := Aside0.mk (below_step (by repeat (first | (with_reducible first | exact HB.out | apply below_alloc | apply pw_below_drewN | apply below_drew1 | refine below_set ?_ GE143.out) | exact HB.out)) hb)
         clear HO_3
         clear BK143
         clear HR147
         clear HB
         have HO_3 := n0_
         have BK143 := n1_
         have HR147 := n2_
         have HB := n3_
         clear n0_ n1_ n2_ n3_
         (try clear hb)
         (try clear hb2)
         (try clear hk)
         (try clear hi)
         refine hK.out _ _ ⟨(blk_cell BK143.out 0).trans rfl, (blk_cell BK143.out 1).trans rfl, (blk_cell BK143.out 2).trans rfl, (blk_cell BK143.out 3).trans rfl, (blk_cell BK143.out 4).trans rfl, (blk_cell BK143.out 5).trans rfl, (blk_cell BK143.out 6).trans rfl, (blk_cell BK143.out 7).trans rfl⟩ (fun hHeld => ?_)
         clear hK K
         refine norm_ (a' := ?_) ?_ ?_
         rotate_left
         ·show Act.put _ (some 27) _ = _
          simp only [Act.put, List.setIfInBounds_toArray, List.set_cons_zero, List.set_cons_succ, i64_w, i32_w]
          rfl
         refine pure_ (i := 8) (N := some 28) (v := ?_) (a' := ?_) #[T,T,T,T,T,T,T,T,T] rfl rfl (any_of HT_.out (by kernel_rfl)) (fun _ _ _ h => h) (Or.inl ⟨by rfl, ?_⟩) ?_ ?_
         rotate_left
         ·intro w'
          go_simp
          with_reducible rfl
         rotate_left
         ·simp only [Act.put, List.setIfInBounds_toArray, List.set_cons_zero, List.set_cons_succ, i64_w, i32_w]
          rfl
         refine done_ (done_of HT_.out (by kernel_rfl)) ?_
         have H := HH_.out
         clear HH_
         by_cases c16 : t148 < t149
         ·rw [if_pos c16] at H
          have c16b0 : decide (t148 < t149) = true := decide_eq_true c16
          rw [c16b0]
          clear c16
          obtain rfl := Option.some.inj H
          try go_wp2
          go_ret
          exact ⟨by first | rfl | (simp [*] <;> rfl), by repeat (first | (with_reducible first | exact HB.out | apply below_alloc | apply pw_below_drewN | apply below_drew1 | refine below_set ?_ GE143.out) | exact HB.out)⟩
         ·rw [if_neg c16] at H
          have c16b0 : decide (t148 < t149) = false := decide_eq_false c16
          rw [c16b0]
          clear c16
          have H' := Aside0.mk H
          clear H
          try go_wp2
          go_roundg k1
          case measure => have := HK1.out; omega
          case rel => exact ⟨(wrap64 (x15_1 + 1)), (by first | rfl | simp [*]), H', ⟨by have := HK1.out; omega⟩, ⟨by (with_reducible repeat (first | apply Kd.R_alloc | apply Kd.R_drewN | apply Kd.R_drew)); exact HO_3.out⟩, ⟨by repeat (first | (with_reducible first | exact HB.out | apply below_alloc | apply pw_below_drewN | apply below_drew1 | refine below_set ?_ GE143.out) | exact HB.out)⟩⟩
        ·rw [if_neg c13] at H
         exact absurd H (by simp)
       ·rw [if_neg c12] at H
        exact absurd H (by simp)
      ·rw [if_neg c11] at H
       exact absurd H (by simp)
     ·rw [if_neg c10] at H
      exact absurd H (by simp)
    ·rw [if_neg c9] at H
     have c9b0 : decide (x15_1 < (l0.length : Int)) = false := decide_eq_false c9
     clear c9
     obtain rfl := Option.some.inj H
     go_wp2
     go_ret
     exact ⟨by first | rfl | (simp [*] <;> rfl), bel HB⟩
 ·replace c3 := Bool.eq_false_iff.mpr c3
  subst c3
  have H1 : (some false) = some r := by rw [if_neg (show ¬ (false = true) by decide)] at H; exact H
  clear H
  have H := H1
  clear H1
  obtain rfl := Option.some.inj H
  go_enter Tryz.func41, Tryz.ntmps41
  go_wp2_with (first | ((with_reducible refine gate_callee (f := 20) rfl ?_); refine goesL_ (some 7) rfl rfl Tryz.func20 (by kernel_rfl) rfl #[.slice A0 l0.length c0] rfl (by (try simp only [List.map_toArray, List.map_cons, List.map_nil]); first | done | rfl | (simp only [List.length_drop, List.length_take]; rfl)) ?_; (with_reducible refine (job_All.calls _ _ l0 false _ (tab_below HTb.out (bel HB)) ?side1 ?side2 A2.out).mono ?_); (case side1 => repeat (first | exact HR0.out | (with_reducible refine Kd.C_alloc ?_ _) | (with_reducible refine Kd.C_drewN ?_ _) | (with_reducible refine Kd.C_drew ?_))); (case side2 => exact HC0.out); rintro e w31 ⟨rfl, hb⟩; refine ⟨_, rfl, ?_⟩; have n0_ := Aside0.mk (below_step (bel HB) hb); clear HB; have HB := n0_; clear n0_; (try clear hb); (try clear hb2); (try clear hk); (try clear hi)))
  go_ret
  exact ⟨by first | rfl | (simp [*] <;> rfl), bel HB⟩

/-! ### rival_met: function 22 -/
def rival_met.l0 : Nat → List (S45) → List (S45) → List Int → Int → Int → Option (Bool)
 | 0, _, _, _, _, _ => none
 | k + 1, x0, x5, x9, x10, x11 => if x11 < x10 then (if 0 ≤ x11 then (if x11 < (x9.length : Int) then (if 0 ≤ (rd x9 x11) then (if (rd x9 x11) < (x0.length : Int) then (if x5.length < 1954687338268 then (rival_met.l0 k x0 (x5 ++ [(⟨(rd_T45 x0 (rd x9 x11)).f0, (rd_T45 x0 (rd x9 x11)).f1, (rd_T45 x0 (rd x9 x11)).f2, (rd_T45 x0 (rd x9 x11)).f4, (rd_T45 x0 (rd x9 x11)).f4, (rd_T45 x0 (rd x9 x11)).f5, 0, (rd_T45 x0 (rd x9 x11)).f7⟩ : S45)]) x9 x10 (wrap64 (x11 + 1))) else (none)) else (none)) else (none)) else (none)) else (none)) else ((edf_Meets.f k x5).bind fun t156 => (some t156))
def rival_met.f (k : Nat) (l0 : List (S45)) (l1 : List Int) : Option (Bool) := rival_met.l0 k l0 ([] : List (S45)) l1 (l1.length : Int) 0
set_option maxHeartbeats 8000000 in
set_option maxRecDepth 100000 in
theorem rival_met.calls (k : Nat) (A0 : Option Addr) (c0 : Nat) (l0 : List (S45)) (A1 : Option Addr) (c1 : Nat) (l1 : List Int) (r : Bool) (w : World) (hTb : Tab w) (hr0 : Kd.C k45 w A0 l0.length l0) (hc0 : l0.length ≤ c0) (hr1 : Kd.C (Kd.int .i64) w A1 l1.length l1) (hc1 : l1.length ≤ c1) (h : rival_met.f k l0 l1 = some r) :
  Calls Tryz.prog 22 #[.slice A0 l0.length c0, .slice A1 l1.length c1] w fun e w' => e = .returned (.bool r) ∧ Below w.heap.size w w' := by
 have HTb := Aside0.mk hTb
 clear hTb
 have hu45 := Tryz.underlying45
 have HR0 := Aside0.mk hr0
 have HC0 := Aside0.mk hc0
 clear hr0 hc0
 have HR1 := Aside0.mk hr1
 have HC1 := Aside0.mk hc1
 clear hr1 hc1
 have HB := Aside0.mk (Below.refl w.heap.size w)
 have H : (rival_met.l0 k l0 ([] : List (S45)) l1 (l1.length : Int) 0) = some r := h
 clear h
 have H' := Aside0.mk H
 clear H
 go_enter Tryz.func22, Tryz.ntmps22
 go_wp2
 go_loopg [5, 11] k (fun kq v5 v11 w' => ∃ (x5_1 : List (S45)) (x11_1 : Int), v11 = .int .i64 x11_1 ∧ Aside0 (rival_met.l0 kq l0 x5_1 l1 (l1.length : Int) x11_1 = some r) ∧ Aside0 (kq ≤ k) ∧ Aside0 (Kd.R k45 45 w' w.heap.size (fun _ => True) v5 x5_1) ∧ Aside0 (Below w.heap.size w w'))
 case atStart => exact ⟨(([] : List (S45))), (0), (by first | rfl | simp [*]), H', ⟨Nat.le_refl _⟩, ⟨by first | exact Kd.R_nil _ _ _ _ _ | exact Kd.N_nil _ _ _ _ _ | exact Kd.V_nil _ _ _ _ _ | exact Kd.Q_nil _ _ _ _ _ | exact Kd.S_nil _ _ _ _ _⟩, ⟨bel HB⟩⟩
 case round =>
  clear H'
  try clear c1
  try clear c2
  try clear p2
  obtain ⟨x5_1, x11_1, rfl, HA, HK1, HO_5, HB⟩ := hrel
  cases gk with
  | zero => exact absurd HA.out (by simp [rival_met.l0])
  | succ k1 =>
   have H := HA.out
   clear HA
   simp only [rival_met.l0] at H
   by_cases c3 : x11_1 < (l1.length : Int)
   ·rw [if_pos c3] at H
    have c3b0 : decide (x11_1 < (l1.length : Int)) = true := decide_eq_true c3
    clear c3
    by_cases c4 : 0 ≤ x11_1
    ·rw [if_pos c4] at H
     have c4b0 : decide (0 ≤ x11_1) = true := decide_eq_true c4
     clear c4
     by_cases c5 : x11_1 < (l1.length : Int)
     ·rw [if_pos c5] at H
      have c5b0 : decide (x11_1 < (l1.length : Int)) = true := decide_eq_true c5
      clear c5
      by_cases c6 : 0 ≤ (rd l1 x11_1)
      ·rw [if_pos c6] at H
       have c6b0 : decide (0 ≤ (rd l1 x11_1)) = true := decide_eq_true c6
       clear c6
       by_cases c7 : (rd l1 x11_1) < (l0.length : Int)
       ·rw [if_pos c7] at H
        have c7b0 : decide ((rd l1 x11_1) < (l0.length : Int)) = true := decide_eq_true c7
        clear c7
        by_cases c8 : x5_1.length < 1954687338268
        ·rw [if_pos c8] at H
         have LMc8 := Aside0.mk c8
         clear c8
         obtain ⟨y153, hy153⟩ : ∃ y_ : List (S45), y_ = (x5_1 ++ [(⟨(rd_T45 l0 (rd l1 x11_1)).f0, (rd_T45 l0 (rd l1 x11_1)).f1, (rd_T45 l0 (rd l1 x11_1)).f2, (rd_T45 l0 (rd l1 x11_1)).f4, (rd_T45 l0 (rd l1 x11_1)).f4, (rd_T45 l0 (rd l1 x11_1)).f5, 0, (rd_T45 l0 (rd l1 x11_1)).f7⟩ : S45)]) := ⟨_, rfl⟩
         replace H : (rival_met.l0 k1 l0 y153 l1 (l1.length : Int) (wrap64 (x11_1 + 1))) = some r := by first | (rw [hy153]; with_reducible exact H) | (have H2_ := (Option.bind_some _ _).symm.trans H; rw [hy153]; with_reducible exact H2_) | (have H2_ := (Option.bind_some _ _).symm.trans H; with_reducible exact H2_) | with_reducible exact H | (rw [hy153]; exact H) | exact H
         have Ny153 := Aside0.mk hy153
         clear hy153
         have H' := Aside0.mk H
         clear H
         have p150 : 0 ≤ (x11_1 : Int) := of_decide_eq_true ‹_›
         have q150 : x11_1 < (l1.length : Int) := of_decide_eq_true ‹_›
         obtain ⟨ad150, e150, hx150_0⟩ := Kd.at_int HR1.out x11_1 p150 q150
         cases e150
         replace hx150_0 := bl HB hx150_0
         replace p150 := eq_true p150
         replace q150 := eq_true q150
         have p151 : 0 ≤ ((rd l1 x11_1) : Int) := of_decide_eq_true ‹_›
         have q151 : (rd l1 x11_1) < (l0.length : Int) := of_decide_eq_true ‹_›
         obtain ⟨ad151, e151, hx151_0, hx151_1, hx151_2, hx151_3, hx151_4, hx151_5, hx151_6, hx151_7⟩ := at_T45 HR0.out (rd l1 x11_1) p151 q151
         cases e151
         replace hx151_0 := bl HB hx151_0
         replace hx151_1 := bl HB hx151_1
         replace hx151_2 := bl HB hx151_2
         replace hx151_3 := bl HB hx151_3
         replace hx151_4 := bl HB hx151_4
         replace hx151_5 := bl HB hx151_5
         replace hx151_6 := bl HB hx151_6
         replace hx151_7 := bl HB hx151_7
         replace p151 := eq_true p151
         replace q151 := eq_true q151
         generalize rd_T45 l0 (rd l1 x11_1) = x at *
         go_upto_region 6 with (fail)
         have HOa := Aside0.mk (Kd.R_alloc (Kd.R_elderB HO_5.out wr.heap.size (Nat.le_refl _)) (.cells #[.string x.f0, .int .i64 x.f1, .int .i64 x.f2, .int .i64 x.f3, .int .i64 x.f4, .int .i64 x.f5, .int .i64 x.f6, .bool x.f7] 45))
         have HBa := Aside0.mk (below_alloc HB.out (.cells #[.string x.f0, .int .i64 x.f1, .int .i64 x.f2, .int .i64 x.f3, .int .i64 x.f4, .int .i64 x.f5, .int .i64 x.f6, .bool x.f7] 45))
         have HJa := Aside0.mk (blk_new wr (.cells #[.string x.f0, .int .i64 x.f1, .int .i64 x.f2, .int .i64 x.f3, .int .i64 x.f4, .int .i64 x.f5, .int .i64 x.f6, .bool x.f7] 45))
         have GE := Aside0.mk (below_size HB.out)
         clear HO_5 HB hx150_0 hx151_0 hx151_1 hx151_2 hx151_3 hx151_4 hx151_5 hx151_6 hx151_7
         generalize wr.alloc (.cells #[.string x.f0, .int .i64 x.f1, .int .i64 x.f2, .int .i64 x.f3, .int .i64 x.f4, .int .i64 x.f5, .int .i64 x.f6, .bool x.f7] 45) = Wd at HOa HBa HJa ⊢
         generalize wr.heap.size = J at HOa HJa GE ⊢
         have c3 : Wd.cell? ⟨J, 3, none⟩ = some (.int .i64 x.f3) := (blk_cell HJa.out 3).trans rfl
         have c4 : Wd.cell? ⟨J, 4, none⟩ = some (.int .i64 x.f4) := (blk_cell HJa.out 4).trans rfl
         have c6 : Wd.cell? ⟨J, 6, none⟩ = some (.int .i64 x.f6) := (blk_cell HJa.out 6).trans rfl
         have f3 := blk_frozen HJa.out 3
         have f6 := blk_frozen HJa.out 6
         go_upto_region 7 with (fail)
         have HJ2 := Aside0.mk (blk_put (cs' := #[.string x.f0, .int .i64 x.f1, .int .i64 x.f2, .int .i64 x.f4, .int .i64 x.f4, .int .i64 x.f5, .int .i64 0, .bool x.f7]) (blk_put (cs' := #[.string x.f0, .int .i64 x.f1, .int .i64 x.f2, .int .i64 x.f4, .int .i64 x.f4, .int .i64 x.f5, .int .i64 x.f6, .bool x.f7]) HJa.out 3 (.int .i64 x.f4) rfl) 6 (.int .i64 0) rfl)
         have HO2 := Aside0.mk (Kd.R_far (p := ⟨J, 6, none⟩) (Kd.R_far (p := ⟨J, 3, none⟩) HOa.out (fun _ hk => hk.2) (.int .i64 x.f4)) (fun _ hk => hk.2) (.int .i64 0))
         have HB2 := Aside0.mk (below_set (below_set HBa.out GE.out (j := 3) (v := .int .i64 x.f4)) GE.out (j := 6) (v := .int .i64 0))
         clear HOa HBa HJa c3 c4 c6 f3 f6
         generalize (Wd.setCell ⟨J, 3, none⟩ (.int .i64 x.f4)).setCell ⟨J, 6, none⟩ (.int .i64 0) = We at HJ2 HO2 HB2 ⊢
         have d0 : We.cell? ⟨J, 0, none⟩ = some (.string x.f0) := (blk_cell HJ2.out 0).trans rfl
         have d1 : We.cell? ⟨J, 1, none⟩ = some (.int .i64 x.f1) := (blk_cell HJ2.out 1).trans rfl
         have d2 : We.cell? ⟨J, 2, none⟩ = some (.int .i64 x.f2) := (blk_cell HJ2.out 2).trans rfl
         have d3 : We.cell? ⟨J, 3, none⟩ = some (.int .i64 x.f4) := (blk_cell HJ2.out 3).trans rfl
         have d4 : We.cell? ⟨J, 4, none⟩ = some (.int .i64 x.f4) := (blk_cell HJ2.out 4).trans rfl
         have d5 : We.cell? ⟨J, 5, none⟩ = some (.int .i64 x.f5) := (blk_cell HJ2.out 5).trans rfl
         have d6 : We.cell? ⟨J, 6, none⟩ = some (.int .i64 0) := (blk_cell HJ2.out 6).trans rfl
         have d7 : We.cell? ⟨J, 7, none⟩ = some (.bool x.f7) := (blk_cell HJ2.out 7).trans rfl
         have HLt := Aside0.mk (blk_lt HJ2.out)
         go_wp2_with (first | ((with_reducible refine gate_builtin (b := .append) (xs := #[.tmp 23, .tmp 25]) rfl ?_); at_builtin; refine Kd.R_append k45 (w0 := w) w.heap.size rfl (.tmp 23) (.tmp 25) 22 45 (.agg #[(.string ⟨#[]⟩), (.int .i64 0), (.int .i64 0), (.int .i64 0), (.int .i64 0), (.int .i64 0), (.int .i64 0), (.bool false)]) 72 rfl Tryz.underlying22 info45 rfl (by decide) (by omega) u5 x5_1 (⟨x.f0, x.f1, x.f2, x.f4, x.f4, x.f5, 0, x.f7⟩ : S45) [.string x.f0, .int .i64 x.f1, .int .i64 x.f2, .int .i64 x.f4, .int .i64 x.f4, .int .i64 x.f5, .int .i64 0, .bool x.f7] (fun k_ => True ∧ k_ ≠ J) (fun _ => False) rfl (by first | (go_simp; done) | (go_simp; rfl)) (k45_mkM _ _ _ (⟨x.f0, x.f1, x.f2, x.f4, x.f4, x.f5, 0, x.f7⟩ : S45)) (fun _ hk => hk.elim) (fun k_ hk => ⟨trivial, by have := HLt.out; omega⟩) HO2.out HB2.out (below_size HB2.out) (by have := LMc8.out; omega) ?_; intro v126 w11 ho hb hg hat; rw [← Ny153.out] at ho; have HO155 := Aside0.mk ho; have HB := Aside0.mk hb; clear ho hb hg hat))
         go_roundg k1
         case measure => have := HK1.out; omega
         case rel => exact ⟨(y153), (wrap64 (x11_1 + 1)), (by first | rfl | simp [*]), H', ⟨by have := HK1.out; omega⟩, ⟨by (with_reducible repeat (first | apply Kd.R_alloc | apply Kd.R_drewN | apply Kd.R_drew)); exact Kd.R_mono HO155.out (fun _ hk => trivial)⟩, ⟨by repeat (first | (with_reducible first | exact HB.out | apply below_alloc | apply pw_below_drewN | apply below_drew1 | refine below_set ?_ GE152.out) | exact HB.out)⟩⟩
        ·rw [if_neg c8] at H
         exact absurd H (by simp)
       ·rw [if_neg c7] at H
        exact absurd H (by simp)
      ·rw [if_neg c6] at H
       exact absurd H (by simp)
     ·rw [if_neg c5] at H
      exact absurd H (by simp)
    ·rw [if_neg c4] at H
     exact absurd H (by simp)
   ·rw [if_neg c3] at H
    have c3b0 : decide (x11_1 < (l1.length : Int)) = false := decide_eq_false c3
    clear c3
    replace H := Option.bind_eq_some_iff.mp H
    obtain ⟨t156, A120, H⟩ := H
    replace H : (some t156) = some r := H
    have A12 := Aside0.mk A120
    clear A120
    obtain rfl := Option.some.inj H
    obtain ⟨Ao13, co13, eo13⟩ := Kd.R_slice HO_5.out
    subst eo13
    go_wp2_with (first | ((with_reducible refine gate_callee (f := 41) rfl ?_); refine goesL_ (some 29) rfl rfl Tryz.func41 (by kernel_rfl) rfl #[.slice Ao13 x5_1.length co13] rfl (by (try simp only [List.map_toArray, List.map_cons, List.map_nil]); first | done | rfl | (simp only [List.length_drop, List.length_take]; rfl)) ?_; (with_reducible refine (edf_Meets.calls k1 _ _ x5_1 t156 _ (tab_below HTb.out (bel HB)) ?side1 ?side2 A12.out).mono ?_); (case side1 => repeat (first | exact (Kd.R_reads' HO_5.out).2.2 | (with_reducible refine Kd.C_alloc ?_ _) | (with_reducible refine Kd.C_drewN ?_ _) | (with_reducible refine Kd.C_drew ?_))); (case side2 => exact (Kd.R_reads' HO_5.out).2.1); rintro e w14 ⟨rfl, hb⟩; refine ⟨_, rfl, ?_⟩; have n0_ := Aside0.mk (Kd.R_below (by (with_reducible repeat (first | apply Kd.R_alloc | apply Kd.R_drewN | apply Kd.R_drew)); exact HO_5.out) hb); have n1_ := Aside0.mk (below_step (bel HB) hb); clear HO_5; clear HB; have HO_5 := n0_; have HB := n1_; clear n0_ n1_; (try clear hb); (try clear hb2); (try clear hk); (try clear hi)))
    go_ret
    exact ⟨by first | rfl | (simp [*] <;> rfl), bel HB⟩
end Go.Proofs.YtobkfbkhcghaeaaGreatDoor.PRv
